/- Aiming by trying: how many grids lead a beam to a port. -/
import Derived.Test.YtmdjekikefbhpaaAll
import Derived.Test.YtmdjekikefbhpaaPBIs
namespace Go.Proofs.Ytmdjekikefbhpaa
set_option maxRecDepth 100000
set_option linter.unusedSimpArgs false
set_option linter.unusedVariables false
open Go Go.RowKit

def aimB (g : Grid) (p q k : Int) : Bool := portIn g p && portIn g q && decide (p ≠ q) && decide (((nR g * nC g : Nat) : Int) ≤ k)
theorem aimB_ex {g : Grid} {p q k : Int} (h : aimB g p q k = true) : GridOk g ∧ ∃ a b : Nat, p = a ∧ q = b ∧ a < ports g ∧ b < ports g ∧ a ≠ b ∧ ((nR g * nC g : Nat) : Int) ≤ k := by
  simp only [aimB, Bool.and_eq_true, decide_eq_true_eq] at h
  obtain ⟨⟨⟨h1, h2⟩, h3⟩, h4⟩ := h
  obtain ⟨hG, a, rfl, ha⟩ := portIn_ex h1
  obtain ⟨_, b, rfl, hb⟩ := portIn_ex h2
  exact ⟨hG, a, b, rfl, rfl, ha, hb, by omega, h4⟩
def endN (n m p k : Nat) : Nat := (way (numG n m k) p).2
def aimMany (g : Grid) (p q : Int) : Int × Bool := if aimB g p q 6 = true then (((tally (endN (nR g) (nC g) p.toNat) q.toNat (3 ^ (nR g * nC g)) : Nat) : Int), true) else (0, false)
theorem aimMany_at {g : Grid} {p q : Nat} (h : aimB g p q 6 = true) : aimMany g p q = (((tally (endN (nR g) (nC g) p) q (3 ^ (nR g * nC g)) : Nat) : Int), true) := by
  rw [aimMany, if_pos h]; rfl
theorem numG_ports {n : Nat} (m k : Nat) (h : 0 < n) : ports (numG n m k) = 2 * n + 2 * m := gridOf_ports m _ h
theorem pow6 {n m : Nat} (h : ((n * m : Nat) : Int) ≤ 6) : 3 ^ (n * m) ≤ 729 := Nat.pow_le_pow_right (by decide) (show n * m ≤ 6 by omega)

theorem icells (g : Grid) (a : Option Addr) (cap : Nat) (w : World) (hg : Sl rStr w a g) (hG : GridOk g) : Fn Try.prog 106 [.slice a g.length cap] w (fun v w1 => v = vint (nR g * nC g : Nat) ∧ w1 = w) := by
  refine Fn.enter (n := 10) Try.func106 rfl rfl rfl ?_
  show WC _ _ _ _ [(0, .slice a g.length cap)] _
  obtain ⟨h1, h2, h3, h4, h5, h6⟩ := hG
  obtain ⟨b, off, rfl⟩ := hg.addr (by omega)
  have hmI : (g.length : Int) * ((g.getD 0 []).length : Int) = ((nR g * nC g : Nat) : Int) := (Int.natCast_mul _ _).symm
  have hle : nR g * nC g ≤ 25 := Nat.mul_le_mul h2 h4
  refine WC.seq ?_
  refine WC.region ?_
  refine WL.u rfl rfl (Wt.plain rfl) (Ex.assign rfl) ?_
  refine WL.next ?_
  refine WC.seq ?_
  refine WC.region ?_
  refine WL.u rfl rfl (Wt.plain rfl) (Ex.move rfl) ?_
  refine WL.u rfl rfl (Wt.plain rfl) (Ex.lenSl Try.underlying37 rfl) ?_
  refine WL.u rfl rfl (Wt.plain rfl) (Ex.move rfl) ?_
  refine WL.u rfl rfl (Wt.plain rfl) (Ex.indexAddr Try.underlying37 ty9 rfl rfl (by omega)) ?_
  refine WL.u rfl rfl (Wt.plain rfl) (Ex.loadSl flat9 hg rfl rfl (getD_get g 0 [] (by omega))) ?_
  refine WL.u rfl rfl (Wt.plain rfl) (Ex.lenStr Try.underlying9 rfl) ?_
  refine WL.u rfl rfl (Wt.plain rfl) ((Ex.mul rfl rfl (by omega)).to (congrArg (Value.int IntKind.i64) hmI)) ?_
  refine WL.u rfl rfl (Wt.plain rfl) (Ex.assign rfl) ?_
  refine WL.next ?_
  refine WC.ret ?_
  refine WN.body1 rfl rfl ?_
  exact ⟨rfl, rfl⟩

theorem iaimOk (g : Grid) (a : Option Addr) (cap : Nat) (p q k : Int) (w : World) (hg : Sl rStr w a g) (hs : Short g) : Fn Try.prog 83 [.slice a g.length cap, vint p, vint q, vint k] w (fun v w1 => v = .bool (aimB g p q k) ∧ w1 = w) := by
  refine Fn.enter (n := 28) Try.func83 rfl rfl rfl ?_
  show WC _ _ _ _ [(0, .slice a g.length cap), (1, vint p), (2, vint q), (3, vint k)] _
  refine WC.seq ?_
  refine WC.region ?_
  refine WL.u rfl rfl (Wt.plain rfl) (Ex.assign rfl) ?_
  refine WL.next ?_
  refine WC.seq ?_
  refine WC.region ?_
  refine WL.u rfl rfl (Wt.plain rfl) (Ex.move rfl) ?_
  refine WL.u rfl rfl (Wt.plain rfl) (Ex.move rfl) ?_
  refine WL.call callable96 rfl (Wt.plain rfl) rfl rfl (iportOk g _ _ p _ hg hs) ?_
  rintro _ _ ⟨rfl, hw⟩; obtain rfl := hw.symm
  refine WL.u rfl rfl (Wt.plain rfl) (Ex.move rfl) ?_
  refine WL.split (t := 12) rfl (fun hg1_3 => ?_) (fun hg1_3 => ?_)
  · have hg1_3' := hg1_3; try simp only [decide_eq_true_eq, decide_eq_false_iff_not, Bool.not_eq_true', Bool.not_eq_false', Bool.not_eq_true, Bool.not_eq_false] at hg1_3'
    refine WL.u rfl rfl (Wt.guard' rfl rfl rfl hg1_3 rfl) (Ex.move rfl) ?_
    refine WL.u rfl rfl (Wt.guard' rfl rfl rfl hg1_3 rfl) (Ex.move rfl) ?_
    refine WL.call callable96 rfl (Wt.guard' rfl rfl rfl hg1_3 rfl) rfl rfl (iportOk g _ _ q _ hg hs) ?_
    rintro _ _ ⟨rfl, hw⟩; obtain rfl := hw.symm
    refine WL.u rfl rfl (Wt.plain rfl) (Ex.pickT rfl hg1_3 rfl) ?_
    refine WL.u rfl rfl (Wt.plain rfl) (Ex.move rfl) ?_
    refine WL.split (t := 17) rfl (fun hg1_8 => ?_) (fun hg1_8 => ?_)
    · have hg1_8' := hg1_8; try simp only [decide_eq_true_eq, decide_eq_false_iff_not, Bool.not_eq_true', Bool.not_eq_false', Bool.not_eq_true, Bool.not_eq_false] at hg1_8'
      obtain ⟨hG, _⟩ := portIn_ex hg1_3
      refine WL.u rfl rfl (Wt.guard' rfl rfl rfl hg1_8 rfl) (Ex.move rfl) ?_
      refine WL.u rfl rfl (Wt.guard' rfl rfl rfl hg1_8 rfl) (Ex.move rfl) ?_
      refine WL.u rfl rfl (Wt.guard' rfl rfl rfl hg1_8 rfl) (Ex.neq rfl rfl) ?_
      refine WL.u rfl rfl (Wt.plain rfl) (Ex.pickT rfl hg1_8 rfl) ?_
      refine WL.u rfl rfl (Wt.plain rfl) (Ex.move rfl) ?_
      refine WL.split (t := 22) rfl (fun hg1_13 => ?_) (fun hg1_13 => ?_)
      · have hg1_13' := hg1_13; try simp only [decide_eq_true_eq, decide_eq_false_iff_not, Bool.not_eq_true', Bool.not_eq_false', Bool.not_eq_true, Bool.not_eq_false] at hg1_13'
        refine WL.u rfl rfl (Wt.guard' rfl rfl rfl hg1_13 rfl) (Ex.move rfl) ?_
        refine WL.call callable106 rfl (Wt.guard' rfl rfl rfl hg1_13 rfl) rfl rfl (icells _ _ _ _ hg hG) ?_
        rintro _ _ ⟨rfl, hw⟩; obtain rfl := hw.symm
        refine WL.u rfl rfl (Wt.guard' rfl rfl rfl hg1_13 rfl) (Ex.move rfl) ?_
        refine WL.u rfl rfl (Wt.guard' rfl rfl rfl hg1_13 rfl) (Ex.leq rfl rfl) ?_
        refine WL.u rfl rfl (Wt.plain rfl) (Ex.pickT rfl hg1_13 rfl) ?_
        refine WL.u rfl rfl (Wt.plain rfl) (Ex.assign rfl) ?_
        refine WL.next ?_
        refine WC.ret ?_
        refine WN.body1 rfl rfl ?_
        exact ⟨congrArg Value.bool (by unfold aimB; rw [hg1_3, hg1_8, hg1_13]; rfl), rfl⟩
      have hg1_13' := hg1_13; try simp only [decide_eq_true_eq, decide_eq_false_iff_not, Bool.not_eq_true', Bool.not_eq_false', Bool.not_eq_true, Bool.not_eq_false] at hg1_13'
      refine WL.pass rfl rfl (Wt.guard' rfl rfl rfl hg1_13 rfl) ?_
      refine WL.pass rfl rfl (Wt.guard' rfl rfl rfl hg1_13 rfl) ?_
      refine WL.pass rfl rfl (Wt.guard' rfl rfl rfl hg1_13 rfl) ?_
      refine WL.pass rfl rfl (Wt.guard' rfl rfl rfl hg1_13 rfl) ?_
      refine WL.u rfl rfl (Wt.plain rfl) (Ex.pickF rfl hg1_13 rfl) ?_
      refine WL.u rfl rfl (Wt.plain rfl) (Ex.assign rfl) ?_
      refine WL.next ?_
      refine WC.ret ?_
      refine WN.body1 rfl rfl ?_
      exact ⟨congrArg Value.bool (by unfold aimB; rw [hg1_3, hg1_8, hg1_13]; rfl), rfl⟩
    have hg1_8' := hg1_8; try simp only [decide_eq_true_eq, decide_eq_false_iff_not, Bool.not_eq_true', Bool.not_eq_false', Bool.not_eq_true, Bool.not_eq_false] at hg1_8'
    refine WL.pass rfl rfl (Wt.guard' rfl rfl rfl hg1_8 rfl) ?_
    refine WL.pass rfl rfl (Wt.guard' rfl rfl rfl hg1_8 rfl) ?_
    refine WL.pass rfl rfl (Wt.guard' rfl rfl rfl hg1_8 rfl) ?_
    refine WL.u rfl rfl (Wt.plain rfl) (Ex.pickF rfl hg1_8 rfl) ?_
    refine WL.u rfl rfl (Wt.plain rfl) (Ex.move rfl) ?_
    refine WL.pass rfl rfl (Wt.guard' rfl rfl rfl rfl rfl) ?_
    refine WL.pass rfl rfl (Wt.guard' rfl rfl rfl rfl rfl) ?_
    refine WL.pass rfl rfl (Wt.guard' rfl rfl rfl rfl rfl) ?_
    refine WL.pass rfl rfl (Wt.guard' rfl rfl rfl rfl rfl) ?_
    refine WL.u rfl rfl (Wt.plain rfl) (Ex.pickF rfl rfl rfl) ?_
    refine WL.u rfl rfl (Wt.plain rfl) (Ex.assign rfl) ?_
    refine WL.next ?_
    refine WC.ret ?_
    refine WN.body1 rfl rfl ?_
    exact ⟨congrArg Value.bool (by unfold aimB; rw [hg1_3, hg1_8]; rfl), rfl⟩
  have hg1_3' := hg1_3; try simp only [decide_eq_true_eq, decide_eq_false_iff_not, Bool.not_eq_true', Bool.not_eq_false', Bool.not_eq_true, Bool.not_eq_false] at hg1_3'
  refine WL.pass rfl rfl (Wt.guard' rfl rfl rfl hg1_3 rfl) ?_
  refine WL.pass rfl rfl (Wt.guard' rfl rfl rfl hg1_3 rfl) ?_
  refine WL.pass rfl rfl (Wt.guard' rfl rfl rfl hg1_3 rfl) ?_
  refine WL.u rfl rfl (Wt.plain rfl) (Ex.pickF rfl hg1_3 rfl) ?_
  refine WL.u rfl rfl (Wt.plain rfl) (Ex.move rfl) ?_
  refine WL.pass rfl rfl (Wt.guard' rfl rfl rfl rfl rfl) ?_
  refine WL.pass rfl rfl (Wt.guard' rfl rfl rfl rfl rfl) ?_
  refine WL.pass rfl rfl (Wt.guard' rfl rfl rfl rfl rfl) ?_
  refine WL.u rfl rfl (Wt.plain rfl) (Ex.pickF rfl rfl rfl) ?_
  refine WL.u rfl rfl (Wt.plain rfl) (Ex.move rfl) ?_
  refine WL.pass rfl rfl (Wt.guard' rfl rfl rfl rfl rfl) ?_
  refine WL.pass rfl rfl (Wt.guard' rfl rfl rfl rfl rfl) ?_
  refine WL.pass rfl rfl (Wt.guard' rfl rfl rfl rfl rfl) ?_
  refine WL.pass rfl rfl (Wt.guard' rfl rfl rfl rfl rfl) ?_
  refine WL.u rfl rfl (Wt.plain rfl) (Ex.pickF rfl rfl rfl) ?_
  refine WL.u rfl rfl (Wt.plain rfl) (Ex.assign rfl) ?_
  refine WL.next ?_
  refine WC.ret ?_
  refine WN.body1 rfl rfl ?_
  exact ⟨congrArg Value.bool (by unfold aimB; rw [hg1_3]; rfl), rfl⟩

theorem sl9Given (g : Grid) (a : Option Addr) (cap : Nat) (p q k : Int) (w : World) (hg : Sl rStr w a g) (hs : Short g) : Fn Try.prog 78 [.slice a g.length cap, vint p, vint q, vint k] w (fun v w1 => v = .bool (aimB g p q k) ∧ Dr w w1) := by
  refine Fn.enter (n := 33) Try.func78 rfl rfl rfl ?_
  show WC _ _ _ _ [(0, .slice a g.length cap), (1, vint p), (2, vint q), (3, vint k)] _
  have hD := Dr.refl w
  refine WC.seq ?_
  refine WC.region ?_
  refine WL.u rfl rfl (Wt.plain rfl) (Ex.assign rfl) ?_
  refine WL.next ?_
  refine WC.seq ?_
  refine WC.region ?_
  refine WL.u rfl rfl (Wt.plain rfl) (Ex.move rfl) ?_
  refine WL.u rfl rfl (Wt.plain rfl) (Ex.move rfl) ?_
  refine WL.call callable120 rfl (Wt.plain rfl) rfl rfl (sl2Given g _ _ p _ (hg.dr hD) hs) ?_
  rintro _ wn ⟨rfl, hC⟩; replace hD := hD.trans hC; clear hC
  refine WL.u rfl rfl (Wt.plain rfl) (Ex.move rfl) ?_
  refine WL.split (t := 12) rfl (fun hg1_3 => ?_) (fun hg1_3 => ?_)
  · have hg1_3' := hg1_3; try simp only [decide_eq_true_eq, decide_eq_false_iff_not, Bool.not_eq_true', Bool.not_eq_false', Bool.not_eq_true, Bool.not_eq_false] at hg1_3'
    refine WL.u rfl rfl (Wt.guard' rfl rfl rfl hg1_3 rfl) (Ex.move rfl) ?_
    refine WL.u rfl rfl (Wt.guard' rfl rfl rfl hg1_3 rfl) (Ex.move rfl) ?_
    refine WL.call callable120 rfl (Wt.guard' rfl rfl rfl hg1_3 rfl) rfl rfl (sl2Given g _ _ q _ (hg.dr hD) hs) ?_
    rintro _ wn ⟨rfl, hC⟩; replace hD := hD.trans hC; clear hC
    refine WL.u rfl rfl (Wt.plain rfl) (Ex.pickT rfl hg1_3 rfl) ?_
    refine WL.u rfl rfl (Wt.plain rfl) (Ex.move rfl) ?_
    refine WL.split (t := 17) rfl (fun hg1_8 => ?_) (fun hg1_8 => ?_)
    · have hg1_8' := hg1_8; try simp only [decide_eq_true_eq, decide_eq_false_iff_not, Bool.not_eq_true', Bool.not_eq_false', Bool.not_eq_true, Bool.not_eq_false] at hg1_8'
      obtain ⟨hG, _⟩ := portIn_ex hg1_3
      obtain ⟨h1, h2, h3, h4, h5, h6⟩ := hG
      obtain ⟨b, off, rfl⟩ := hg.addr (by omega)
      have hmI : (g.length : Int) * ((g.getD 0 []).length : Int) = ((nR g * nC g : Nat) : Int) := (Int.natCast_mul _ _).symm
      have hle : nR g * nC g ≤ 25 := Nat.mul_le_mul h2 h4
      refine WL.u rfl rfl (Wt.guard' rfl rfl rfl hg1_8 rfl) (Ex.move rfl) ?_
      refine WL.u rfl rfl (Wt.guard' rfl rfl rfl hg1_8 rfl) (Ex.move rfl) ?_
      refine WL.u rfl rfl (Wt.guard' rfl rfl rfl hg1_8 rfl) (Ex.neq rfl rfl) ?_
      refine WL.u rfl rfl (Wt.plain rfl) (Ex.pickT rfl hg1_8 rfl) ?_
      refine WL.u rfl rfl (Wt.plain rfl) (Ex.move rfl) ?_
      refine WL.split (t := 22) rfl (fun hg1_13 => ?_) (fun hg1_13 => ?_)
      · have hg1_13' := hg1_13; try simp only [decide_eq_true_eq, decide_eq_false_iff_not, Bool.not_eq_true', Bool.not_eq_false', Bool.not_eq_true, Bool.not_eq_false] at hg1_13'
        refine WL.u rfl rfl (Wt.guard' rfl rfl rfl hg1_13 rfl) (Ex.move rfl) ?_
        refine WL.u rfl rfl (Wt.guard' rfl rfl rfl hg1_13 rfl) (Ex.lenSl Try.underlying37 rfl) ?_
        refine WL.u rfl rfl (Wt.guard' rfl rfl rfl hg1_13 rfl) (Ex.move rfl) ?_
        refine WL.u rfl rfl (Wt.guard' rfl rfl rfl hg1_13 rfl) (Ex.indexAddr Try.underlying37 ty9 rfl rfl (by omega)) ?_
        refine WL.u rfl rfl (Wt.guard' rfl rfl rfl hg1_13 rfl) (Ex.loadSl flat9 (hg.dr hD) rfl rfl (getD_get g 0 [] (by omega))) ?_
        refine WL.u rfl rfl (Wt.guard' rfl rfl rfl hg1_13 rfl) (Ex.lenStr Try.underlying9 rfl) ?_
        refine WL.u rfl rfl (Wt.guard' rfl rfl rfl hg1_13 rfl) ((Ex.mul rfl rfl (by omega)).to (congrArg (Value.int IntKind.i64) hmI)) ?_
        refine WL.u rfl rfl (Wt.guard' rfl rfl rfl hg1_13 rfl) (Ex.move rfl) ?_
        refine WL.u rfl rfl (Wt.guard' rfl rfl rfl hg1_13 rfl) (Ex.leq rfl rfl) ?_
        refine WL.u rfl rfl (Wt.plain rfl) (Ex.pickT rfl hg1_13 rfl) ?_
        refine WL.u rfl rfl (Wt.plain rfl) (Ex.assign rfl) ?_
        refine WL.next ?_
        refine WC.ret ?_
        refine WN.body1 rfl rfl ?_
        exact ⟨congrArg Value.bool (by unfold aimB; rw [hg1_3, hg1_8, hg1_13]; rfl), hD⟩
      have hg1_13' := hg1_13; try simp only [decide_eq_true_eq, decide_eq_false_iff_not, Bool.not_eq_true', Bool.not_eq_false', Bool.not_eq_true, Bool.not_eq_false] at hg1_13'
      refine WL.pass rfl rfl (Wt.guard' rfl rfl rfl hg1_13 rfl) ?_
      refine WL.pass rfl rfl (Wt.guard' rfl rfl rfl hg1_13 rfl) ?_
      refine WL.pass rfl rfl (Wt.guard' rfl rfl rfl hg1_13 rfl) ?_
      refine WL.pass rfl rfl (Wt.guard' rfl rfl rfl hg1_13 rfl) ?_
      refine WL.pass rfl rfl (Wt.guard' rfl rfl rfl hg1_13 rfl) ?_
      refine WL.pass rfl rfl (Wt.guard' rfl rfl rfl hg1_13 rfl) ?_
      refine WL.pass rfl rfl (Wt.guard' rfl rfl rfl hg1_13 rfl) ?_
      refine WL.pass rfl rfl (Wt.guard' rfl rfl rfl hg1_13 rfl) ?_
      refine WL.pass rfl rfl (Wt.guard' rfl rfl rfl hg1_13 rfl) ?_
      refine WL.u rfl rfl (Wt.plain rfl) (Ex.pickF rfl hg1_13 rfl) ?_
      refine WL.u rfl rfl (Wt.plain rfl) (Ex.assign rfl) ?_
      refine WL.next ?_
      refine WC.ret ?_
      refine WN.body1 rfl rfl ?_
      exact ⟨congrArg Value.bool (by unfold aimB; rw [hg1_3, hg1_8, hg1_13]; rfl), hD⟩
    have hg1_8' := hg1_8; try simp only [decide_eq_true_eq, decide_eq_false_iff_not, Bool.not_eq_true', Bool.not_eq_false', Bool.not_eq_true, Bool.not_eq_false] at hg1_8'
    refine WL.pass rfl rfl (Wt.guard' rfl rfl rfl hg1_8 rfl) ?_
    refine WL.pass rfl rfl (Wt.guard' rfl rfl rfl hg1_8 rfl) ?_
    refine WL.pass rfl rfl (Wt.guard' rfl rfl rfl hg1_8 rfl) ?_
    refine WL.u rfl rfl (Wt.plain rfl) (Ex.pickF rfl hg1_8 rfl) ?_
    refine WL.u rfl rfl (Wt.plain rfl) (Ex.move rfl) ?_
    refine WL.pass rfl rfl (Wt.guard' rfl rfl rfl rfl rfl) ?_
    refine WL.pass rfl rfl (Wt.guard' rfl rfl rfl rfl rfl) ?_
    refine WL.pass rfl rfl (Wt.guard' rfl rfl rfl rfl rfl) ?_
    refine WL.pass rfl rfl (Wt.guard' rfl rfl rfl rfl rfl) ?_
    refine WL.pass rfl rfl (Wt.guard' rfl rfl rfl rfl rfl) ?_
    refine WL.pass rfl rfl (Wt.guard' rfl rfl rfl rfl rfl) ?_
    refine WL.pass rfl rfl (Wt.guard' rfl rfl rfl rfl rfl) ?_
    refine WL.pass rfl rfl (Wt.guard' rfl rfl rfl rfl rfl) ?_
    refine WL.pass rfl rfl (Wt.guard' rfl rfl rfl rfl rfl) ?_
    refine WL.u rfl rfl (Wt.plain rfl) (Ex.pickF rfl rfl rfl) ?_
    refine WL.u rfl rfl (Wt.plain rfl) (Ex.assign rfl) ?_
    refine WL.next ?_
    refine WC.ret ?_
    refine WN.body1 rfl rfl ?_
    exact ⟨congrArg Value.bool (by unfold aimB; rw [hg1_3, hg1_8]; rfl), hD⟩
  have hg1_3' := hg1_3; try simp only [decide_eq_true_eq, decide_eq_false_iff_not, Bool.not_eq_true', Bool.not_eq_false', Bool.not_eq_true, Bool.not_eq_false] at hg1_3'
  refine WL.pass rfl rfl (Wt.guard' rfl rfl rfl hg1_3 rfl) ?_
  refine WL.pass rfl rfl (Wt.guard' rfl rfl rfl hg1_3 rfl) ?_
  refine WL.pass rfl rfl (Wt.guard' rfl rfl rfl hg1_3 rfl) ?_
  refine WL.u rfl rfl (Wt.plain rfl) (Ex.pickF rfl hg1_3 rfl) ?_
  refine WL.u rfl rfl (Wt.plain rfl) (Ex.move rfl) ?_
  refine WL.pass rfl rfl (Wt.guard' rfl rfl rfl rfl rfl) ?_
  refine WL.pass rfl rfl (Wt.guard' rfl rfl rfl rfl rfl) ?_
  refine WL.pass rfl rfl (Wt.guard' rfl rfl rfl rfl rfl) ?_
  refine WL.u rfl rfl (Wt.plain rfl) (Ex.pickF rfl rfl rfl) ?_
  refine WL.u rfl rfl (Wt.plain rfl) (Ex.move rfl) ?_
  refine WL.pass rfl rfl (Wt.guard' rfl rfl rfl rfl rfl) ?_
  refine WL.pass rfl rfl (Wt.guard' rfl rfl rfl rfl rfl) ?_
  refine WL.pass rfl rfl (Wt.guard' rfl rfl rfl rfl rfl) ?_
  refine WL.pass rfl rfl (Wt.guard' rfl rfl rfl rfl rfl) ?_
  refine WL.pass rfl rfl (Wt.guard' rfl rfl rfl rfl rfl) ?_
  refine WL.pass rfl rfl (Wt.guard' rfl rfl rfl rfl rfl) ?_
  refine WL.pass rfl rfl (Wt.guard' rfl rfl rfl rfl rfl) ?_
  refine WL.pass rfl rfl (Wt.guard' rfl rfl rfl rfl rfl) ?_
  refine WL.pass rfl rfl (Wt.guard' rfl rfl rfl rfl rfl) ?_
  refine WL.u rfl rfl (Wt.plain rfl) (Ex.pickF rfl rfl rfl) ?_
  refine WL.u rfl rfl (Wt.plain rfl) (Ex.assign rfl) ?_
  refine WL.next ?_
  refine WC.ret ?_
  refine WN.body1 rfl rfl ?_
  exact ⟨congrArg Value.bool (by unfold aimB; rw [hg1_3]; rfl), hD⟩

theorem iAimMany1 (g : Grid) (a : Option Addr) (cap b4 b5 b8 p q c : Nat) (w : World) (hg : Sl rStr w a g) (hG : GridOk g) (hp : p < ports g) (hb : w.heap[b8]? = some (.cells #[vint c] 3 (0, 0))) (h4 : w.cell? ⟨b4, 0, none⟩ = some (vint p)) (h5 : w.cell? ⟨b5, 0, none⟩ = some (vint q)) (hn4 : b4 ∉ [b8]) (hn5 : b5 ∉ [b8]) (hc : c ≤ 1000000) : Fn Try.prog 85 [.slice a g.length cap, vptr b4 0, vptr b5 0, vptr b8 0] w (fun v w1 => Keep [b8] w w1 ∧ w1.heap[b8]? = some (.cells #[vint (c + (if (way g p).2 = q then 1 else 0) : Nat)] 3 (0, 0))) := by
  refine Fn.enter (n := 18) Try.func85 rfl rfl rfl ?_
  show WC _ _ _ _ [(0, .slice a g.length cap), (1, vptr b4 0), (2, vptr b5 0), (3, vptr b8 0)] _
  have hH := Hp.at1 hb
  refine WC.seq ?_
  refine WC.region ?_
  refine WL.u rfl rfl (Wt.plain rfl) (Ex.move rfl) ?_
  refine WL.u rfl rfl (Wt.plain rfl) (Ex.load flat3 rfl h4) ?_
  refine WL.call callable74 rfl (Wt.plain rfl) rfl rfl (ibeam _ _ _ p _ hg hG hp) ?_
  rintro _ wn ⟨x, rfl, hC, hN⟩; replace hH := hH.call hC
  refine WL.u rfl rfl (Wt.plain rfl) (Ex.move rfl) ?_
  refine WL.u rfl rfl (Wt.plain rfl) (Ex.extract rfl rfl) ?_
  refine WL.u rfl rfl (Wt.plain rfl) (Ex.extract rfl rfl) ?_
  refine WL.u rfl rfl (Wt.plain rfl) (Ex.assign rfl) ?_
  refine WL.u rfl rfl (Wt.plain rfl) (Ex.assign rfl) ?_
  refine WL.next ?_
  refine WC.seq ?_
  refine WC.region ?_
  refine WL.u rfl rfl (Wt.plain rfl) (Ex.move rfl) ?_
  refine WL.u rfl rfl (Wt.plain rfl) (Ex.load flat3 rfl (hH.keep.cell h5 hn5)) ?_
  refine WL.u rfl rfl (Wt.plain rfl) (Ex.eql rfl rfl) ?_
  refine WL.next ?_
  refine WC.cond rfl (fun hc1 => ?_) (fun hc1 => ?_)
  · have hc1' := hc1; try simp only [decide_eq_true_eq, decide_eq_false_iff_not, Bool.not_eq_true', Bool.not_eq_false', Bool.not_eq_true, Bool.not_eq_false] at hc1'
    refine WC.region ?_
    refine WL.u rfl rfl (Wt.plain rfl) (Ex.loadHp flat3 rfl hH rfl) ?_
    refine WL.u rfl rfl (Wt.plain rfl) (Ex.add rfl rfl (by omega)) ?_
    refine WL.store1 ty3 rfl rfl rfl (Wt.plain rfl) hH (by simp) rfl (fun wn hk hH => ?_)
    refine WL.last ?_
    refine WN.body0n rfl ?_
    have e : (way g p).2 = q := by omega
    exact ⟨hH.keep, by rw [if_pos e]; exact hH.at 0 rfl⟩
  have hc1' := hc1; try simp only [decide_eq_true_eq, decide_eq_false_iff_not, Bool.not_eq_true', Bool.not_eq_false', Bool.not_eq_true, Bool.not_eq_false] at hc1'
  refine WC.skip ?_
  refine WN.body0n rfl ?_
  have e : ¬ (way g p).2 = q := by omega
  exact ⟨hH.keep, by rw [if_neg e]; exact hH.at 0 rfl⟩


def AJ (n m p q b4 b5 b8 : Nat) (i : Nat) (U : List Nat) (w : World) : Prop := U = [b8] ∧ w.heap[b8]? = some (.cells #[vint (tally (endN n m p) q i : Nat)] 3 (0, 0)) ∧ w.cell? ⟨b4, 0, none⟩ = some (vint p) ∧ w.cell? ⟨b5, 0, none⟩ = some (vint q)
theorem eachAM {n m p q b4 b5 b8 : Nat} {w : World} (h1 : 1 ≤ n) (h2 : n ≤ 5) (h3 : 1 ≤ m) (h4 : m ≤ 5) (h6 : 3 ^ (n * m) ≤ 729) (hp : p < 2 * n + 2 * m) (hlt : b8 < w.heap.size) (hn4 : b4 ∉ [b8]) (hn5 : b5 ∉ [b8]) (h0 : AJ n m p q b4 b5 b8 0 [b8] w) : Each Try.prog 85 [vptr b4 0, vptr b5 0, vptr b8 0] (numG n m) (3 ^ (n * m)) [b8] (AJ n m p q b4 b5 b8) w where
  fn := callable85
  lt := fun k hk => by rw [List.mem_singleton.1 hk]; exact hlt
  keep := fun i U w2 w3 ⟨hU, hb, hc, hd⟩ hk => ⟨hU, hk.heap hb (by simp), hk.cell hc (by simp), hk.cell hd (by simp)⟩
  start := h0
  call := fun w2 i b cap cur2 U hK hi ⟨hU, hb, hc, hd⟩ hl hbU _ hbg hog => by
    have hg := hog.sl0 hbg
    subst hU
    have hl2 := tally_le (endN n m p) q i
    refine (iAimMany1 (numG n m i) _ cap b4 b5 b8 p q _ w2 hg (numG_ok i h1 h2 h3 h4) (by rw [numG_ports m i h1]; exact hp) hb hc hd hn4 hn5 (by omega)).mono fun v w3 ⟨hk, hb1⟩ => ⟨[b8], ⟨rfl, hb1, hk.cell hc hn4, hk.cell hd hn5⟩, hk, fun k hk => .inl hk⟩

theorem iAimMany (g : Grid) (a : Option Addr) (cap : Nat) (p q : Int) (w : World) (hg : Sl rStr w a g) (hs : Short g) : Fn Try.prog 37 [.slice a g.length cap, vint p, vint q] w (fun v w1 => v = .tuple #[vint (aimMany g p q).1, .bool (aimMany g p q).2] ∧ Keep [] w w1) := by
  refine Fn.enter (n := 23) Try.func37 rfl rfl rfl ?_
  show WC _ _ _ _ [(0, .slice a g.length cap), (1, vint p), (2, vint q)] _
  have hH := Hp.start [] w
  refine WC.seq ?_
  refine WC.region ?_
  refine WL.box rfl rfl rfl (Wt.plain rfl) hH (fun b4 wn hb4 hk4 hH => ?_)
  refine WL.box rfl rfl rfl (Wt.plain rfl) hH (fun b5 wn hb5 hk5 hH => ?_)
  refine WL.u rfl rfl (Wt.plain rfl) (Ex.assign rfl) ?_
  refine WL.u rfl rfl (Wt.plain rfl) (Ex.assign rfl) ?_
  refine WL.next ?_
  refine WC.seq ?_
  refine WC.seq ?_
  refine WC.region ?_
  refine WL.u rfl rfl (Wt.plain rfl) (Ex.move rfl) ?_
  replace hH := hH.f1
  refine WL.u rfl rfl (Wt.plain rfl) (Ex.loadHp flat3 rfl hH rfl) ?_
  replace hH := hH.f1
  refine WL.u rfl rfl (Wt.plain rfl) (Ex.loadHp flat3 rfl hH rfl) ?_
  refine WL.call callable83 rfl (Wt.plain rfl) rfl rfl (iaimOk _ _ _ _ _ _ _ (hg.kept hH.keep) hs) ?_
  rintro _ _ ⟨rfl, hw⟩; obtain rfl := hw.symm
  refine WL.u rfl rfl (Wt.plain rfl) (Ex.not rfl) ?_
  refine WL.next ?_
  refine WC.cond rfl (fun hc1 => ?_) (fun hc1 => ?_)
  · have hc1' := hc1; try simp only [decide_eq_true_eq, decide_eq_false_iff_not, Bool.not_eq_true', Bool.not_eq_false', Bool.not_eq_true, Bool.not_eq_false] at hc1'
    have hai : aimB g p q 6 = false := by simpa using hc1
    refine WC.seq ?_
    refine WC.region ?_
    refine WL.u rfl rfl (Wt.plain rfl) (Ex.assign rfl) ?_
    refine WL.u rfl rfl (Wt.plain rfl) (Ex.assign rfl) ?_
    refine WL.next ?_
    refine WC.ret ?_
    refine WN.retThen ?_
    refine WN.body2 rfl rfl rfl ?_
    exact ⟨by rw [aimMany, hai]; rfl, hH.keep⟩
  have hc1' := hc1; try simp only [decide_eq_true_eq, decide_eq_false_iff_not, Bool.not_eq_true', Bool.not_eq_false', Bool.not_eq_true, Bool.not_eq_false] at hc1'
  have hai : aimB g p q 6 = true := by simpa using hc1
  obtain ⟨hG, p, q, rfl, rfl, hp, hq, hpq, h6⟩ := aimB_ex hai
  have hp6 := pow6 h6
  obtain ⟨h1, h2, h3, h4, _, _⟩ := id hG
  obtain ⟨b, off, rfl⟩ := hg.addr (by omega)
  refine WC.skip ?_
  refine WN.next ?_
  refine WC.seq ?_
  refine WC.region ?_
  refine WL.alloc ty3 rfl rfl (Wt.plain rfl) hH (fun b8 wn hb8 hk8 hH => ?_)
  refine WL.store1 ty3 rfl rfl rfl (Wt.plain rfl) hH (by first | decide | simp) rfl (fun wn hk hH => ?_)
  refine WL.next ?_
  refine WC.seq ?_
  refine WC.region ?_
  refine WL.u rfl rfl (Wt.plain rfl) (Ex.move rfl) ?_
  refine WL.u rfl rfl (Wt.plain rfl) (Ex.lenSl Try.underlying37 rfl) ?_
  refine WL.u rfl rfl (Wt.plain rfl) (Ex.move rfl) ?_
  refine WL.u rfl rfl (Wt.plain rfl) (Ex.indexAddr Try.underlying37 ty9 rfl rfl (by omega)) ?_
  refine WL.u rfl rfl (Wt.plain rfl) (Ex.loadSl flat9 (hg.kept hH.keep) rfl rfl (getD_get g 0 [] (by omega))) ?_
  refine WL.u rfl rfl (Wt.plain rfl) (Ex.lenStr Try.underlying9 rfl) ?_
  refine WL.u rfl rfl (Wt.plain rfl) (Ex.makeFunc rfl) ?_
  have hx4 := hH.cellAt 2 rfl 0 rfl
  have hx5 := hH.cellAt 1 rfl 0 rfl
  refine WL.call callable84 rfl (Wt.plain rfl) rfl rfl (iallGrids (nR g) (nC g) 85 _ [vptr b4 0, vptr b5 0, vptr b8 0] [b8] (AJ (nR g) (nC g) p q b4 b5 b8) _ rfl h1 h2 h3 h4 (eachAM h1 h2 h3 h4 hp6 hp (hH.lt 0 rfl) (hH.nin 2 0 rfl rfl rfl) (hH.nin 1 0 rfl rfl rfl) ⟨rfl, hH.at 0 rfl, hx4, hx5⟩)) ?_
  rintro _ wn ⟨U, ⟨hUe, hb2, _, _⟩, hK, hU⟩; replace hH := hH.turn hK hb2
  refine WL.next ?_
  refine WC.seq ?_
  refine WC.region ?_
  refine WL.u rfl rfl (Wt.plain rfl) (Ex.loadHp flat3 rfl hH rfl) ?_
  refine WL.u rfl rfl (Wt.plain rfl) (Ex.assign rfl) ?_
  refine WL.u rfl rfl (Wt.plain rfl) (Ex.assign rfl) ?_
  refine WL.next ?_
  refine WC.ret ?_
  refine WN.body2 rfl rfl rfl ?_
  exact ⟨by rw [aimMany_at hai]; rfl, hH.keep⟩

theorem sAimMany (g : Grid) (a : Option Addr) (cap : Nat) (p q : Int) (w : World) (hg : Sl rStr w a g) (hs : Short g) : Fn Try.prog 35 [.slice a g.length cap, vint p, vint q] w (fun v w1 => v = .tuple #[vint (aimMany g p q).1, .bool (aimMany g p q).2] ∧ Keep [] w w1) := by
  refine Fn.enter (n := 50) Try.func35 rfl rfl rfl ?_
  show WC _ _ _ _ [(0, .slice a g.length cap), (1, vint p), (2, vint q)] _
  have hH := Hp.start [] w
  refine WC.seq ?_
  refine WC.region ?_
  refine WL.u rfl rfl (Wt.plain rfl) (Ex.assign rfl) ?_
  refine WL.u rfl rfl (Wt.plain rfl) (Ex.assign rfl) ?_
  refine WL.next ?_
  refine WC.seq ?_
  refine WC.seq ?_
  refine WC.region ?_
  refine WL.u rfl rfl (Wt.plain rfl) (Ex.move rfl) ?_
  refine WL.u rfl rfl (Wt.plain rfl) (Ex.move rfl) ?_
  refine WL.u rfl rfl (Wt.plain rfl) (Ex.move rfl) ?_
  refine WL.call callable78 rfl (Wt.plain rfl) rfl rfl (sl9Given g _ _ p q 6 _ (hg.kept hH.keep) hs) ?_
  rintro _ wn ⟨rfl, hC⟩; replace hH := hH.dr hC; clear hC
  refine WL.u rfl rfl (Wt.plain rfl) (Ex.not rfl) ?_
  refine WL.next ?_
  refine WC.cond rfl (fun hc1 => ?_) (fun hc1 => ?_)
  · have hc1' := hc1; try simp only [decide_eq_true_eq, decide_eq_false_iff_not, Bool.not_eq_true', Bool.not_eq_false', Bool.not_eq_true, Bool.not_eq_false] at hc1'
    have hai : aimB g p q 6 = false := by simpa using hc1
    refine WC.seq ?_
    refine WC.region ?_
    refine WL.u rfl rfl (Wt.plain rfl) (Ex.assign rfl) ?_
    refine WL.u rfl rfl (Wt.plain rfl) (Ex.assign rfl) ?_
    refine WL.next ?_
    refine WC.ret ?_
    refine WN.retThen ?_
    refine WN.body2 rfl rfl rfl ?_
    exact ⟨by rw [aimMany, hai]; rfl, hH.keep⟩
  have hc1' := hc1; try simp only [decide_eq_true_eq, decide_eq_false_iff_not, Bool.not_eq_true', Bool.not_eq_false', Bool.not_eq_true, Bool.not_eq_false] at hc1'
  have hai : aimB g p q 6 = true := by simpa using hc1
  obtain ⟨hG, p, q, rfl, rfl, hp, hq, hpq, h6⟩ := aimB_ex hai
  have hp6 := pow6 h6
  obtain ⟨h1, h2, h3, h4, _, _⟩ := id hG
  obtain ⟨b, off, rfl⟩ := hg.addr (by omega)
  have hmI : (g.length : Int) * ((g.getD 0 []).length : Int) = ((nR g * nC g : Nat) : Int) := (Int.natCast_mul _ _).symm
  have hle : nR g * nC g ≤ 25 := Nat.mul_le_mul h2 h4
  refine WC.skip ?_
  refine WN.next ?_
  refine WC.seq ?_
  refine WC.region ?_
  refine WL.u rfl rfl (Wt.plain rfl) (Ex.assign rfl) ?_
  refine WL.next ?_
  refine WC.seq ?_
  refine WC.seq ?_
  refine WC.region ?_
  refine WL.u rfl rfl (Wt.plain rfl) (Ex.assign rfl) ?_
  refine WL.next ?_
  refine WC.block ?_
  refine WC.loop (ι := Nat) (fun i => [(0, .slice (some ⟨b, off, none⟩) g.length cap), (1, vint p), (2, vint q), (8, vint (tally (endN (nR g) (nC g) p) q i : Nat)), (9, vint i)]) (fun i wn => Hp [] w wn [] ∧ i ≤ 3 ^ (nR g * nC g)) (fun i => 3 ^ (nR g * nC g) - i) (0) (by exact ⟨rfl, rfl, rfl, rfl, rfl, trivial⟩) ?_ ?_
  · exact ⟨hH, Nat.zero_le _⟩
  rintro i wn ⟨hH, hi⟩
  have htl := tally_le (endN (nR g) (nC g) p) q i
  intro mu0 hmu; try dsimp only at hmu
  show WC _ _ _ _ [(0, .slice (some ⟨b, off, none⟩) g.length cap), (1, vint p), (2, vint q), (8, vint (tally (endN (nR g) (nC g) p) q i : Nat)), (9, vint i)] _
  refine WC.seq ?_
  refine WC.seq ?_
  refine WC.region ?_
  refine WL.u rfl rfl (Wt.plain rfl) (Ex.move rfl) ?_
  refine WL.u rfl rfl (Wt.plain rfl) (Ex.move rfl) ?_
  refine WL.u rfl rfl (Wt.plain rfl) (Ex.lenSl Try.underlying37 rfl) ?_
  refine WL.u rfl rfl (Wt.plain rfl) (Ex.move rfl) ?_
  refine WL.u rfl rfl (Wt.plain rfl) (Ex.indexAddr Try.underlying37 ty9 rfl rfl (by omega)) ?_
  refine WL.u rfl rfl (Wt.plain rfl) (Ex.loadSl flat9 (hg.kept hH.keep) rfl rfl (getD_get g 0 [] (by omega))) ?_
  refine WL.u rfl rfl (Wt.plain rfl) (Ex.lenStr Try.underlying9 rfl) ?_
  refine WL.u rfl rfl (Wt.plain rfl) ((Ex.mul rfl rfl (by omega)).to (congrArg (Value.int IntKind.i64) hmI)) ?_
  refine WL.call callable82 rfl (Wt.plain rfl) rfl rfl (sl1Power (nR g * nC g) _ _ rfl hle) ?_
  rintro _ _ ⟨rfl, hw⟩; obtain rfl := hw.symm
  refine WL.u rfl rfl (Wt.plain rfl) (Ex.lss rfl rfl) ?_
  refine WL.next ?_
  refine WC.cond rfl (fun hc2 => ?_) (fun hc2 => ?_)
  · have hc2' := hc2; try simp only [decide_eq_true_eq, decide_eq_false_iff_not, Bool.not_eq_true', Bool.not_eq_false', Bool.not_eq_true, Bool.not_eq_false] at hc2'
    have hlt : i < 3 ^ (nR g * nC g) := by omega
    refine WC.skip ?_
    refine WN.next ?_
    refine WC.seq ?_
    refine WC.block ?_
    refine WC.seq ?_
    refine WC.region ?_
    refine WL.u rfl rfl (Wt.plain rfl) (Ex.move rfl) ?_
    refine WL.u rfl rfl (Wt.plain rfl) (Ex.lenSl Try.underlying37 rfl) ?_
    refine WL.u rfl rfl (Wt.plain rfl) (Ex.move rfl) ?_
    refine WL.u rfl rfl (Wt.plain rfl) (Ex.indexAddr Try.underlying37 ty9 rfl rfl (by omega)) ?_
    refine WL.u rfl rfl (Wt.plain rfl) (Ex.loadSl flat9 (hg.kept hH.keep) rfl rfl (getD_get g 0 [] (by omega))) ?_
    refine WL.u rfl rfl (Wt.plain rfl) (Ex.lenStr Try.underlying9 rfl) ?_
    refine WL.u rfl rfl (Wt.plain rfl) (Ex.move rfl) ?_
    refine WL.call callable77 rfl (Wt.plain rfl) rfl rfl (sl1Of (nR g) (nC g) i _ h2 h4 (by omega)) ?_
    rintro _ wn ⟨hC, hN⟩; obtain ⟨b38, cap38, cur38, rfl, hge38, hbb38, ho38⟩ := hN.own; replace hH := hH.push hC hge38 hbb38; clear hC hN
    refine WL.u rfl rfl (Wt.plain rfl) (Ex.move rfl) ?_
    refine WL.call callable69 rfl (Wt.plain rfl) rfl rfl (sl2Way (numG (nR g) (nC g) i) _ _ p _ (ho38.slAt hH 0 rfl) (numG_ok i h1 h2 h3 h4) (by rw [numG_ports _ _ h1]; exact hp)) ?_
    rintro _ wn ⟨x, y, rfl, hC, hN1, hN2⟩; replace hH := hH.call hC
    refine WL.u rfl rfl (Wt.plain rfl) (Ex.move rfl) ?_
    refine WL.u rfl rfl (Wt.plain rfl) (Ex.extract rfl rfl) ?_
    refine WL.u rfl rfl (Wt.plain rfl) (Ex.extract rfl rfl) ?_
    refine WL.u rfl rfl (Wt.plain rfl) (Ex.extract rfl rfl) ?_
    refine WL.u rfl rfl (Wt.plain rfl) (Ex.assign rfl) ?_
    refine WL.u rfl rfl (Wt.plain rfl) (Ex.assign rfl) ?_
    refine WL.u rfl rfl (Wt.plain rfl) (Ex.assign rfl) ?_
    refine WL.next ?_
    refine WC.seq ?_
    refine WC.region ?_
    refine WL.u rfl rfl (Wt.plain rfl) (Ex.move rfl) ?_
    refine WL.u rfl rfl (Wt.plain rfl) (Ex.move rfl) ?_
    refine WL.u rfl rfl (Wt.plain rfl) (Ex.eql rfl rfl) ?_
    refine WL.next ?_
    refine WC.cond rfl (fun hc3 => ?_) (fun hc3 => ?_)
    · have hc3' := hc3; try simp only [decide_eq_true_eq, decide_eq_false_iff_not, Bool.not_eq_true', Bool.not_eq_false', Bool.not_eq_true, Bool.not_eq_false] at hc3'
      refine WC.region ?_
      refine WL.u rfl rfl (Wt.plain rfl) (Ex.move rfl) ?_
      refine WL.u rfl rfl (Wt.plain rfl) (Ex.add rfl rfl (by omega)) ?_
      refine WL.u rfl rfl (Wt.plain rfl) (Ex.assign rfl) ?_
      refine WL.last ?_
      refine WN.normalBlock ?_
      refine WN.next ?_
      refine WC.region ?_
      refine WL.u rfl rfl (Wt.plain rfl) (Ex.move rfl) ?_
      refine WL.u rfl rfl (Wt.plain rfl) (Ex.add rfl rfl (by omega)) ?_
      refine WL.u rfl rfl (Wt.plain rfl) (Ex.assign rfl) ?_
      refine WL.last ?_
      replace hH := hH.first0
      have e : endN (nR g) (nC g) p i = q := by unfold endN; omega
      refine WN.round (i + 1) (by exact ⟨rfl, rfl, rfl, congrArg (fun x : Nat => some (vint x)) (show _ = tally (endN (nR g) (nC g) p) q (i + 1) by rw [tally, if_pos e]), rfl, trivial⟩) ?_ ?_
      · exact ⟨hH.first0, by omega⟩
      · (try dsimp only); omega
    have hc3' := hc3; try simp only [decide_eq_true_eq, decide_eq_false_iff_not, Bool.not_eq_true', Bool.not_eq_false', Bool.not_eq_true, Bool.not_eq_false] at hc3'
    refine WC.skip ?_
    refine WN.normalBlock ?_
    refine WN.next ?_
    refine WC.region ?_
    refine WL.u rfl rfl (Wt.plain rfl) (Ex.move rfl) ?_
    refine WL.u rfl rfl (Wt.plain rfl) (Ex.add rfl rfl (by omega)) ?_
    refine WL.u rfl rfl (Wt.plain rfl) (Ex.assign rfl) ?_
    refine WL.last ?_
    replace hH := hH.first0
    have e : ¬ endN (nR g) (nC g) p i = q := by unfold endN; omega
    refine WN.round (i + 1) (by exact ⟨rfl, rfl, rfl, congrArg (fun x : Nat => some (vint x)) (show _ = tally (endN (nR g) (nC g) p) q (i + 1) by rw [tally, if_neg e, Nat.add_zero]), rfl, trivial⟩) ?_ ?_
    · exact ⟨hH.first0, by omega⟩
    · (try dsimp only); omega
  have hc2' := hc2; try simp only [decide_eq_true_eq, decide_eq_false_iff_not, Bool.not_eq_true', Bool.not_eq_false', Bool.not_eq_true, Bool.not_eq_false] at hc2'
  refine WC.exit ?_
  refine WN.exitThen ?_
  refine WN.exitThen ?_
  refine WN.exitHere ?_
  refine WN.next ?_
  refine WC.seq ?_
  refine WC.region ?_
  refine WL.u rfl rfl (Wt.plain rfl) (Ex.move rfl) ?_
  refine WL.u rfl rfl (Wt.plain rfl) (Ex.assign rfl) ?_
  refine WL.u rfl rfl (Wt.plain rfl) (Ex.assign rfl) ?_
  refine WL.next ?_
  refine WC.ret ?_
  refine WN.body2 rfl rfl rfl ?_
  have hiN : i = 3 ^ (nR g * nC g) := by omega
  rw [hiN]
  exact ⟨by rw [aimMany_at hai], hH.keep⟩

theorem lawExactAimMany (g : Grid) (a : Option Addr) (cap : Nat) (p q : Int) (w : World) (hg : Sl rStr w a g) (hs : Short g) : Fn Try.prog 6 [.slice a g.length cap, vint p, vint q] w (fun v w1 => v = .bool true ∧ Keep [] w w1) := by
  refine Fn.enter (n := 48) Try.func6 rfl rfl rfl ?_
  show WC _ _ _ _ [(0, .slice a g.length cap), (1, vint p), (2, vint q)] _
  have hH := Hp.start [] w
  refine WC.seq ?_
  refine WC.region ?_
  refine WL.u rfl rfl (Wt.plain rfl) (Ex.assign rfl) ?_
  refine WL.next ?_
  refine WC.seq ?_
  refine WC.region ?_
  refine WL.u rfl rfl (Wt.plain rfl) (Ex.assign rfl) ?_
  refine WL.next ?_
  refine WC.seq ?_
  refine WC.region ?_
  refine WL.u rfl rfl (Wt.plain rfl) (Ex.move rfl) ?_
  refine WL.u rfl rfl (Wt.plain rfl) (Ex.move rfl) ?_
  refine WL.call callable34 rfl (Wt.plain rfl) rfl rfl (szStringS g a cap 1048576 _ (hg.kept hH.keep) hs (by omega)) ?_
  rintro _ _ ⟨r, rfl, hw, hr⟩; obtain rfl := hw.symm
  refine WL.u rfl rfl (Wt.plain rfl) (Ex.assign rfl) ?_
  refine WL.next ?_
  refine WC.seq ?_
  refine WC.seq ?_
  refine WC.region ?_
  refine WL.u rfl rfl (Wt.plain rfl) (Ex.move rfl) ?_
  refine WL.u rfl rfl (Wt.plain rfl) (Ex.lss rfl rfl) ?_
  refine WL.next ?_
  refine WC.cond rfl (fun hc1 => ?_) (fun hc1 => ?_)
  · have hc1' := hc1; try simp only [decide_eq_true_eq, decide_eq_false_iff_not, Bool.not_eq_true', Bool.not_eq_false', Bool.not_eq_true, Bool.not_eq_false] at hc1'
    refine WC.seq ?_
    refine WC.region ?_
    refine WL.u rfl rfl (Wt.plain rfl) (Ex.assign rfl) ?_
    refine WL.next ?_
    refine WC.ret ?_
    refine WN.retThen ?_
    refine WN.body1 rfl rfl ?_
    exact ⟨rfl, hH.keep⟩
  have hc1' := hc1; try simp only [decide_eq_true_eq, decide_eq_false_iff_not, Bool.not_eq_true', Bool.not_eq_false', Bool.not_eq_true, Bool.not_eq_false] at hc1'
  have hr2 := hr (by omega)
  have hgl := hr2.1
  refine WC.skip ?_
  refine WN.next ?_
  refine WC.seq ?_
  refine WC.region ?_
  refine WL.u rfl rfl (Wt.plain rfl) (Ex.move rfl) ?_
  refine WL.call callable36 rfl (Wt.plain rfl) rfl rfl (toStringS _ _ _ _ (hg.kept hH.keep) hgl) ?_
  rintro _ wn ⟨hC, hN⟩; obtain ⟨b101, cap101, cur101, rfl, hge, hbb, ho101⟩ := hN.own; replace hH := hH.push hC hge hbb
  refine WL.u rfl rfl (Wt.plain rfl) (Ex.move rfl) ?_
  refine WL.u rfl rfl (Wt.plain rfl) (Ex.move rfl) ?_
  refine WL.call callable35 rfl (Wt.plain rfl) rfl rfl (sAimMany g _ _ p q _ (ho101.slAt hH 0 rfl) hs) ?_
  rintro _ wn ⟨rfl, hC⟩; replace hH := hH.call hC; clear hC
  refine WL.u rfl rfl (Wt.plain rfl) (Ex.move rfl) ?_
  refine WL.u rfl rfl (Wt.plain rfl) (Ex.extract rfl rfl) ?_
  refine WL.u rfl rfl (Wt.plain rfl) (Ex.extract rfl rfl) ?_
  refine WL.u rfl rfl (Wt.plain rfl) (Ex.assign rfl) ?_
  refine WL.u rfl rfl (Wt.plain rfl) (Ex.assign rfl) ?_
  refine WL.next ?_
  refine WC.seq ?_
  refine WC.region ?_
  refine WL.u rfl rfl (Wt.plain rfl) (Ex.move rfl) ?_
  refine WL.call callable36 rfl (Wt.plain rfl) rfl rfl (toStringS _ _ _ _ (hg.kept hH.keep) hgl) ?_
  rintro _ wn ⟨hC, hN⟩; obtain ⟨b102, cap102, cur102, rfl, hge, hbb, ho102⟩ := hN.own; replace hH := hH.push hC hge hbb
  refine WL.u rfl rfl (Wt.plain rfl) (Ex.assign rfl) ?_
  refine WL.next ?_
  refine WC.seq ?_
  refine WC.region ?_
  refine WL.u rfl rfl (Wt.plain rfl) (Ex.move rfl) ?_
  refine WL.u rfl rfl (Wt.plain rfl) (Ex.move rfl) ?_
  refine WL.u rfl rfl (Wt.plain rfl) (Ex.move rfl) ?_
  refine WL.call callable37 rfl (Wt.plain rfl) rfl rfl (iAimMany g _ _ p q _ (ho102.slAt hH 0 rfl) hs) ?_
  rintro _ wn ⟨rfl, hC⟩; replace hH := hH.call hC; clear hC
  refine WL.u rfl rfl (Wt.plain rfl) (Ex.move rfl) ?_
  refine WL.u rfl rfl (Wt.plain rfl) (Ex.extract rfl rfl) ?_
  refine WL.u rfl rfl (Wt.plain rfl) (Ex.extract rfl rfl) ?_
  refine WL.u rfl rfl (Wt.plain rfl) (Ex.assign rfl) ?_
  refine WL.u rfl rfl (Wt.plain rfl) (Ex.assign rfl) ?_
  refine WL.next ?_
  refine WC.seq ?_
  refine WC.seq ?_
  refine WC.region ?_
  refine WL.u rfl rfl (Wt.plain rfl) (Ex.move rfl) ?_
  refine WL.u rfl rfl (Wt.plain rfl) (Ex.move rfl) ?_
  refine WL.u rfl rfl (Wt.plain rfl) (Ex.neq rfl rfl) ?_
  refine WL.u rfl rfl (Wt.plain rfl) (Ex.move rfl) ?_
  refine WL.split (t := 38) rfl (fun hg8_3 => ?_) (fun hg8_3 => ?_)
  · exfalso; simp at hg8_3
  have hg8_3' := hg8_3; try simp only [decide_eq_true_eq, decide_eq_false_iff_not, Bool.not_eq_true', Bool.not_eq_false', Bool.not_eq_true, Bool.not_eq_false] at hg8_3'
  refine WL.u rfl rfl (Wt.guard' rfl rfl rfl hg8_3 rfl) (Ex.move rfl) ?_
  refine WL.u rfl rfl (Wt.guard' rfl rfl rfl hg8_3 rfl) (Ex.move rfl) ?_
  refine WL.u rfl rfl (Wt.guard' rfl rfl rfl hg8_3 rfl) (Ex.neqB Try.underlying4 rfl rfl) ?_
  refine WL.u rfl rfl (Wt.plain rfl) (Ex.pickF rfl hg8_3 rfl) ?_
  refine WL.next ?_
  refine WC.condF rfl (by simp) ?_
  refine WC.skip ?_
  refine WN.next ?_
  refine WC.seq ?_
  refine WC.seq ?_
  refine WC.region ?_
  refine WL.u rfl rfl (Wt.plain rfl) (Ex.move rfl) ?_
  refine WL.u rfl rfl (Wt.plain rfl) (Ex.move rfl) ?_
  refine WL.call callable36 rfl (Wt.plain rfl) rfl rfl (toStringS _ _ _ _ (hg.kept hH.keep) hgl) ?_
  rintro _ wn ⟨hC, hN⟩; obtain ⟨b103, cap103, cur103, rfl, hge, hbb, ho103⟩ := hN.own; replace hH := hH.push hC hge hbb
  refine WL.call callable38 rfl (Wt.plain rfl) rfl rfl (eqStringS g g _ _ _ _ _ (ho102.slAt hH 1 rfl) (ho103.slAt hH 0 rfl)) ?_
  rintro _ wn ⟨rfl, hC⟩; replace hH := hH.dr hC; clear hC
  refine WL.u rfl rfl (Wt.plain rfl) (Ex.not rfl) ?_
  refine WL.next ?_
  refine WC.condF rfl (by simp) ?_
  refine WC.skip ?_
  refine WN.next ?_
  refine WC.seq ?_
  refine WC.region ?_
  refine WL.u rfl rfl (Wt.plain rfl) (Ex.assign rfl) ?_
  refine WL.next ?_
  refine WC.ret ?_
  refine WN.body1 rfl rfl ?_
  exact ⟨rfl, hH.keep⟩

end Go.Proofs.Ytmdjekikefbhpaa
