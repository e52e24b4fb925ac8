/- The laws on the first port's partners. -/
import Derived.Test.YtmlkabddhdkpaaaCP
import Derived.Test.YtmlkabddhdkpaaaDraw
import Derived.Test.YtmlkabddhdkpaaaAim
import Derived.Test.YtmlkabddhdkpaaaAimP
namespace Go.Proofs.Ytmlkabddhdkpaaa
set_option maxRecDepth 100000
set_option linter.unusedSimpArgs false
set_option linter.unusedVariables false
open Go Go.RowKit
theorem countPorts_len (n m : Int) : (countPorts n m).1.length ≤ 1000 := by
  unfold countPorts
  split
  · next h =>
    obtain ⟨n, m, rfl, rfl, h1, h2, h3, h4, h9⟩ := fewB_ex h
    show (cntBy _ _ _).length ≤ 1000
    rw [cntBy_len, Int.toNat_natCast, Int.toNat_natCast]; omega
  · simp

theorem sl92Counts (a : Option Addr) (l : List UInt8) (cap : Nat) (w : World) (hc : Sl rByte w a l) (hcap : l.length ≤ cap) : Fn Try.prog 24 [.slice a l.length cap] w (fun v w1 => ∃ n m : Nat, v = .tuple #[vint n, vint m] ∧ Keep [] w w1 ∧ 1 ≤ n ∧ n ≤ 4 ∧ 1 ≤ m ∧ m ≤ 12) := by
  refine Fn.enter (n := 25) Try.func24 rfl rfl rfl ?_
  show WC _ _ _ _ [(0, .slice a l.length cap)] _
  have hH := Hp.start [] w
  replace hc := hc.take 2000
  have hl := List.length_take_le 2000 l
  refine WC.seq ?_
  refine WC.region ?_
  refine WL.u rfl rfl (Wt.plain rfl) (Ex.assign rfl) ?_
  refine WL.u rfl rfl (Wt.plain rfl) (Ex.assign rfl) ?_
  refine WL.next ?_
  refine WC.seq ?_
  refine WC.region ?_
  refine WL.u rfl rfl (Wt.plain rfl) (Ex.move rfl) ?_
  refine WL.call callable39 rfl (Wt.plain rfl) rfl rfl (sl6Open _ _ _ _ hcap) ?_
  rintro _ wn ⟨r, rfl, hrn, hC, hro⟩; have hca := (hc.kept hH.keep).offNew hrn; replace hH := hH.push hC hrn hro; clear hC hro
  refine WL.u rfl rfl (Wt.plain rfl) (Ex.assign rfl) ?_
  refine WL.next ?_
  refine WC.seq ?_
  refine WC.region ?_
  refine WL.u rfl rfl (Wt.plain rfl) (Ex.move rfl) ?_
  refine WL.call callable40 rfl (Wt.plain rfl) rfl rfl (spick _ _ _ _ _ 4 _ (hH.at 0 rfl) (hc.kept hH.keep) hca hl (by omega) (by omega)) ?_
  rintro _ wn ⟨k10, rfl, hk10, hKK, ho⟩; replace hH := hH.turn hKK ho; clear hKK ho
  refine WL.u rfl rfl (Wt.plain rfl) (Ex.add rfl rfl (by omega)) ?_
  refine WL.u rfl rfl (Wt.plain rfl) (Ex.assign rfl) ?_
  refine WL.next ?_
  refine WC.seq ?_
  have hq0 : (8 : Int) / (1 + (k10 : Int)) ≤ 8 := Int.ediv_le_self _ (by omega)
  have hmx : Max.max (1 : Int) (8 / (1 + (k10 : Int))) = ((Max.max (1 : Int) (8 / (1 + (k10 : Int)))).toNat : Int) := by omega
  have hmx2 : (Max.max (1 : Int) (8 / (1 + (k10 : Int)))).toNat ≤ 8 := by omega
  have hmx3 : 1 ≤ (Max.max (1 : Int) (8 / (1 + (k10 : Int)))).toNat := by omega
  generalize (Max.max (1 : Int) (8 / (1 + (k10 : Int)))).toNat = mx at hmx hmx2 hmx3
  refine WC.region ?_
  refine WL.u rfl rfl (Wt.plain rfl) (Ex.move rfl) ?_
  refine WL.u rfl rfl (Wt.plain rfl) (Ex.move rfl) ?_
  refine WL.u rfl rfl (Wt.plain rfl) (Ex.quo rfl rfl (by omega) (by omega)) ?_
  refine WL.u rfl rfl (Wt.plain rfl) ((Ex.max rfl rfl).to (congrArg (Value.int IntKind.i64) hmx)) ?_
  refine WL.call callable40 rfl (Wt.plain rfl) rfl rfl (spick _ _ _ _ _ mx _ (hH.at 0 rfl) (hc.kept hH.keep) hca hl (by omega) (by omega)) ?_
  rintro _ wn ⟨k16, rfl, hk16, hKK, ho⟩; replace hH := hH.turn hKK ho; clear hKK ho
  refine WL.u rfl rfl (Wt.plain rfl) (Ex.add rfl rfl (by omega)) ?_
  refine WL.u rfl rfl (Wt.plain rfl) (Ex.assign rfl) ?_
  refine WL.next ?_
  refine WC.seq ?_
  refine WC.region ?_
  refine WL.u rfl rfl (Wt.plain rfl) (Ex.move rfl) ?_
  refine WL.u rfl rfl (Wt.plain rfl) (Ex.move rfl) ?_
  refine WL.u rfl rfl (Wt.plain rfl) (Ex.move rfl) ?_
  refine WL.call callable40 rfl (Wt.plain rfl) rfl rfl (spick _ _ _ _ _ 40 _ (hH.at 0 rfl) (hc.kept hH.keep) hca hl (by omega) (by omega)) ?_
  rintro _ wn ⟨k21, rfl, hk21, hKK, ho⟩; replace hH := hH.turn hKK ho; clear hKK ho
  refine WL.u rfl rfl (Wt.plain rfl) (Ex.quo rfl rfl (by omega) (by omega)) ?_
  refine WL.u rfl rfl (Wt.plain rfl) (Ex.mul rfl rfl (by omega)) ?_
  refine WL.u rfl rfl (Wt.plain rfl) (Ex.add rfl rfl (by omega)) ?_
  refine WL.u rfl rfl (Wt.plain rfl) (Ex.assign rfl) ?_
  refine WL.u rfl rfl (Wt.plain rfl) (Ex.assign rfl) ?_
  refine WL.next ?_
  refine WC.ret ?_
  refine WN.body2 rfl rfl rfl ?_
  refine ⟨1 + k10, (1 + k16 + k21 / 39 * 4), ?_, hH.keep, by omega, by omega, by omega, by omega⟩
  rfl

theorem sDrawCountJoined (a : Option Addr) (l : List UInt8) (cap : Nat) (w : World) (hc : Sl rByte w a l) (hcap : l.length ≤ cap) : Fn Try.prog 10 [.slice a l.length cap] w (fun v w1 => ∃ n m : Nat, v = .tuple #[vint n, vint m] ∧ Keep [] w w1 ∧ 1 ≤ n ∧ n ≤ 4 ∧ 1 ≤ m ∧ m ≤ 12) := by
  refine Fn.enter (n := 8) Try.func10 rfl rfl rfl ?_
  show WC _ _ _ _ [(0, .slice a l.length cap)] _
  have hH := Hp.start [] w
  refine WC.seq ?_
  refine WC.region ?_
  refine WL.u rfl rfl (Wt.plain rfl) (Ex.assign rfl) ?_
  refine WL.u rfl rfl (Wt.plain rfl) (Ex.assign rfl) ?_
  refine WL.next ?_
  refine WC.seq ?_
  refine WC.region ?_
  refine WL.u rfl rfl (Wt.plain rfl) (Ex.move rfl) ?_
  refine WL.call callable24 rfl (Wt.plain rfl) rfl rfl (sl92Counts _ _ _ _ (hc.kept hH.keep) hcap) ?_
  rintro _ wn ⟨n, m, rfl, hC, hn1, hn4, hm1, hm12⟩; replace hH := hH.call hC; clear hC
  refine WL.u rfl rfl (Wt.plain rfl) (Ex.extract rfl rfl) ?_
  refine WL.u rfl rfl (Wt.plain rfl) (Ex.extract rfl rfl) ?_
  refine WL.u rfl rfl (Wt.plain rfl) (Ex.assign rfl) ?_
  refine WL.u rfl rfl (Wt.plain rfl) (Ex.assign rfl) ?_
  refine WL.next ?_
  refine WC.ret ?_
  refine WN.body2 rfl rfl rfl ?_
  exact ⟨n, m, rfl, hH.keep, hn1, hn4, hm1, hm12⟩


theorem countPorts_ok (n m : Int) : (countPorts n m).2 = fewB n m 9 := by
  unfold countPorts
  split
  · next h => exact h.symm
  · next h => simpa using h

end Go.Proofs.Ytmlkabddhdkpaaa

/- The draw of a grid and two ports; grids lead each beam somewhere. -/
namespace Go.Proofs.Ytmlkabddhdkpaaa
set_option maxRecDepth 100000
set_option linter.unusedSimpArgs false
set_option linter.unusedVariables false
open Go Go.RowKit


theorem aimMany_ok (g : Grid) (p q : Int) : (aimMany g p q).2 = aimB g p q 6 := by
  unfold aimMany
  split
  · next h => exact h.symm
  · next h => simpa using h
theorem aimB_of {g : Grid} {p q : Nat} {k : Int} (hG : GridOk g) (hp : p < ports g) (hq : q < ports g) (hpq : p ≠ q) (hk : ((nR g * nC g : Nat) : Int) ≤ k) : aimB g p q k = true := by
  have hI := gridIn_true hG
  have hP : ∀ p : Nat, p < ports g → portIn g (p : Int) = true := fun p hp => by
    rw [portIn, hI, decide_eq_true (show (0 : Int) ≤ p ∧ (p : Int) < ports g by omega)]; rfl
  rw [aimB, hP p hp, hP q hq, decide_eq_true (show (p : Int) ≠ q by omega), decide_eq_true hk]; rfl
theorem endN_lt {n m p : Nat} (k : Nat) (h1 : 1 ≤ n) (h2 : n ≤ 5) (h3 : 1 ≤ m) (h4 : m ≤ 5) (hp : p < 2 * n + 2 * m) : endN n m p k < 2 * n + 2 * m := by
  have hG := numG_ok k h1 h2 h3 h4
  have hq := numG_ports m k h1
  have := way_end hG.sz (p := p) (by rw [hq]; exact hp)
  rw [hq] at this; exact this
theorem endN_ne {n m p : Nat} (k : Nat) (h1 : 1 ≤ n) (h2 : n ≤ 5) (h3 : 1 ≤ m) (h4 : m ≤ 5) (hp : p < 2 * n + 2 * m) : endN n m p k ≠ p := by
  have hG := numG_ok k h1 h2 h3 h4
  have hq := numG_ports m k h1
  exact way_ne hG.sz (by rw [hq]; exact hp)
theorem endN_swap {n m p q : Nat} (h1 : 1 ≤ n) (h2 : n ≤ 5) (h3 : 1 ≤ m) (h4 : m ≤ 5) (hp : p < 2 * n + 2 * m) (hq : q < 2 * n + 2 * m) (N : Nat) : tally (endN n m q) p N = tally (endN n m p) q N :=
  tally_congr _ _ _ _ N fun k _ => by
    have hG := numG_ok k h1 h2 h3 h4
    have hP := numG_ports m k h1
    exact way_swap hG.sz (by rw [hP]; exact hq) (by rw [hP]; exact hp)
/-- what one more port adds -/
theorem aim_add {g : Grid} {p x : Nat} (hG : GridOk g) (hp : p < ports g) (hx : x < ports g) (h6 : ((nR g * nC g : Nat) : Int) ≤ 6) :
    ((aimMany g p x).2 = true → (aimMany g p x).1 = ((tally (endN (nR g) (nC g) p) x (3 ^ (nR g * nC g)) : Nat) : Int)) ∧ ((aimMany g p x).2 = false → tally (endN (nR g) (nC g) p) x (3 ^ (nR g * nC g)) = 0) := by
  have hpe : ports g = 2 * nR g + 2 * nC g := rfl
  refine ⟨fun h => ?_, fun h => ?_⟩
  · rw [aimMany_ok] at h; rw [aimMany_at h]
  · rw [aimMany_ok] at h
    by_cases e : p = x
    · subst e
      exact tally_zero _ _ _ fun k _ => endN_ne k hG.n1 hG.n5 hG.m1 hG.m5 (by rw [← hpe]; exact hp)
    · rw [aimB_of hG hp hx e h6] at h; cases h

end Go.Proofs.Ytmlkabddhdkpaaa
