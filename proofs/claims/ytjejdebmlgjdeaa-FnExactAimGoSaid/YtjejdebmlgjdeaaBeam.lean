/- Beams: the first step, the next one, the whole way; ports. -/
import Derived.Test.YtjejdebmlgjdeaaGrid
namespace Go.Proofs.Ytjejdebmlgjdeaa
set_option maxRecDepth 100000
set_option linter.unusedSimpArgs false
set_option linter.unusedVariables false
open Go Go.RowKit

theorem mulB (x y : Int) (hx : -1000 ≤ x ∧ x ≤ 1000) (hy : -1000 ≤ y ∧ y ≤ 1000) : -1000000 ≤ x * y ∧ x * y ≤ 1000000 := by
  obtain ⟨a, b⟩ := hx
  obtain ⟨c, d⟩ := hy
  have h1 : x.natAbs ≤ 1000 := by omega
  have h2 : y.natAbs ≤ 1000 := by omega
  have h3 : (x * y).natAbs ≤ 1000 * 1000 := by rw [Int.natAbs_mul]; exact Nat.mul_le_mul h1 h2
  omega

theorem sl2Bend (c : UInt8) (d : Nat) (w : World) (hd : d < 4) : Fn Try.prog 102 [.int .u8 c.toNat, vint d] w (fun v w1 => v = vint (bend c d) ∧ w1 = w) := by
  refine Fn.enter (n := 15) Try.func102 rfl rfl rfl ?_
  show WC _ _ _ _ [(0, .int .u8 c.toNat), (1, vint d)] _
  refine WC.seq ?_
  refine WC.region ?_
  refine WL.u rfl rfl (Wt.plain rfl) (Ex.assign rfl) ?_
  refine WL.next ?_
  refine WC.seq ?_
  refine WC.seq ?_
  refine WC.region ?_
  refine WL.u rfl rfl (Wt.plain rfl) (Ex.move rfl) ?_
  refine WL.next ?_
  refine WC.block ?_
  refine WC.seq ?_
  refine WC.region ?_
  refine WL.u rfl rfl (Wt.plain rfl) (Ex.eql rfl rfl) ?_
  refine WL.u rfl rfl (Wt.plain rfl) (Ex.assign rfl) ?_
  refine WL.next ?_
  refine WC.cond rfl (fun hc1 => ?_) (fun hc1 => ?_)
  · have hc1' := hc1; try simp only [decide_eq_true_eq, decide_eq_false_iff_not, Bool.not_eq_true', Bool.not_eq_false', Bool.not_eq_true, Bool.not_eq_false] at hc1'
    have hc : c = 114 := (u8_114 c).1 (by omega)
    refine WC.seq ?_
    refine WC.region ?_
    refine WL.u rfl rfl (Wt.plain rfl) (Ex.move rfl) ?_
    refine WL.u rfl rfl (Wt.plain rfl) (Ex.xor1 hd rfl) ?_
    refine WL.u rfl rfl (Wt.plain rfl) (Ex.assign rfl) ?_
    refine WL.next ?_
    refine WC.ret ?_
    refine WN.retBlock ?_
    refine WN.retThen ?_
    refine WN.body1 rfl rfl ?_
    refine ⟨?_, rfl⟩
    obtain h | h | h | h : d = 0 ∨ d = 1 ∨ d = 2 ∨ d = 3 := by omega
    all_goals (subst h; simp [bend, hc])
  have hc1' := hc1; try simp only [decide_eq_true_eq, decide_eq_false_iff_not, Bool.not_eq_true', Bool.not_eq_false', Bool.not_eq_true, Bool.not_eq_false] at hc1'
  have hc : ¬ c = 114 := fun h => hc1' ((u8_114 c).2 h)
  refine WC.seq ?_
  refine WC.region ?_
  refine WL.u rfl rfl (Wt.plain rfl) (Ex.eql rfl rfl) ?_
  refine WL.u rfl rfl (Wt.plain rfl) (Ex.assign rfl) ?_
  refine WL.next ?_
  refine WC.cond rfl (fun hc2 => ?_) (fun hc2 => ?_)
  · have hc2' := hc2; try simp only [decide_eq_true_eq, decide_eq_false_iff_not, Bool.not_eq_true', Bool.not_eq_false', Bool.not_eq_true, Bool.not_eq_false] at hc2'
    have hc3 : c = 102 := (u8_102 c).1 (by omega)
    refine WC.seq ?_
    refine WC.region ?_
    refine WL.u rfl rfl (Wt.plain rfl) (Ex.move rfl) ?_
    refine WL.u rfl rfl (Wt.plain rfl) (Ex.sub rfl rfl (by omega)) ?_
    refine WL.u rfl rfl (Wt.plain rfl) (Ex.assign rfl) ?_
    refine WL.next ?_
    refine WC.ret ?_
    refine WN.retBlock ?_
    refine WN.retThen ?_
    refine WN.body1 rfl rfl ?_
    refine ⟨?_, rfl⟩
    obtain h | h | h | h : d = 0 ∨ d = 1 ∨ d = 2 ∨ d = 3 := by omega
    all_goals (subst h; simp [bend, hc, hc3])
  have hc2' := hc2; try simp only [decide_eq_true_eq, decide_eq_false_iff_not, Bool.not_eq_true', Bool.not_eq_false', Bool.not_eq_true, Bool.not_eq_false] at hc2'
  have hc3 : ¬ c = 102 := fun h => hc2' ((u8_102 c).2 h)
  refine WC.skip ?_
  refine WN.normalBlock ?_
  refine WN.next ?_
  refine WC.seq ?_
  refine WC.region ?_
  refine WL.u rfl rfl (Wt.plain rfl) (Ex.move rfl) ?_
  refine WL.u rfl rfl (Wt.plain rfl) (Ex.assign rfl) ?_
  refine WL.next ?_
  refine WC.ret ?_
  refine WN.body1 rfl rfl ?_
  refine ⟨?_, rfl⟩
  simp [bend, hc, hc3]

theorem iturned (c : UInt8) (d : Nat) (w : World) (hd : d < 4) : Fn Try.prog 118 [.int .u8 c.toNat, vint d] w (fun v w1 => v = vint (bend c d) ∧ Keep [] w w1) := by
  refine Fn.enter (n := 19) Try.func118 rfl rfl rfl ?_
  show WC _ _ _ _ [(0, .int .u8 c.toNat), (1, vint d)] _
  have hH := Hp.start [] w
  refine WC.seq ?_
  refine WC.region ?_
  refine WL.u rfl rfl (Wt.plain rfl) (Ex.assign rfl) ?_
  refine WL.next ?_
  refine WC.seq ?_
  refine WC.seq ?_
  refine WC.region ?_
  refine WL.u rfl rfl (Wt.plain rfl) (Ex.move rfl) ?_
  refine WL.next ?_
  refine WC.block ?_
  refine WC.seq ?_
  refine WC.region ?_
  refine WL.u rfl rfl (Wt.plain rfl) (Ex.eql rfl rfl) ?_
  refine WL.u rfl rfl (Wt.plain rfl) (Ex.assign rfl) ?_
  refine WL.next ?_
  refine WC.cond rfl (fun hc1 => ?_) (fun hc1 => ?_)
  · have hc1' := hc1; try simp only [decide_eq_true_eq, decide_eq_false_iff_not, Bool.not_eq_true', Bool.not_eq_false', Bool.not_eq_true, Bool.not_eq_false] at hc1'
    have hc : c = 114 := (u8_114 c).1 (by omega)
    refine WC.seq ?_
    refine WC.region ?_
    refine WL.lit Try.underlying38 ty3 rfl rfl rfl rfl rfl rfl rfl (Wt.plain rfl) hH (fun b8 wn hb8 hk8 hH => ?_)
    refine WL.u rfl rfl (Wt.plain rfl) (Ex.move rfl) ?_
    refine WL.u rfl rfl (Wt.plain rfl) (Ex.indexAddr Try.underlying38 ty3 rfl rfl (by omega)) ?_
    have hcs : (#[vint 1, vint 0, vint 3, vint 2] : Array Value)[0 + (d : Int).toNat * 1]? = some (vint (bend c d)) := by
      obtain h | h | h | h : d = 0 ∨ d = 1 ∨ d = 2 ∨ d = 3 := by omega
      all_goals (subst h; simp [bend, hc])
    refine WL.u rfl rfl (Wt.plain rfl) (Ex.loadHp flat3 rfl hH hcs) ?_
    refine WL.u rfl rfl (Wt.plain rfl) (Ex.assign rfl) ?_
    refine WL.next ?_
    refine WC.ret ?_
    refine WN.retBlock ?_
    refine WN.retThen ?_
    refine WN.body1 rfl rfl ?_
    exact ⟨rfl, hH.keep⟩
  have hc1' := hc1; try simp only [decide_eq_true_eq, decide_eq_false_iff_not, Bool.not_eq_true', Bool.not_eq_false', Bool.not_eq_true, Bool.not_eq_false] at hc1'
  have hc : ¬ c = 114 := fun h => hc1' ((u8_114 c).2 h)
  refine WC.seq ?_
  refine WC.region ?_
  refine WL.u rfl rfl (Wt.plain rfl) (Ex.eql rfl rfl) ?_
  refine WL.u rfl rfl (Wt.plain rfl) (Ex.assign rfl) ?_
  refine WL.next ?_
  refine WC.cond rfl (fun hc2 => ?_) (fun hc2 => ?_)
  · have hc2' := hc2; try simp only [decide_eq_true_eq, decide_eq_false_iff_not, Bool.not_eq_true', Bool.not_eq_false', Bool.not_eq_true, Bool.not_eq_false] at hc2'
    have hc3 : c = 102 := (u8_102 c).1 (by omega)
    refine WC.seq ?_
    refine WC.region ?_
    refine WL.lit Try.underlying38 ty3 rfl rfl rfl rfl rfl rfl rfl (Wt.plain rfl) hH (fun b14 wn hb14 hk14 hH => ?_)
    refine WL.u rfl rfl (Wt.plain rfl) (Ex.move rfl) ?_
    refine WL.u rfl rfl (Wt.plain rfl) (Ex.indexAddr Try.underlying38 ty3 rfl rfl (by omega)) ?_
    have hcs : (#[vint 3, vint 2, vint 1, vint 0] : Array Value)[0 + (d : Int).toNat * 1]? = some (vint (bend c d)) := by
      obtain h | h | h | h : d = 0 ∨ d = 1 ∨ d = 2 ∨ d = 3 := by omega
      all_goals (subst h; simp [bend, hc, hc3])
    refine WL.u rfl rfl (Wt.plain rfl) (Ex.loadHp flat3 rfl hH hcs) ?_
    refine WL.u rfl rfl (Wt.plain rfl) (Ex.assign rfl) ?_
    refine WL.next ?_
    refine WC.ret ?_
    refine WN.retBlock ?_
    refine WN.retThen ?_
    refine WN.body1 rfl rfl ?_
    exact ⟨rfl, hH.keep⟩
  have hc2' := hc2; try simp only [decide_eq_true_eq, decide_eq_false_iff_not, Bool.not_eq_true', Bool.not_eq_false', Bool.not_eq_true, Bool.not_eq_false] at hc2'
  have hc3 : ¬ c = 102 := fun h => hc2' ((u8_102 c).2 h)
  refine WC.skip ?_
  refine WN.normalBlock ?_
  refine WN.next ?_
  refine WC.seq ?_
  refine WC.region ?_
  refine WL.u rfl rfl (Wt.plain rfl) (Ex.move rfl) ?_
  refine WL.u rfl rfl (Wt.plain rfl) (Ex.assign rfl) ?_
  refine WL.next ?_
  refine WC.ret ?_
  refine WN.body1 rfl rfl ?_
  exact ⟨by simp [bend, hc, hc3], hH.keep⟩

theorem sl2Ports (n m : Nat) (w : World) (h1 : n ≤ 100) (h2 : m ≤ 100) : Fn Try.prog 61 [vint n, vint m] w (fun v w1 => v = vint (2 * (n + m)) ∧ w1 = w) := by
  refine Fn.enter (n := 9) Try.func61 rfl rfl rfl ?_
  show WC _ _ _ _ [(0, vint n), (1, vint m)] _
  refine WC.seq ?_
  refine WC.region ?_
  refine WL.u rfl rfl (Wt.plain rfl) (Ex.assign rfl) ?_
  refine WL.next ?_
  refine WC.seq ?_
  refine WC.region ?_
  refine WL.u rfl rfl (Wt.plain rfl) (Ex.move rfl) ?_
  refine WL.u rfl rfl (Wt.plain rfl) (Ex.move rfl) ?_
  refine WL.u rfl rfl (Wt.plain rfl) (Ex.add rfl rfl (by omega)) ?_
  refine WL.u rfl rfl (Wt.plain rfl) (Ex.mul rfl rfl (by omega)) ?_
  refine WL.u rfl rfl (Wt.plain rfl) (Ex.assign rfl) ?_
  refine WL.next ?_
  refine WC.ret ?_
  refine WN.body1 rfl rfl ?_
  exact ⟨rfl, rfl⟩

theorem iportMany (g : Grid) (a : Option Addr) (cap : Nat) (w : World) (hg : Sl rStr w a g) (hG : GridOk g) : Fn Try.prog 92 [.slice a g.length cap] w (fun v w1 => v = vint (ports g) ∧ w1 = w) := by
  refine Fn.enter (n := 12) Try.func92 rfl rfl rfl ?_
  show WC _ _ _ _ [(0, .slice a g.length cap)] _
  obtain ⟨h1, h2, h3, h4, h5, h6⟩ := hG
  obtain ⟨b, off, rfl⟩ := hg.addr (by omega)
  refine WC.seq ?_
  refine WC.region ?_
  refine WL.u rfl rfl (Wt.plain rfl) (Ex.assign rfl) ?_
  refine WL.next ?_
  refine WC.seq ?_
  refine WC.region ?_
  refine WL.u rfl rfl (Wt.plain rfl) (Ex.move rfl) ?_
  refine WL.u rfl rfl (Wt.plain rfl) (Ex.lenSl Try.underlying22 rfl) ?_
  refine WL.u rfl rfl (Wt.plain rfl) (Ex.mul rfl rfl (by omega)) ?_
  refine WL.u rfl rfl (Wt.plain rfl) (Ex.move rfl) ?_
  refine WL.u rfl rfl (Wt.plain rfl) (Ex.indexAddr Try.underlying22 ty9 rfl rfl (by omega)) ?_
  refine WL.u rfl rfl (Wt.plain rfl) (Ex.loadSl flat9 hg rfl rfl (getD_get g 0 [] (by omega))) ?_
  refine WL.u rfl rfl (Wt.plain rfl) (Ex.lenStr Try.underlying9 rfl) ?_
  refine WL.u rfl rfl (Wt.plain rfl) (Ex.mul rfl rfl (by omega)) ?_
  refine WL.u rfl rfl (Wt.plain rfl) (Ex.add rfl rfl (by omega)) ?_
  refine WL.u rfl rfl (Wt.plain rfl) (Ex.assign rfl) ?_
  refine WL.next ?_
  refine WC.ret ?_
  refine WN.body1 rfl rfl ?_
  exact ⟨rfl, rfl⟩


theorem enter_cast (n m p : Nat) (hn : 1 ≤ n) (hm : 1 ≤ m) (hp : p < 2 * n + 2 * m) :
    (p < m → enterN n m p = (p, 2)) ∧
    (m ≤ p → p < m + n → ((enterN n m p).1 : Int) = ((p : Int) - m) * m + m - 1 ∧ (enterN n m p).2 = 3) ∧
    (m + n ≤ p → p < 2 * m + n → ((enterN n m p).1 : Int) = ((n : Int) - 1) * m + m - 1 - ((p : Int) - m - n) ∧ (enterN n m p).2 = 0) ∧
    (2 * m + n ≤ p → ((enterN n m p).1 : Int) = ((n : Int) - 1 - ((p : Int) - 2 * m - n)) * m ∧ (enterN n m p).2 = 1) := by
  refine ⟨fun h => by simp [enterN, h], fun h1 h2 => ?_, fun h1 h2 => ?_, fun h1 => ?_⟩
  · have e : enterN n m p = ((p - m) * m + m - 1, 3) := by simp [enterN, Nat.not_lt.2 h1, h2]
    rw [e]
    refine ⟨?_, rfl⟩
    have h3 : (((p - m) * m : Nat) : Int) = ((p : Int) - m) * m := by rw [Int.natCast_mul, Int.natCast_sub h1]
    show (((p - m) * m + m - 1 : Nat) : Int) = _
    omega
  · have e : enterN n m p = ((n - 1) * m + m - 1 - (p - m - n), 0) := by simp [enterN, show ¬ p < m by omega, Nat.not_lt.2 h1, h2]
    rw [e]
    refine ⟨?_, rfl⟩
    have h3 : (((n - 1) * m : Nat) : Int) = ((n : Int) - 1) * m := by rw [Int.natCast_mul, Int.natCast_sub hn]; rfl
    show (((n - 1) * m + m - 1 - (p - m - n) : Nat) : Int) = _
    omega
  · have e : enterN n m p = ((n - 1 - (p - 2 * m - n)) * m, 1) := by simp [enterN, show ¬ p < m by omega, show ¬ p < m + n by omega, Nat.not_lt.2 h1]
    rw [e]
    refine ⟨?_, rfl⟩
    have h3 : (((n - 1 - (p - 2 * m - n)) * m : Nat) : Int) = ((n : Int) - 1 - ((p : Int) - 2 * m - n)) * m := by
      rw [Int.natCast_mul]; congr 1; omega
    exact h3

theorem ienter (g : Grid) (a : Option Addr) (cap p : Nat) (w : World) (hg : Sl rStr w a g) (hG : GridOk g) (hp : p < ports g) : Fn Try.prog 50 [.slice a g.length cap, vint p] w (fun v w1 => v = .agg #[vint (enterN (nR g) (nC g) p).1, vint (enterN (nR g) (nC g) p).2] ∧ Keep [] w w1) := by
  refine Fn.enter (n := 67) Try.func50 rfl rfl rfl ?_
  show WC _ _ _ _ [(0, .slice a g.length cap), (1, vint p)] _
  have hm := hg.1
  have hn1 := hG.n1
  have hn5 := hG.n5
  have hm1 := hG.m1
  have hm5 := hG.m5
  obtain ⟨b, off, rfl⟩ := hg.addr (by omega)
  have hp2 : p < 2 * g.length + 2 * (g.getD 0 []).length := hp
  have hE := enter_cast g.length (g.getD 0 []).length p hn1 hm1 hp2
  have hH := Hp.start [] w
  refine WC.seq ?_
  refine WC.region ?_
  refine WL.alloc ty58 rfl rfl (Wt.plain rfl) hH (fun b4 wn hb4 hk4 hH => ?_)
  refine WL.next ?_
  refine WC.seq ?_
  refine WC.quietK rfl (by kernel_rfl) ?_
  refine WQ.u rfl rfl (Wt.plain rfl) (fun w hC => Ex.move rfl) ?_
  refine WQ.u rfl rfl (Wt.plain rfl) (fun w hC => Ex.lenSl Try.underlying22 rfl) ?_
  refine WQ.u rfl rfl (Wt.plain rfl) (fun w hC => Ex.move rfl) ?_
  refine WQ.u rfl rfl (Wt.plain rfl) (fun w hC => Ex.indexAddr Try.underlying22 ty9 rfl rfl (by omega)) ?_
  refine WQ.u rfl rfl (Wt.plain rfl) (fun w hC => Ex.loadSl flat9 ((hg.kept hH.keep).kept hC) rfl rfl (getD_get g 0 [] (by omega))) ?_
  refine WQ.u rfl rfl (Wt.plain rfl) (fun w hC => Ex.lenStr Try.underlying9 rfl) ?_
  refine WQ.u rfl rfl (Wt.plain rfl) (fun w hC => Ex.assign rfl) ?_
  refine WQ.u rfl rfl (Wt.plain rfl) (fun w hC => Ex.assign rfl) ?_
  refine WQ.nil ?_
  intro wn hC; replace hH := hH.call hC; clear hC
  refine WN.next ?_
  refine WC.seq ?_
  refine WC.block ?_
  refine WC.seq ?_
  refine WC.region ?_
  refine WL.u rfl rfl (Wt.plain rfl) (Ex.move rfl) ?_
  refine WL.u rfl rfl (Wt.plain rfl) (Ex.move rfl) ?_
  refine WL.u rfl rfl (Wt.plain rfl) (Ex.lss rfl rfl) ?_
  refine WL.u rfl rfl (Wt.plain rfl) (Ex.assign rfl) ?_
  refine WL.next ?_
  refine WC.cond rfl (fun hc1 => ?_) (fun hc1 => ?_)
  · have hc1' := hc1; try simp only [decide_eq_true_eq, decide_eq_false_iff_not, Bool.not_eq_true', Bool.not_eq_false', Bool.not_eq_true, Bool.not_eq_false] at hc1'
    refine WC.seq ?_
    refine WC.region ?_
    refine WL.u rfl rfl (Wt.plain rfl) (Ex.move rfl) ?_
    refine WL.u rfl rfl (Wt.plain rfl) (Ex.buildS bd58 rfl rfl rfl rfl rfl) ?_
    refine WL.store2 ty58 rfl rfl rfl rfl (Wt.plain rfl) hH (fun wn hk hH => ?_)
    refine WL.next ?_
    refine WC.ret ?_
    refine WN.retBlock ?_
    refine WN.retThen ?_
    refine WN.cell1 rfl rfl Try.underlying58 ty58 hH ?_
    exact ⟨by rw [hE.1 (by omega)]; rfl, hH.keep⟩
  have hc1' := hc1; try simp only [decide_eq_true_eq, decide_eq_false_iff_not, Bool.not_eq_true', Bool.not_eq_false', Bool.not_eq_true, Bool.not_eq_false] at hc1'
  refine WC.seq ?_
  refine WC.region ?_
  refine WL.u rfl rfl (Wt.plain rfl) (Ex.move rfl) ?_
  refine WL.u rfl rfl (Wt.plain rfl) (Ex.move rfl) ?_
  refine WL.u rfl rfl (Wt.plain rfl) (Ex.move rfl) ?_
  refine WL.u rfl rfl (Wt.plain rfl) (Ex.add rfl rfl (by omega)) ?_
  refine WL.u rfl rfl (Wt.plain rfl) (Ex.lss rfl rfl) ?_
  refine WL.u rfl rfl (Wt.plain rfl) (Ex.assign rfl) ?_
  refine WL.next ?_
  refine WC.cond rfl (fun hc2 => ?_) (fun hc2 => ?_)
  · have hc2' := hc2; try simp only [decide_eq_true_eq, decide_eq_false_iff_not, Bool.not_eq_true', Bool.not_eq_false', Bool.not_eq_true, Bool.not_eq_false] at hc2'
    refine WC.seq ?_
    refine WC.region ?_
    refine WL.u rfl rfl (Wt.plain rfl) (Ex.move rfl) ?_
    refine WL.u rfl rfl (Wt.plain rfl) (Ex.move rfl) ?_
    refine WL.u rfl rfl (Wt.plain rfl) (Ex.sub rfl rfl (by omega)) ?_
    refine WL.u rfl rfl (Wt.plain rfl) (Ex.move rfl) ?_
    have hb := mulB ((p : Int) - ((g.getD 0 []).length : Int)) ((g.getD 0 []).length : Int) (by omega) (by omega)
    refine WL.u rfl rfl (Wt.plain rfl) (Ex.mul rfl rfl (by omega)) ?_
    refine WL.u rfl rfl (Wt.plain rfl) (Ex.move rfl) ?_
    refine WL.u rfl rfl (Wt.plain rfl) (Ex.add rfl rfl (by omega)) ?_
    refine WL.u rfl rfl (Wt.plain rfl) (Ex.sub rfl rfl (by omega)) ?_
    refine WL.u rfl rfl (Wt.plain rfl) (Ex.buildS bd58 rfl rfl rfl rfl rfl) ?_
    refine WL.store2 ty58 rfl rfl rfl rfl (Wt.plain rfl) hH (fun wn hk hH => ?_)
    refine WL.next ?_
    refine WC.ret ?_
    refine WN.retBlock ?_
    refine WN.retThen ?_
    refine WN.cell1 rfl rfl Try.underlying58 ty58 hH ?_
    have hx := hE.2.1 (by omega) (by omega)
    exact ⟨by rw [hx.1, hx.2]; rfl, hH.keep⟩
  have hc2' := hc2; try simp only [decide_eq_true_eq, decide_eq_false_iff_not, Bool.not_eq_true', Bool.not_eq_false', Bool.not_eq_true, Bool.not_eq_false] at hc2'
  refine WC.seq ?_
  refine WC.region ?_
  refine WL.u rfl rfl (Wt.plain rfl) (Ex.move rfl) ?_
  refine WL.u rfl rfl (Wt.plain rfl) (Ex.move rfl) ?_
  refine WL.u rfl rfl (Wt.plain rfl) (Ex.mul rfl rfl (by omega)) ?_
  refine WL.u rfl rfl (Wt.plain rfl) (Ex.move rfl) ?_
  refine WL.u rfl rfl (Wt.plain rfl) (Ex.add rfl rfl (by omega)) ?_
  refine WL.u rfl rfl (Wt.plain rfl) (Ex.lss rfl rfl) ?_
  refine WL.u rfl rfl (Wt.plain rfl) (Ex.assign rfl) ?_
  refine WL.next ?_
  refine WC.cond rfl (fun hc3 => ?_) (fun hc3 => ?_)
  · have hc3' := hc3; try simp only [decide_eq_true_eq, decide_eq_false_iff_not, Bool.not_eq_true', Bool.not_eq_false', Bool.not_eq_true, Bool.not_eq_false] at hc3'
    refine WC.seq ?_
    refine WC.region ?_
    refine WL.u rfl rfl (Wt.plain rfl) (Ex.move rfl) ?_
    refine WL.u rfl rfl (Wt.plain rfl) (Ex.sub rfl rfl (by omega)) ?_
    refine WL.u rfl rfl (Wt.plain rfl) (Ex.move rfl) ?_
    have hb := mulB ((g.length : Int) - 1) ((g.getD 0 []).length : Int) (by omega) (by omega)
    refine WL.u rfl rfl (Wt.plain rfl) (Ex.mul rfl rfl (by omega)) ?_
    refine WL.u rfl rfl (Wt.plain rfl) (Ex.move rfl) ?_
    refine WL.u rfl rfl (Wt.plain rfl) (Ex.add rfl rfl (by omega)) ?_
    refine WL.u rfl rfl (Wt.plain rfl) (Ex.sub rfl rfl (by omega)) ?_
    refine WL.u rfl rfl (Wt.plain rfl) (Ex.move rfl) ?_
    refine WL.u rfl rfl (Wt.plain rfl) (Ex.move rfl) ?_
    refine WL.u rfl rfl (Wt.plain rfl) (Ex.sub rfl rfl (by omega)) ?_
    refine WL.u rfl rfl (Wt.plain rfl) (Ex.move rfl) ?_
    refine WL.u rfl rfl (Wt.plain rfl) (Ex.sub rfl rfl (by omega)) ?_
    refine WL.u rfl rfl (Wt.plain rfl) (Ex.sub rfl rfl (by omega)) ?_
    refine WL.u rfl rfl (Wt.plain rfl) (Ex.buildS bd58 rfl rfl rfl rfl rfl) ?_
    refine WL.store2 ty58 rfl rfl rfl rfl (Wt.plain rfl) hH (fun wn hk hH => ?_)
    refine WL.next ?_
    refine WC.ret ?_
    refine WN.retBlock ?_
    refine WN.retThen ?_
    refine WN.cell1 rfl rfl Try.underlying58 ty58 hH ?_
    have hx := hE.2.2.1 (by omega) (by omega)
    exact ⟨by rw [hx.1, hx.2]; rfl, hH.keep⟩
  have hc3' := hc3; try simp only [decide_eq_true_eq, decide_eq_false_iff_not, Bool.not_eq_true', Bool.not_eq_false', Bool.not_eq_true, Bool.not_eq_false] at hc3'
  refine WC.skip ?_
  refine WN.normalBlock ?_
  refine WN.next ?_
  refine WC.seq ?_
  refine WC.region ?_
  refine WL.u rfl rfl (Wt.plain rfl) (Ex.move rfl) ?_
  refine WL.u rfl rfl (Wt.plain rfl) (Ex.sub rfl rfl (by omega)) ?_
  refine WL.u rfl rfl (Wt.plain rfl) (Ex.move rfl) ?_
  refine WL.u rfl rfl (Wt.plain rfl) (Ex.move rfl) ?_
  refine WL.u rfl rfl (Wt.plain rfl) (Ex.mul rfl rfl (by omega)) ?_
  refine WL.u rfl rfl (Wt.plain rfl) (Ex.sub rfl rfl (by omega)) ?_
  refine WL.u rfl rfl (Wt.plain rfl) (Ex.move rfl) ?_
  refine WL.u rfl rfl (Wt.plain rfl) (Ex.sub rfl rfl (by omega)) ?_
  refine WL.u rfl rfl (Wt.plain rfl) (Ex.sub rfl rfl (by omega)) ?_
  refine WL.u rfl rfl (Wt.plain rfl) (Ex.move rfl) ?_
  have hb := mulB ((g.length : Int) - 1 - ((p : Int) - 2 * ((g.getD 0 []).length : Int) - (g.length : Int))) ((g.getD 0 []).length : Int) (by omega) (by omega)
  refine WL.u rfl rfl (Wt.plain rfl) (Ex.mul rfl rfl (by omega)) ?_
  refine WL.u rfl rfl (Wt.plain rfl) (Ex.buildS bd58 rfl rfl rfl rfl rfl) ?_
  refine WL.store2 ty58 rfl rfl rfl rfl (Wt.plain rfl) hH (fun wn hk hH => ?_)
  refine WL.next ?_
  refine WC.ret ?_
  refine WN.cell1 rfl rfl Try.underlying58 ty58 hH ?_
  have hx := hE.2.2.2 (by omega)
  exact ⟨by rw [hx.1, hx.2]; rfl, hH.keep⟩


/-- what the program's 'after' hands back: the next step (the same one at an end), and the port or -1 -/
def nx (g : Grid) (s : Nat × Nat) : Nat × Nat := match afterN g s with
  | .inl _ => s
  | .inr s' => s'
def ex (g : Grid) (s : Nat × Nat) : Int := match afterN g s with
  | .inl p => p
  | .inr _ => -1
abbrev aftV (g : Grid) (s : Nat × Nat) : Value := .tuple #[.agg #[vint (nx g s).1, vint (nx g s).2], vint (ex g s)]
theorem tupEq {a a' b b' c c' : Int} (h1 : a = a') (h2 : b = b') (h3 : c = c') : Value.tuple #[.agg #[vint a, vint b], vint c] = Value.tuple #[.agg #[vint a', vint b'], vint c'] := by rw [h1, h2, h3]

theorem goN_0o (n m cell : Nat) (h : cell / m = 0) : goN n m cell 0 = .inl (cell % m) := by simp [goN, h]
theorem goN_0i (n m cell : Nat) (h : cell / m ≠ 0) : goN n m cell 0 = .inr (cell - m, 0) := by simp only [goN, if_true, if_neg h]
theorem goN_1o (n m cell : Nat) (h : cell % m + 1 = m) : goN n m cell 1 = .inl (m + cell / m) := by simp [goN, h]
theorem goN_1i (n m cell : Nat) (h : cell % m + 1 ≠ m) : goN n m cell 1 = .inr (cell + 1, 1) := by simp [goN, h]
theorem goN_2o (n m cell : Nat) (h : cell / m + 1 = n) : goN n m cell 2 = .inl (2 * m + n - 1 - cell % m) := by simp [goN, h]
theorem goN_2i (n m cell : Nat) (h : cell / m + 1 ≠ n) : goN n m cell 2 = .inr (cell + m, 2) := by simp [goN, h]
theorem goN_3o (n m cell : Nat) (h : cell % m = 0) : goN n m cell 3 = .inl (2 * m + 2 * n - 1 - cell / m) := by simp [goN, h]
theorem goN_3i (n m cell : Nat) (h : cell % m ≠ 0) : goN n m cell 3 = .inr (cell - 1, 3) := by simp [goN, h]
theorem aftV_o {g : Grid} {cell d b p : Nat} (hb : bend (letter g cell) d = b) (h : goN (nR g) (nC g) cell b = .inl p) : aftV g (cell, d) = .tuple #[.agg #[vint cell, vint d], vint p] := by
  simp only [aftV, nx, ex, afterN, hb, h]
theorem aftV_i {g : Grid} {cell d b : Nat} {s' : Nat × Nat} (hb : bend (letter g cell) d = b) (h : goN (nR g) (nC g) cell b = .inr s') : aftV g (cell, d) = .tuple #[.agg #[vint s'.1, vint s'.2], vint (-1)] := by
  simp only [aftV, nx, ex, afterN, hb, h]

set_option maxHeartbeats 400000 in
theorem iafter (g : Grid) (a : Option Addr) (cap cell d : Nat) (w : World) (hg : Sl rStr w a g) (hG : GridOk g) (hcell : cell < nR g * nC g) (hd : d < 4) : Fn Try.prog 93 [.slice a g.length cap, .agg #[vint cell, vint d]] w (fun v w1 => v = .tuple #[.agg #[vint (nx g (cell, d)).1, vint (nx g (cell, d)).2], vint (ex g (cell, d))] ∧ Keep [] w w1) := by
  refine Fn.enter (n := 103) Try.func93 rfl rfl rfl ?_
  show WC _ _ _ _ [(0, .slice a g.length cap), (1, .agg #[vint cell, vint d])] _
  have hm := hg.1
  have hn1 := hG.n1
  have hn5 := hG.n5
  have hm1 := hG.m1
  have hm5 := hG.m5
  obtain ⟨b, off, rfl⟩ := hg.addr (by omega)
  have hH := Hp.start [] w
  have hc25 : cell < 25 := Nat.lt_of_lt_of_le hcell (Nat.mul_le_mul hn5 hm5)
  have hdm : (cell : Int) / ((g.getD 0 []).length : Int) = ((cell / (g.getD 0 []).length : Nat) : Int) := rfl
  have hmm : (cell : Int) % ((g.getD 0 []).length : Int) = ((cell % (g.getD 0 []).length : Nat) : Int) := rfl
  have hrl : cell / (g.getD 0 []).length < g.length := Nat.div_lt_of_lt_mul (by rw [Nat.mul_comm]; exact hcell)
  have hcl : cell % (g.getD 0 []).length < (g.getD 0 []).length := Nat.mod_lt _ hm1
  have hrow := hG.row _ hrl
  have hdi : 0 ≤ (cell : Int) / ((g.getD 0 []).length : Int) ∧ (cell : Int) / ((g.getD 0 []).length : Int) < (g.length : Int) := ⟨Int.ediv_nonneg (by omega) (by omega), by rw [hdm]; exact Int.ofNat_lt.2 hrl⟩
  have hmi : 0 ≤ (cell : Int) % ((g.getD 0 []).length : Int) ∧ (cell : Int) % ((g.getD 0 []).length : Int) < ((g.getD 0 []).length : Int) := ⟨Int.emod_nonneg _ (by omega), by rw [hmm]; exact Int.ofNat_lt.2 hcl⟩
  have hb4 := bend_lt (letter g cell) d hd
  refine WC.seq ?_
  refine WC.region ?_
  refine WL.box rfl rfl rfl (Wt.plain rfl) hH (fun b3 wn hb3 hk3 hH => ?_)
  refine WL.alloc ty58 rfl rfl (Wt.plain rfl) hH (fun b4 wn hb4 hk4 hH => ?_)
  refine WL.u rfl rfl (Wt.plain rfl) (Ex.assign rfl) ?_
  refine WL.next ?_
  refine WC.seq ?_
  refine WC.quietK rfl (by kernel_rfl) ?_
  refine WQ.u rfl rfl (Wt.plain rfl) (fun w hC => Ex.move rfl) ?_
  refine WQ.u rfl rfl (Wt.plain rfl) (fun w hC => Ex.lenSl Try.underlying22 rfl) ?_
  refine WQ.u rfl rfl (Wt.plain rfl) (fun w hC => Ex.move rfl) ?_
  refine WQ.u rfl rfl (Wt.plain rfl) (fun w hC => Ex.indexAddr Try.underlying22 ty9 rfl rfl (by omega)) ?_
  refine WQ.u rfl rfl (Wt.plain rfl) (fun w hC => Ex.loadSl flat9 ((hg.kept hH.keep).kept hC) rfl rfl (getD_get g 0 [] (by omega))) ?_
  refine WQ.u rfl rfl (Wt.plain rfl) (fun w hC => Ex.lenStr Try.underlying9 rfl) ?_
  refine WQ.u rfl rfl (Wt.plain rfl) (fun w hC => Ex.assign rfl) ?_
  refine WQ.u rfl rfl (Wt.plain rfl) (fun w hC => Ex.assign rfl) ?_
  refine WQ.nil ?_
  intro wn hC; replace hH := hH.call hC; clear hC
  refine WN.next ?_
  refine WC.seq ?_
  refine WC.quietK rfl (by kernel_rfl) ?_
  refine WQ.u rfl rfl (Wt.plain rfl) (fun w hC => Ex.fieldAddr fd58_0 rfl) ?_
  replace hH := hH.f1
  refine WQ.u rfl rfl (Wt.plain rfl) (fun w hC => Ex.loadHp flat3 rfl (hH.call hC) rfl) ?_
  refine WQ.u rfl rfl (Wt.plain rfl) (fun w hC => Ex.move rfl) ?_
  refine WQ.u rfl rfl (Wt.plain rfl) (fun w hC => Ex.quo rfl rfl (by omega) (by omega)) ?_
  refine WQ.u rfl rfl (Wt.plain rfl) (fun w hC => Ex.fieldAddr fd58_0 rfl) ?_
  refine WQ.u rfl rfl (Wt.plain rfl) (fun w hC => Ex.loadHp flat3 rfl (hH.call hC) rfl) ?_
  refine WQ.u rfl rfl (Wt.plain rfl) (fun w hC => Ex.move rfl) ?_
  refine WQ.u rfl rfl (Wt.plain rfl) (fun w hC => Ex.rem rfl rfl (by omega) (by omega)) ?_
  refine WQ.u rfl rfl (Wt.plain rfl) (fun w hC => Ex.assign rfl) ?_
  refine WQ.u rfl rfl (Wt.plain rfl) (fun w hC => Ex.assign rfl) ?_
  refine WQ.nil ?_
  intro wn hC; replace hH := hH.call hC; clear hC
  refine WN.next ?_
  refine WC.seq ?_
  refine WC.quietK rfl (by kernel_rfl) ?_
  refine WQ.u rfl rfl (Wt.plain rfl) (fun w hC => Ex.move rfl) ?_
  refine WQ.u rfl rfl (Wt.plain rfl) (fun w hC => Ex.move rfl) ?_
  refine WQ.u rfl rfl (Wt.plain rfl) (fun w hC => Ex.indexAddr Try.underlying22 ty9 rfl rfl (by omega)) ?_
  refine WQ.u rfl rfl (Wt.plain rfl) (fun w hC => Ex.loadSl flat9 ((hg.kept hH.keep).kept hC) rfl rfl (getD_get g (cell / (g.getD 0 []).length) [] hrl)) ?_
  refine WQ.u rfl rfl (Wt.plain rfl) (fun w hC => Ex.move rfl) ?_
  refine WQ.u rfl rfl (Wt.plain rfl) (fun w hC => Ex.indexStr Try.underlying9 rfl rfl (by (try simp only [List.length_cons, List.length_nil]); omega)) ?_
  refine WQ.u rfl rfl (Wt.plain rfl) (fun w hC => Ex.fieldAddr fd58_1 rfl) ?_
  refine WQ.u rfl rfl (Wt.plain rfl) (fun w hC => Ex.loadHp flat3 rfl (hH.call hC) rfl) ?_
  refine WQ.call callable118 rfl (Wt.plain rfl) rfl rfl (fun w hC => Fn.k hC (iturned (letter g cell) d _ hd)) ?_
  refine WQ.u rfl rfl (Wt.plain rfl) (fun w hC => Ex.assign rfl) ?_
  refine WQ.nil ?_
  intro wn hC; replace hH := hH.call hC; clear hC
  refine WN.next ?_
  refine WC.seq ?_
  refine WC.block ?_
  refine WC.seq ?_
  refine WC.region ?_
  refine WL.u rfl rfl (Wt.plain rfl) (Ex.move rfl) ?_
  refine WL.u rfl rfl (Wt.plain rfl) (Ex.eql rfl rfl) ?_
  refine WL.u rfl rfl (Wt.plain rfl) (Ex.move rfl) ?_
  refine WL.split (t := 37) rfl (fun hg4_2 => ?_) (fun hg4_2 => ?_)
  · have hg4_2' := hg4_2; try simp only [decide_eq_true_eq, decide_eq_false_iff_not, Bool.not_eq_true', Bool.not_eq_false', Bool.not_eq_true, Bool.not_eq_false] at hg4_2'
    have hb : bend (letter g cell) d = 0 := by omega
    refine WL.u rfl rfl (Wt.guard' rfl rfl rfl hg4_2 rfl) (Ex.move rfl) ?_
    refine WL.u rfl rfl (Wt.guard' rfl rfl rfl hg4_2 rfl) (Ex.eql rfl rfl) ?_
    refine WL.u rfl rfl (Wt.plain rfl) (Ex.pickT rfl hg4_2 rfl) ?_
    refine WL.u rfl rfl (Wt.plain rfl) (Ex.assign rfl) ?_
    refine WL.next ?_
    refine WC.cond rfl (fun hc1 => ?_) (fun hc1 => ?_)
    · have hc1' := hc1; try simp only [decide_eq_true_eq, decide_eq_false_iff_not, Bool.not_eq_true', Bool.not_eq_false', Bool.not_eq_true, Bool.not_eq_false] at hc1'
      refine WC.seq ?_
      refine WC.region ?_
      refine WL.u rfl rfl (Wt.plain rfl) (Ex.loadHp2 Try.underlying58 ty58 rfl hH) ?_
      refine WL.u rfl rfl (Wt.plain rfl) (Ex.move rfl) ?_
      replace hH := hH.f1
      refine WL.store2 ty58 rfl rfl rfl rfl (Wt.plain rfl) hH (fun wn hk hH => ?_)
      refine WL.u rfl rfl (Wt.plain rfl) (Ex.assign rfl) ?_
      refine WL.next ?_
      refine WC.ret ?_
      refine WN.retBlock ?_
      refine WN.retThen ?_
      refine WN.cell2 rfl rfl rfl Try.underlying58 ty58 hH ?_
      have hq : cell / (g.getD 0 []).length = 0 := by omega
      exact ⟨(aftV_o hb (goN_0o _ _ _ hq)).symm, hH.keep⟩
    have hc1' := hc1; try simp only [decide_eq_true_eq, decide_eq_false_iff_not, Bool.not_eq_true', Bool.not_eq_false', Bool.not_eq_true, Bool.not_eq_false] at hc1'
    refine WC.seq ?_
    refine WC.region ?_
    refine WL.u rfl rfl (Wt.plain rfl) (Ex.move rfl) ?_
    refine WL.u rfl rfl (Wt.plain rfl) (Ex.eql rfl rfl) ?_
    refine WL.u rfl rfl (Wt.plain rfl) (Ex.move rfl) ?_
    refine WL.pass rfl rfl (Wt.guard' rfl rfl rfl (decide_eq_false (by omega)) rfl) ?_
    refine WL.pass rfl rfl (Wt.guard' rfl rfl rfl (decide_eq_false (by omega)) rfl) ?_
    refine WL.pass rfl rfl (Wt.guard' rfl rfl rfl (decide_eq_false (by omega)) rfl) ?_
    refine WL.pass rfl rfl (Wt.guard' rfl rfl rfl (decide_eq_false (by omega)) rfl) ?_
    refine WL.u rfl rfl (Wt.plain rfl) (Ex.pickF rfl (decide_eq_false (by omega)) rfl) ?_
    refine WL.u rfl rfl (Wt.plain rfl) (Ex.assign rfl) ?_
    refine WL.next ?_
    refine WC.condF rfl rfl ?_
    refine WC.seq ?_
    refine WC.region ?_
    refine WL.u rfl rfl (Wt.plain rfl) (Ex.move rfl) ?_
    refine WL.u rfl rfl (Wt.plain rfl) (Ex.eql rfl rfl) ?_
    refine WL.u rfl rfl (Wt.plain rfl) (Ex.move rfl) ?_
    refine WL.pass rfl rfl (Wt.guard' rfl rfl rfl (decide_eq_false (by omega)) rfl) ?_
    refine WL.pass rfl rfl (Wt.guard' rfl rfl rfl (decide_eq_false (by omega)) rfl) ?_
    refine WL.pass rfl rfl (Wt.guard' rfl rfl rfl (decide_eq_false (by omega)) rfl) ?_
    refine WL.pass rfl rfl (Wt.guard' rfl rfl rfl (decide_eq_false (by omega)) rfl) ?_
    refine WL.u rfl rfl (Wt.plain rfl) (Ex.pickF rfl (decide_eq_false (by omega)) rfl) ?_
    refine WL.u rfl rfl (Wt.plain rfl) (Ex.assign rfl) ?_
    refine WL.next ?_
    refine WC.condF rfl rfl ?_
    refine WC.seq ?_
    refine WC.region ?_
    refine WL.u rfl rfl (Wt.plain rfl) (Ex.move rfl) ?_
    refine WL.u rfl rfl (Wt.plain rfl) (Ex.eql rfl rfl) ?_
    refine WL.u rfl rfl (Wt.plain rfl) (Ex.move rfl) ?_
    refine WL.pass rfl rfl (Wt.guard' rfl rfl rfl (decide_eq_false (by omega)) rfl) ?_
    refine WL.pass rfl rfl (Wt.guard' rfl rfl rfl (decide_eq_false (by omega)) rfl) ?_
    refine WL.u rfl rfl (Wt.plain rfl) (Ex.pickF rfl (decide_eq_false (by omega)) rfl) ?_
    refine WL.u rfl rfl (Wt.plain rfl) (Ex.assign rfl) ?_
    refine WL.next ?_
    refine WC.condF rfl rfl ?_
    refine WC.skip ?_
    refine WN.normalBlock ?_
    refine WN.next ?_
    refine WC.seq ?_
    have hQ := hH
    refine WC.plan (Keep [b4] _) [(0, true), (1, true), (2, true), (3, true), (4, true), (6, true), (10, true), (5, false), (7, true), (8, false), (9, true), (11, true), (12, false), (13, true)] rfl (by kernel_rfl) (Keep.drew _ _) (fun hR => ?_)
    replace hH := hH.drew
    refine WPl.q rfl rfl rfl (Wt.plain rfl) (fun w hC => Ex.fieldAddr fd58_0 rfl) ?_
    refine WPl.q rfl rfl rfl (Wt.plain rfl) (fun w hC => Ex.loadK flat3 rfl (hQ.at 0 rfl) hC (hQ.nin 0 1 rfl rfl rfl) rfl) ?_
    refine WPl.q rfl rfl rfl (Wt.plain rfl) (fun w hC => Ex.move rfl) ?_
    refine WPl.q rfl rfl rfl (Wt.plain rfl) (fun w hC => Ex.neg rfl (by omega)) ?_
    refine WPl.q rfl rfl rfl (Wt.plain rfl) (fun w hC => Ex.move rfl) ?_
    refine WPl.q rfl rfl rfl (Wt.plain rfl) (fun w hC => Ex.move rfl) ?_
    refine WPl.q rfl rfl rfl (Wt.plain rfl) (fun w hC => Ex.move rfl) ?_
    refine WPl.f rfl ?_
    refine WL.lit Try.underlying38 ty3 rfl rfl rfl rfl rfl rfl rfl (Wt.plain rfl) hH (fun b96 wn hb96 hk96 hH => ?_)
    replace hR := hR.trans (hk96.nil)
    refine WPl.b hR ?_
    refine WPl.q rfl rfl rfl (Wt.plain rfl) (fun w hC => Ex.indexAddr Try.underlying38 ty3 rfl rfl (by omega)) ?_
    refine WPl.f rfl ?_
    have hcs : (#[vint (-((g.getD 0 []).length : Int)), vint 1, vint ((g.getD 0 []).length : Int), vint (-1)] : Array Value)[0 + ((bend (letter g cell) d : Nat) : Int).toNat * 1]? = some (vint (-((g.getD 0 []).length : Int))) := by
      rw [Int.toNat_natCast, hb]; rfl
    refine WL.u rfl rfl (Wt.plain rfl) (Ex.loadHp flat3 rfl hH hcs) ?_
    refine WPl.b hR ?_
    refine WPl.q rfl rfl rfl (Wt.plain rfl) (fun w hC => Ex.add rfl rfl (by omega)) ?_
    refine WPl.q rfl rfl rfl (Wt.plain rfl) (fun w hC => Ex.buildS bd58 rfl rfl rfl rfl rfl) ?_
    refine WPl.f rfl ?_
    replace hH := hH.f2
    refine WL.store2 ty58 rfl rfl rfl rfl (Wt.plain rfl) hH (fun wn hk hH => ?_)
    replace hR := hR.trans (hk.mono (by simp))
    refine WPl.b hR ?_
    refine WPl.q rfl rfl rfl (Wt.plain rfl) (fun w hC => Ex.assign rfl) ?_
    refine WPl.nil (fun hC => ?_); clear hC
    refine WN.next ?_
    refine WC.ret ?_
    refine WN.cell2 rfl rfl rfl Try.underlying58 ty58 hH ?_
    have hq : cell / (g.getD 0 []).length ≠ 0 := by omega
    have hge : (g.getD 0 []).length ≤ cell := by apply Nat.le_of_not_lt; intro h; exact hq (Nat.div_eq_of_lt h)
    refine ⟨?_, hH.keep⟩
    exact (tupEq (by dsimp only [nR, nC]; omega) (by rw [hb]) rfl).trans (aftV_i hb (goN_0i _ _ _ hq)).symm
  have hg4_2' := hg4_2; try simp only [decide_eq_true_eq, decide_eq_false_iff_not, Bool.not_eq_true', Bool.not_eq_false', Bool.not_eq_true, Bool.not_eq_false] at hg4_2'
  refine WL.pass rfl rfl (Wt.guard' rfl rfl rfl hg4_2 rfl) ?_
  refine WL.pass rfl rfl (Wt.guard' rfl rfl rfl hg4_2 rfl) ?_
  refine WL.u rfl rfl (Wt.plain rfl) (Ex.pickF rfl hg4_2 rfl) ?_
  refine WL.u rfl rfl (Wt.plain rfl) (Ex.assign rfl) ?_
  refine WL.next ?_
  refine WC.condF rfl rfl ?_
  refine WC.seq ?_
  refine WC.region ?_
  refine WL.u rfl rfl (Wt.plain rfl) (Ex.move rfl) ?_
  refine WL.u rfl rfl (Wt.plain rfl) (Ex.eql rfl rfl) ?_
  refine WL.u rfl rfl (Wt.plain rfl) (Ex.move rfl) ?_
  refine WL.split (t := 46) rfl (fun hg6_2 => ?_) (fun hg6_2 => ?_)
  · have hg6_2' := hg6_2; try simp only [decide_eq_true_eq, decide_eq_false_iff_not, Bool.not_eq_true', Bool.not_eq_false', Bool.not_eq_true, Bool.not_eq_false] at hg6_2'
    have hb : bend (letter g cell) d = 1 := by omega
    refine WL.u rfl rfl (Wt.guard' rfl rfl rfl hg6_2 rfl) (Ex.move rfl) ?_
    refine WL.u rfl rfl (Wt.guard' rfl rfl rfl hg6_2 rfl) (Ex.move rfl) ?_
    refine WL.u rfl rfl (Wt.guard' rfl rfl rfl hg6_2 rfl) (Ex.sub rfl rfl (by omega)) ?_
    refine WL.u rfl rfl (Wt.guard' rfl rfl rfl hg6_2 rfl) (Ex.eql rfl rfl) ?_
    refine WL.u rfl rfl (Wt.plain rfl) (Ex.pickT rfl hg6_2 rfl) ?_
    refine WL.u rfl rfl (Wt.plain rfl) (Ex.assign rfl) ?_
    refine WL.next ?_
    refine WC.cond rfl (fun hc2 => ?_) (fun hc2 => ?_)
    · have hc2' := hc2; try simp only [decide_eq_true_eq, decide_eq_false_iff_not, Bool.not_eq_true', Bool.not_eq_false', Bool.not_eq_true, Bool.not_eq_false] at hc2'
      refine WC.seq ?_
      refine WC.region ?_
      refine WL.u rfl rfl (Wt.plain rfl) (Ex.loadHp2 Try.underlying58 ty58 rfl hH) ?_
      refine WL.u rfl rfl (Wt.plain rfl) (Ex.move rfl) ?_
      refine WL.u rfl rfl (Wt.plain rfl) (Ex.move rfl) ?_
      refine WL.u rfl rfl (Wt.plain rfl) (Ex.add rfl rfl (by omega)) ?_
      replace hH := hH.f1
      refine WL.store2 ty58 rfl rfl rfl rfl (Wt.plain rfl) hH (fun wn hk hH => ?_)
      refine WL.u rfl rfl (Wt.plain rfl) (Ex.assign rfl) ?_
      refine WL.next ?_
      refine WC.ret ?_
      refine WN.retBlock ?_
      refine WN.retThen ?_
      refine WN.cell2 rfl rfl rfl Try.underlying58 ty58 hH ?_
      have hq : cell % (g.getD 0 []).length + 1 = (g.getD 0 []).length := by omega
      exact ⟨(aftV_o hb (goN_1o _ _ _ hq)).symm, hH.keep⟩
    have hc2' := hc2; try simp only [decide_eq_true_eq, decide_eq_false_iff_not, Bool.not_eq_true', Bool.not_eq_false', Bool.not_eq_true, Bool.not_eq_false] at hc2'
    refine WC.seq ?_
    refine WC.region ?_
    refine WL.u rfl rfl (Wt.plain rfl) (Ex.move rfl) ?_
    refine WL.u rfl rfl (Wt.plain rfl) (Ex.eql rfl rfl) ?_
    refine WL.u rfl rfl (Wt.plain rfl) (Ex.move rfl) ?_
    refine WL.pass rfl rfl (Wt.guard' rfl rfl rfl (decide_eq_false (by omega)) rfl) ?_
    refine WL.pass rfl rfl (Wt.guard' rfl rfl rfl (decide_eq_false (by omega)) rfl) ?_
    refine WL.pass rfl rfl (Wt.guard' rfl rfl rfl (decide_eq_false (by omega)) rfl) ?_
    refine WL.pass rfl rfl (Wt.guard' rfl rfl rfl (decide_eq_false (by omega)) rfl) ?_
    refine WL.u rfl rfl (Wt.plain rfl) (Ex.pickF rfl (decide_eq_false (by omega)) rfl) ?_
    refine WL.u rfl rfl (Wt.plain rfl) (Ex.assign rfl) ?_
    refine WL.next ?_
    refine WC.condF rfl rfl ?_
    refine WC.seq ?_
    refine WC.region ?_
    refine WL.u rfl rfl (Wt.plain rfl) (Ex.move rfl) ?_
    refine WL.u rfl rfl (Wt.plain rfl) (Ex.eql rfl rfl) ?_
    refine WL.u rfl rfl (Wt.plain rfl) (Ex.move rfl) ?_
    refine WL.pass rfl rfl (Wt.guard' rfl rfl rfl (decide_eq_false (by omega)) rfl) ?_
    refine WL.pass rfl rfl (Wt.guard' rfl rfl rfl (decide_eq_false (by omega)) rfl) ?_
    refine WL.u rfl rfl (Wt.plain rfl) (Ex.pickF rfl (decide_eq_false (by omega)) rfl) ?_
    refine WL.u rfl rfl (Wt.plain rfl) (Ex.assign rfl) ?_
    refine WL.next ?_
    refine WC.condF rfl rfl ?_
    refine WC.skip ?_
    refine WN.normalBlock ?_
    refine WN.next ?_
    refine WC.seq ?_
    have hQ := hH
    refine WC.plan (Keep [b4] _) [(0, true), (1, true), (2, true), (3, true), (4, true), (6, true), (10, true), (5, false), (7, true), (8, false), (9, true), (11, true), (12, false), (13, true)] rfl (by kernel_rfl) (Keep.drew _ _) (fun hR => ?_)
    replace hH := hH.drew
    refine WPl.q rfl rfl rfl (Wt.plain rfl) (fun w hC => Ex.fieldAddr fd58_0 rfl) ?_
    refine WPl.q rfl rfl rfl (Wt.plain rfl) (fun w hC => Ex.loadK flat3 rfl (hQ.at 0 rfl) hC (hQ.nin 0 1 rfl rfl rfl) rfl) ?_
    refine WPl.q rfl rfl rfl (Wt.plain rfl) (fun w hC => Ex.move rfl) ?_
    refine WPl.q rfl rfl rfl (Wt.plain rfl) (fun w hC => Ex.neg rfl (by omega)) ?_
    refine WPl.q rfl rfl rfl (Wt.plain rfl) (fun w hC => Ex.move rfl) ?_
    refine WPl.q rfl rfl rfl (Wt.plain rfl) (fun w hC => Ex.move rfl) ?_
    refine WPl.q rfl rfl rfl (Wt.plain rfl) (fun w hC => Ex.move rfl) ?_
    refine WPl.f rfl ?_
    refine WL.lit Try.underlying38 ty3 rfl rfl rfl rfl rfl rfl rfl (Wt.plain rfl) hH (fun b96 wn hb96 hk96 hH => ?_)
    replace hR := hR.trans (hk96.nil)
    refine WPl.b hR ?_
    refine WPl.q rfl rfl rfl (Wt.plain rfl) (fun w hC => Ex.indexAddr Try.underlying38 ty3 rfl rfl (by omega)) ?_
    refine WPl.f rfl ?_
    have hcs : (#[vint (-((g.getD 0 []).length : Int)), vint 1, vint ((g.getD 0 []).length : Int), vint (-1)] : Array Value)[0 + ((bend (letter g cell) d : Nat) : Int).toNat * 1]? = some (vint (1)) := by
      rw [Int.toNat_natCast, hb]; rfl
    refine WL.u rfl rfl (Wt.plain rfl) (Ex.loadHp flat3 rfl hH hcs) ?_
    refine WPl.b hR ?_
    refine WPl.q rfl rfl rfl (Wt.plain rfl) (fun w hC => Ex.add rfl rfl (by omega)) ?_
    refine WPl.q rfl rfl rfl (Wt.plain rfl) (fun w hC => Ex.buildS bd58 rfl rfl rfl rfl rfl) ?_
    refine WPl.f rfl ?_
    replace hH := hH.f2
    refine WL.store2 ty58 rfl rfl rfl rfl (Wt.plain rfl) hH (fun wn hk hH => ?_)
    replace hR := hR.trans (hk.mono (by simp))
    refine WPl.b hR ?_
    refine WPl.q rfl rfl rfl (Wt.plain rfl) (fun w hC => Ex.assign rfl) ?_
    refine WPl.nil (fun hC => ?_); clear hC
    refine WN.next ?_
    refine WC.ret ?_
    refine WN.cell2 rfl rfl rfl Try.underlying58 ty58 hH ?_
    have hq : cell % (g.getD 0 []).length + 1 ≠ (g.getD 0 []).length := by omega
    refine ⟨?_, hH.keep⟩
    exact (tupEq (by dsimp only [nR, nC]; omega) (by rw [hb]) rfl).trans (aftV_i hb (goN_1i _ _ _ hq)).symm
  have hg6_2' := hg6_2; try simp only [decide_eq_true_eq, decide_eq_false_iff_not, Bool.not_eq_true', Bool.not_eq_false', Bool.not_eq_true, Bool.not_eq_false] at hg6_2'
  refine WL.pass rfl rfl (Wt.guard' rfl rfl rfl hg6_2 rfl) ?_
  refine WL.pass rfl rfl (Wt.guard' rfl rfl rfl hg6_2 rfl) ?_
  refine WL.pass rfl rfl (Wt.guard' rfl rfl rfl hg6_2 rfl) ?_
  refine WL.pass rfl rfl (Wt.guard' rfl rfl rfl hg6_2 rfl) ?_
  refine WL.u rfl rfl (Wt.plain rfl) (Ex.pickF rfl hg6_2 rfl) ?_
  refine WL.u rfl rfl (Wt.plain rfl) (Ex.assign rfl) ?_
  refine WL.next ?_
  refine WC.condF rfl rfl ?_
  refine WC.seq ?_
  refine WC.region ?_
  refine WL.u rfl rfl (Wt.plain rfl) (Ex.move rfl) ?_
  refine WL.u rfl rfl (Wt.plain rfl) (Ex.eql rfl rfl) ?_
  refine WL.u rfl rfl (Wt.plain rfl) (Ex.move rfl) ?_
  refine WL.split (t := 59) rfl (fun hg8_2 => ?_) (fun hg8_2 => ?_)
  · have hg8_2' := hg8_2; try simp only [decide_eq_true_eq, decide_eq_false_iff_not, Bool.not_eq_true', Bool.not_eq_false', Bool.not_eq_true, Bool.not_eq_false] at hg8_2'
    have hb : bend (letter g cell) d = 2 := by omega
    refine WL.u rfl rfl (Wt.guard' rfl rfl rfl hg8_2 rfl) (Ex.move rfl) ?_
    refine WL.u rfl rfl (Wt.guard' rfl rfl rfl hg8_2 rfl) (Ex.move rfl) ?_
    refine WL.u rfl rfl (Wt.guard' rfl rfl rfl hg8_2 rfl) (Ex.sub rfl rfl (by omega)) ?_
    refine WL.u rfl rfl (Wt.guard' rfl rfl rfl hg8_2 rfl) (Ex.eql rfl rfl) ?_
    refine WL.u rfl rfl (Wt.plain rfl) (Ex.pickT rfl hg8_2 rfl) ?_
    refine WL.u rfl rfl (Wt.plain rfl) (Ex.assign rfl) ?_
    refine WL.next ?_
    refine WC.cond rfl (fun hc3 => ?_) (fun hc3 => ?_)
    · have hc3' := hc3; try simp only [decide_eq_true_eq, decide_eq_false_iff_not, Bool.not_eq_true', Bool.not_eq_false', Bool.not_eq_true, Bool.not_eq_false] at hc3'
      refine WC.seq ?_
      refine WC.region ?_
      refine WL.u rfl rfl (Wt.plain rfl) (Ex.loadHp2 Try.underlying58 ty58 rfl hH) ?_
      refine WL.u rfl rfl (Wt.plain rfl) (Ex.move rfl) ?_
      refine WL.u rfl rfl (Wt.plain rfl) (Ex.move rfl) ?_
      refine WL.u rfl rfl (Wt.plain rfl) (Ex.add rfl rfl (by omega)) ?_
      refine WL.u rfl rfl (Wt.plain rfl) (Ex.move rfl) ?_
      refine WL.u rfl rfl (Wt.plain rfl) (Ex.add rfl rfl (by omega)) ?_
      refine WL.u rfl rfl (Wt.plain rfl) (Ex.sub rfl rfl (by omega)) ?_
      refine WL.u rfl rfl (Wt.plain rfl) (Ex.move rfl) ?_
      refine WL.u rfl rfl (Wt.plain rfl) (Ex.sub rfl rfl (by omega)) ?_
      replace hH := hH.f1
      refine WL.store2 ty58 rfl rfl rfl rfl (Wt.plain rfl) hH (fun wn hk hH => ?_)
      refine WL.u rfl rfl (Wt.plain rfl) (Ex.assign rfl) ?_
      refine WL.next ?_
      refine WC.ret ?_
      refine WN.retBlock ?_
      refine WN.retThen ?_
      refine WN.cell2 rfl rfl rfl Try.underlying58 ty58 hH ?_
      have hq : cell / (g.getD 0 []).length + 1 = g.length := by omega
      refine ⟨?_, hH.keep⟩
      exact (tupEq rfl rfl (by dsimp only [nR, nC]; omega)).trans (aftV_o hb (goN_2o _ _ _ hq)).symm
    have hc3' := hc3; try simp only [decide_eq_true_eq, decide_eq_false_iff_not, Bool.not_eq_true', Bool.not_eq_false', Bool.not_eq_true, Bool.not_eq_false] at hc3'
    refine WC.seq ?_
    refine WC.region ?_
    refine WL.u rfl rfl (Wt.plain rfl) (Ex.move rfl) ?_
    refine WL.u rfl rfl (Wt.plain rfl) (Ex.eql rfl rfl) ?_
    refine WL.u rfl rfl (Wt.plain rfl) (Ex.move rfl) ?_
    refine WL.pass rfl rfl (Wt.guard' rfl rfl rfl (decide_eq_false (by omega)) rfl) ?_
    refine WL.pass rfl rfl (Wt.guard' rfl rfl rfl (decide_eq_false (by omega)) rfl) ?_
    refine WL.u rfl rfl (Wt.plain rfl) (Ex.pickF rfl (decide_eq_false (by omega)) rfl) ?_
    refine WL.u rfl rfl (Wt.plain rfl) (Ex.assign rfl) ?_
    refine WL.next ?_
    refine WC.condF rfl rfl ?_
    refine WC.skip ?_
    refine WN.normalBlock ?_
    refine WN.next ?_
    refine WC.seq ?_
    have hQ := hH
    refine WC.plan (Keep [b4] _) [(0, true), (1, true), (2, true), (3, true), (4, true), (6, true), (10, true), (5, false), (7, true), (8, false), (9, true), (11, true), (12, false), (13, true)] rfl (by kernel_rfl) (Keep.drew _ _) (fun hR => ?_)
    replace hH := hH.drew
    refine WPl.q rfl rfl rfl (Wt.plain rfl) (fun w hC => Ex.fieldAddr fd58_0 rfl) ?_
    refine WPl.q rfl rfl rfl (Wt.plain rfl) (fun w hC => Ex.loadK flat3 rfl (hQ.at 0 rfl) hC (hQ.nin 0 1 rfl rfl rfl) rfl) ?_
    refine WPl.q rfl rfl rfl (Wt.plain rfl) (fun w hC => Ex.move rfl) ?_
    refine WPl.q rfl rfl rfl (Wt.plain rfl) (fun w hC => Ex.neg rfl (by omega)) ?_
    refine WPl.q rfl rfl rfl (Wt.plain rfl) (fun w hC => Ex.move rfl) ?_
    refine WPl.q rfl rfl rfl (Wt.plain rfl) (fun w hC => Ex.move rfl) ?_
    refine WPl.q rfl rfl rfl (Wt.plain rfl) (fun w hC => Ex.move rfl) ?_
    refine WPl.f rfl ?_
    refine WL.lit Try.underlying38 ty3 rfl rfl rfl rfl rfl rfl rfl (Wt.plain rfl) hH (fun b96 wn hb96 hk96 hH => ?_)
    replace hR := hR.trans (hk96.nil)
    refine WPl.b hR ?_
    refine WPl.q rfl rfl rfl (Wt.plain rfl) (fun w hC => Ex.indexAddr Try.underlying38 ty3 rfl rfl (by omega)) ?_
    refine WPl.f rfl ?_
    have hcs : (#[vint (-((g.getD 0 []).length : Int)), vint 1, vint ((g.getD 0 []).length : Int), vint (-1)] : Array Value)[0 + ((bend (letter g cell) d : Nat) : Int).toNat * 1]? = some (vint (((g.getD 0 []).length : Int))) := by
      rw [Int.toNat_natCast, hb]; rfl
    refine WL.u rfl rfl (Wt.plain rfl) (Ex.loadHp flat3 rfl hH hcs) ?_
    refine WPl.b hR ?_
    refine WPl.q rfl rfl rfl (Wt.plain rfl) (fun w hC => Ex.add rfl rfl (by omega)) ?_
    refine WPl.q rfl rfl rfl (Wt.plain rfl) (fun w hC => Ex.buildS bd58 rfl rfl rfl rfl rfl) ?_
    refine WPl.f rfl ?_
    replace hH := hH.f2
    refine WL.store2 ty58 rfl rfl rfl rfl (Wt.plain rfl) hH (fun wn hk hH => ?_)
    replace hR := hR.trans (hk.mono (by simp))
    refine WPl.b hR ?_
    refine WPl.q rfl rfl rfl (Wt.plain rfl) (fun w hC => Ex.assign rfl) ?_
    refine WPl.nil (fun hC => ?_); clear hC
    refine WN.next ?_
    refine WC.ret ?_
    refine WN.cell2 rfl rfl rfl Try.underlying58 ty58 hH ?_
    have hq : cell / (g.getD 0 []).length + 1 ≠ g.length := by omega
    refine ⟨?_, hH.keep⟩
    exact (tupEq (by dsimp only [nR, nC]; omega) (by rw [hb]) rfl).trans (aftV_i hb (goN_2i _ _ _ hq)).symm
  have hg8_2' := hg8_2; try simp only [decide_eq_true_eq, decide_eq_false_iff_not, Bool.not_eq_true', Bool.not_eq_false', Bool.not_eq_true, Bool.not_eq_false] at hg8_2'
  refine WL.pass rfl rfl (Wt.guard' rfl rfl rfl hg8_2 rfl) ?_
  refine WL.pass rfl rfl (Wt.guard' rfl rfl rfl hg8_2 rfl) ?_
  refine WL.pass rfl rfl (Wt.guard' rfl rfl rfl hg8_2 rfl) ?_
  refine WL.pass rfl rfl (Wt.guard' rfl rfl rfl hg8_2 rfl) ?_
  refine WL.u rfl rfl (Wt.plain rfl) (Ex.pickF rfl hg8_2 rfl) ?_
  refine WL.u rfl rfl (Wt.plain rfl) (Ex.assign rfl) ?_
  refine WL.next ?_
  refine WC.condF rfl rfl ?_
  refine WC.seq ?_
  refine WC.region ?_
  refine WL.u rfl rfl (Wt.plain rfl) (Ex.move rfl) ?_
  refine WL.u rfl rfl (Wt.plain rfl) (Ex.eql rfl rfl) ?_
  refine WL.u rfl rfl (Wt.plain rfl) (Ex.move rfl) ?_
  refine WL.split (t := 77) rfl (fun hg10_2 => ?_) (fun hg10_2 => ?_)
  · have hg10_2' := hg10_2; try simp only [decide_eq_true_eq, decide_eq_false_iff_not, Bool.not_eq_true', Bool.not_eq_false', Bool.not_eq_true, Bool.not_eq_false] at hg10_2'
    have hb : bend (letter g cell) d = 3 := by omega
    refine WL.u rfl rfl (Wt.guard' rfl rfl rfl hg10_2 rfl) (Ex.move rfl) ?_
    refine WL.u rfl rfl (Wt.guard' rfl rfl rfl hg10_2 rfl) (Ex.eql rfl rfl) ?_
    refine WL.u rfl rfl (Wt.plain rfl) (Ex.pickT rfl hg10_2 rfl) ?_
    refine WL.u rfl rfl (Wt.plain rfl) (Ex.assign rfl) ?_
    refine WL.next ?_
    refine WC.cond rfl (fun hc4 => ?_) (fun hc4 => ?_)
    · have hc4' := hc4; try simp only [decide_eq_true_eq, decide_eq_false_iff_not, Bool.not_eq_true', Bool.not_eq_false', Bool.not_eq_true, Bool.not_eq_false] at hc4'
      refine WC.seq ?_
      refine WC.region ?_
      refine WL.u rfl rfl (Wt.plain rfl) (Ex.loadHp2 Try.underlying58 ty58 rfl hH) ?_
      refine WL.u rfl rfl (Wt.plain rfl) (Ex.move rfl) ?_
      refine WL.u rfl rfl (Wt.plain rfl) (Ex.mul rfl rfl (by omega)) ?_
      refine WL.u rfl rfl (Wt.plain rfl) (Ex.move rfl) ?_
      refine WL.u rfl rfl (Wt.plain rfl) (Ex.add rfl rfl (by omega)) ?_
      refine WL.u rfl rfl (Wt.plain rfl) (Ex.move rfl) ?_
      refine WL.u rfl rfl (Wt.plain rfl) (Ex.add rfl rfl (by omega)) ?_
      refine WL.u rfl rfl (Wt.plain rfl) (Ex.sub rfl rfl (by omega)) ?_
      refine WL.u rfl rfl (Wt.plain rfl) (Ex.move rfl) ?_
      refine WL.u rfl rfl (Wt.plain rfl) (Ex.sub rfl rfl (by omega)) ?_
      replace hH := hH.f1
      refine WL.store2 ty58 rfl rfl rfl rfl (Wt.plain rfl) hH (fun wn hk hH => ?_)
      refine WL.u rfl rfl (Wt.plain rfl) (Ex.assign rfl) ?_
      refine WL.next ?_
      refine WC.ret ?_
      refine WN.retBlock ?_
      refine WN.retThen ?_
      refine WN.cell2 rfl rfl rfl Try.underlying58 ty58 hH ?_
      have hq : cell % (g.getD 0 []).length = 0 := by omega
      refine ⟨?_, hH.keep⟩
      exact (tupEq rfl rfl (by dsimp only [nR, nC]; omega)).trans (aftV_o hb (goN_3o _ _ _ hq)).symm
    have hc4' := hc4; try simp only [decide_eq_true_eq, decide_eq_false_iff_not, Bool.not_eq_true', Bool.not_eq_false', Bool.not_eq_true, Bool.not_eq_false] at hc4'
    refine WC.skip ?_
    refine WN.normalBlock ?_
    refine WN.next ?_
    refine WC.seq ?_
    have hQ := hH
    refine WC.plan (Keep [b4] _) [(0, true), (1, true), (2, true), (3, true), (4, true), (6, true), (10, true), (5, false), (7, true), (8, false), (9, true), (11, true), (12, false), (13, true)] rfl (by kernel_rfl) (Keep.drew _ _) (fun hR => ?_)
    replace hH := hH.drew
    refine WPl.q rfl rfl rfl (Wt.plain rfl) (fun w hC => Ex.fieldAddr fd58_0 rfl) ?_
    refine WPl.q rfl rfl rfl (Wt.plain rfl) (fun w hC => Ex.loadK flat3 rfl (hQ.at 0 rfl) hC (hQ.nin 0 1 rfl rfl rfl) rfl) ?_
    refine WPl.q rfl rfl rfl (Wt.plain rfl) (fun w hC => Ex.move rfl) ?_
    refine WPl.q rfl rfl rfl (Wt.plain rfl) (fun w hC => Ex.neg rfl (by omega)) ?_
    refine WPl.q rfl rfl rfl (Wt.plain rfl) (fun w hC => Ex.move rfl) ?_
    refine WPl.q rfl rfl rfl (Wt.plain rfl) (fun w hC => Ex.move rfl) ?_
    refine WPl.q rfl rfl rfl (Wt.plain rfl) (fun w hC => Ex.move rfl) ?_
    refine WPl.f rfl ?_
    refine WL.lit Try.underlying38 ty3 rfl rfl rfl rfl rfl rfl rfl (Wt.plain rfl) hH (fun b96 wn hb96 hk96 hH => ?_)
    replace hR := hR.trans (hk96.nil)
    refine WPl.b hR ?_
    refine WPl.q rfl rfl rfl (Wt.plain rfl) (fun w hC => Ex.indexAddr Try.underlying38 ty3 rfl rfl (by omega)) ?_
    refine WPl.f rfl ?_
    have hcs : (#[vint (-((g.getD 0 []).length : Int)), vint 1, vint ((g.getD 0 []).length : Int), vint (-1)] : Array Value)[0 + ((bend (letter g cell) d : Nat) : Int).toNat * 1]? = some (vint (-1)) := by
      rw [Int.toNat_natCast, hb]; rfl
    refine WL.u rfl rfl (Wt.plain rfl) (Ex.loadHp flat3 rfl hH hcs) ?_
    refine WPl.b hR ?_
    refine WPl.q rfl rfl rfl (Wt.plain rfl) (fun w hC => Ex.add rfl rfl (by omega)) ?_
    refine WPl.q rfl rfl rfl (Wt.plain rfl) (fun w hC => Ex.buildS bd58 rfl rfl rfl rfl rfl) ?_
    refine WPl.f rfl ?_
    replace hH := hH.f2
    refine WL.store2 ty58 rfl rfl rfl rfl (Wt.plain rfl) hH (fun wn hk hH => ?_)
    replace hR := hR.trans (hk.mono (by simp))
    refine WPl.b hR ?_
    refine WPl.q rfl rfl rfl (Wt.plain rfl) (fun w hC => Ex.assign rfl) ?_
    refine WPl.nil (fun hC => ?_); clear hC
    refine WN.next ?_
    refine WC.ret ?_
    refine WN.cell2 rfl rfl rfl Try.underlying58 ty58 hH ?_
    have hq : cell % (g.getD 0 []).length ≠ 0 := by omega
    have hge : 1 ≤ cell := Nat.pos_of_ne_zero (fun h0 => hq (by rw [h0]; exact Nat.zero_mod _))
    refine ⟨?_, hH.keep⟩
    exact (tupEq (by dsimp only [nR, nC]; omega) (by rw [hb]) rfl).trans (aftV_i hb (goN_3i _ _ _ hq)).symm
  exfalso; simp only [decide_eq_true_eq, decide_eq_false_iff_not] at hg10_2; omega

end Go.Proofs.Ytjejdebmlgjdeaa
