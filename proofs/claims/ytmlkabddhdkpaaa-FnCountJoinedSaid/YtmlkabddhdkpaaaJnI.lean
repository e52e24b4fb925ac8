/- The program's joining of two pairings. -/
import Derived.Test.YtmlkabddhdkpaaaJnA
import Derived.Test.YtmlkabddhdkpaaaQ5
import Derived.Test.YtmlkabddhdkpaaaPlan2
import Derived.Test.YtmlkabddhdkpaaaRnd2
import Derived.Test.YtmlkabddhdkpaaaAsk
namespace Go.Proofs.Ytmlkabddhdkpaaa
set_option maxRecDepth 100000
set_option linter.unusedSimpArgs false
set_option linter.unusedVariables false
open Go Go.RowKit
theorem JF.zg {D : GD} {g h : Grid} {n m k : Nat} (J : JF D g h n m k) : Sz g := by rw [← J.g0]; exact J.w.z false
theorem JF.zh {D : GD} {g h : Grid} {n m k : Nat} (J : JF D g h n m k) : Sz h := by rw [← J.h0]; exact J.w.z true
theorem JF.val1 {D : GD} {g h : Grid} {n m k c : Nat} (J : JF D g h n m k) (hs : c < 2 * n + 2 * m) : (pairsI g).getD c 0 = ((D.nxt c : Nat) : Int) ∧ D.nxt c < 2 * n + 2 * m := by
  have hpg := J.pg
  have := way_end J.zg (p := c) (by omega)
  rw [pairsI_get g (by omega), J.nA c hs]
  exact ⟨rfl, by omega⟩
theorem JF.val2 {D : GD} {g h : Grid} {n m k c : Nat} (J : JF D g h n m k) (hc : c < D.T) (hs : 2 * n + 2 * m ≤ c) : (pairsI h).getD (c - (2 * n + 2 * m)) 0 = ((D.nxt c - (2 * n + 2 * m) : Nat) : Int) ∧ 2 * n + 2 * m ≤ D.nxt c ∧ D.nxt c < 2 * n + 2 * m + (2 * n + 2 * k) := by
  have hph := J.ph
  have hT := J.T
  have h1 : c - (2 * n + 2 * m) < ports h := by omega
  have := way_end J.zh h1
  have e := J.nB (c - (2 * n + 2 * m)) (by omega)
  rw [show 2 * n + 2 * m + (c - (2 * n + 2 * m)) = c by omega] at e
  rw [pairsI_get h h1, e, Nat.add_sub_cancel_left]
  exact ⟨rfl, by omega, by omega⟩
theorem plc1 {n m k c : Nat} (hs : c < 2 * n + 2 * m) : plc n m k c = plN n m c := by unfold plc; rw [if_pos hs]
theorem plc2 {n m k c : Nat} (hs : 2 * n + 2 * m ≤ c) : plc n m k c = plN n k (c - (2 * n + 2 * m)) := by unfold plc; rw [if_neg (by omega)]

theorem iplaceOf (n m p : Nat) (w : World) (h1 : 1 ≤ n) (h2 : n ≤ 5) (h3 : 1 ≤ m) (h4 : m ≤ 5) (hp : p < 2 * n + 2 * m) : Fn Try.prog 52 [vint n, vint m, vint p] w (fun v w1 => v = .agg #[vint (plN n m p).1, vint (plN n m p).2] ∧ Keep [] w w1) := by
  refine Fn.enter (n := 49) Try.func52 rfl rfl rfl ?_
  show WC _ _ _ _ [(0, vint n), (1, vint m), (2, vint p)] _
  have hH := Hp.start [] w
  refine WC.seq ?_
  refine WC.region ?_
  refine WL.alloc ty77 rfl rfl (Wt.plain rfl) hH (fun b6 wn hb6 hk6 hH => ?_)
  refine WL.next ?_
  refine WC.seq ?_
  refine WC.block ?_
  refine WC.seq ?_
  refine WC.region ?_
  refine WL.u rfl rfl (Wt.plain rfl) (Ex.move rfl) ?_
  refine WL.u rfl rfl (Wt.plain rfl) (Ex.move rfl) ?_
  refine WL.u rfl rfl (Wt.plain rfl) (Ex.lss rfl rfl) ?_
  refine WL.u rfl rfl (Wt.plain rfl) (Ex.assign rfl) ?_
  refine WL.next ?_
  refine WC.cond rfl (fun hc1 => ?_) (fun hc1 => ?_)
  · have hc1' := hc1; try simp only [decide_eq_true_eq, decide_eq_false_iff_not, Bool.not_eq_true', Bool.not_eq_false', Bool.not_eq_true, Bool.not_eq_false] at hc1'
    refine WC.seq ?_
    refine WC.region ?_
    refine WL.u rfl rfl (Wt.plain rfl) (Ex.move rfl) ?_
    refine WL.u rfl rfl (Wt.plain rfl) (Ex.buildS bd77 rfl rfl rfl rfl rfl) ?_
    refine WL.store2 ty77 rfl rfl rfl rfl (Wt.plain rfl) hH (fun wn hk hH => ?_)
    refine WL.next ?_
    refine WC.ret ?_
    refine WN.retBlock ?_
    refine WN.retThen ?_
    refine WN.cell1 rfl rfl Try.underlying77 ty77 hH ?_
    exact ⟨by unfold plN; rw [if_pos (by omega)] <;> rfl, hH.keep⟩
  have hc1' := hc1; try simp only [decide_eq_true_eq, decide_eq_false_iff_not, Bool.not_eq_true', Bool.not_eq_false', Bool.not_eq_true, Bool.not_eq_false] at hc1'
  refine WC.seq ?_
  refine WC.region ?_
  refine WL.u rfl rfl (Wt.plain rfl) (Ex.move rfl) ?_
  refine WL.u rfl rfl (Wt.plain rfl) (Ex.move rfl) ?_
  refine WL.u rfl rfl (Wt.plain rfl) (Ex.move rfl) ?_
  refine WL.u rfl rfl (Wt.plain rfl) (Ex.add rfl rfl (by omega)) ?_
  refine WL.u rfl rfl (Wt.plain rfl) (Ex.lss rfl rfl) ?_
  refine WL.u rfl rfl (Wt.plain rfl) (Ex.assign rfl) ?_
  refine WL.next ?_
  refine WC.cond rfl (fun hc2 => ?_) (fun hc2 => ?_)
  · have hc2' := hc2; try simp only [decide_eq_true_eq, decide_eq_false_iff_not, Bool.not_eq_true', Bool.not_eq_false', Bool.not_eq_true, Bool.not_eq_false] at hc2'
    refine WC.seq ?_
    refine WC.region ?_
    refine WL.u rfl rfl (Wt.plain rfl) (Ex.move rfl) ?_
    refine WL.u rfl rfl (Wt.plain rfl) (Ex.move rfl) ?_
    refine WL.u rfl rfl (Wt.plain rfl) (Ex.sub rfl rfl (by omega)) ?_
    refine WL.u rfl rfl (Wt.plain rfl) (Ex.buildS bd77 rfl rfl rfl rfl rfl) ?_
    refine WL.store2 ty77 rfl rfl rfl rfl (Wt.plain rfl) hH (fun wn hk hH => ?_)
    refine WL.next ?_
    refine WC.ret ?_
    refine WN.retBlock ?_
    refine WN.retThen ?_
    refine WN.cell1 rfl rfl Try.underlying77 ty77 hH ?_
    refine ⟨?_, hH.keep⟩
    unfold plN; rw [if_neg (by omega), if_pos (by omega)]
    exact congrArg (fun x : Int => Value.agg #[vint 1, vint x]) (show (p : Int) - (m : Int) = ((p - m : Nat) : Int) by omega)
  have hc2' := hc2; try simp only [decide_eq_true_eq, decide_eq_false_iff_not, Bool.not_eq_true', Bool.not_eq_false', Bool.not_eq_true, Bool.not_eq_false] at hc2'
  refine WC.seq ?_
  refine WC.region ?_
  refine WL.u rfl rfl (Wt.plain rfl) (Ex.move rfl) ?_
  refine WL.u rfl rfl (Wt.plain rfl) (Ex.move rfl) ?_
  refine WL.u rfl rfl (Wt.plain rfl) (Ex.mul rfl rfl (by omega)) ?_
  refine WL.u rfl rfl (Wt.plain rfl) (Ex.move rfl) ?_
  refine WL.u rfl rfl (Wt.plain rfl) (Ex.add rfl rfl (by omega)) ?_
  refine WL.u rfl rfl (Wt.plain rfl) (Ex.lss rfl rfl) ?_
  refine WL.u rfl rfl (Wt.plain rfl) (Ex.assign rfl) ?_
  refine WL.next ?_
  refine WC.cond rfl (fun hc3 => ?_) (fun hc3 => ?_)
  · have hc3' := hc3; try simp only [decide_eq_true_eq, decide_eq_false_iff_not, Bool.not_eq_true', Bool.not_eq_false', Bool.not_eq_true, Bool.not_eq_false] at hc3'
    refine WC.seq ?_
    refine WC.region ?_
    refine WL.u rfl rfl (Wt.plain rfl) (Ex.move rfl) ?_
    refine WL.u rfl rfl (Wt.plain rfl) (Ex.sub rfl rfl (by omega)) ?_
    refine WL.u rfl rfl (Wt.plain rfl) (Ex.move rfl) ?_
    refine WL.u rfl rfl (Wt.plain rfl) (Ex.move rfl) ?_
    refine WL.u rfl rfl (Wt.plain rfl) (Ex.sub rfl rfl (by omega)) ?_
    refine WL.u rfl rfl (Wt.plain rfl) (Ex.move rfl) ?_
    refine WL.u rfl rfl (Wt.plain rfl) (Ex.sub rfl rfl (by omega)) ?_
    refine WL.u rfl rfl (Wt.plain rfl) (Ex.sub rfl rfl (by omega)) ?_
    refine WL.u rfl rfl (Wt.plain rfl) (Ex.buildS bd77 rfl rfl rfl rfl rfl) ?_
    refine WL.store2 ty77 rfl rfl rfl rfl (Wt.plain rfl) hH (fun wn hk hH => ?_)
    refine WL.next ?_
    refine WC.ret ?_
    refine WN.retBlock ?_
    refine WN.retThen ?_
    refine WN.cell1 rfl rfl Try.underlying77 ty77 hH ?_
    refine ⟨?_, hH.keep⟩
    unfold plN; rw [if_neg (by omega), if_neg (by omega), if_pos (by omega)]
    exact congrArg (fun x : Int => Value.agg #[vint 2, vint x]) (show (m : Int) - 1 - ((p : Int) - (m : Int) - (n : Int)) = ((m - 1 - (p - m - n) : Nat) : Int) by omega)
  have hc3' := hc3; try simp only [decide_eq_true_eq, decide_eq_false_iff_not, Bool.not_eq_true', Bool.not_eq_false', Bool.not_eq_true, Bool.not_eq_false] at hc3'
  refine WC.skip ?_
  refine WN.normalBlock ?_
  refine WN.next ?_
  refine WC.seq ?_
  refine WC.region ?_
  refine WL.u rfl rfl (Wt.plain rfl) (Ex.move rfl) ?_
  refine WL.u rfl rfl (Wt.plain rfl) (Ex.sub rfl rfl (by omega)) ?_
  refine WL.u rfl rfl (Wt.plain rfl) (Ex.move rfl) ?_
  refine WL.u rfl rfl (Wt.plain rfl) (Ex.move rfl) ?_
  refine WL.u rfl rfl (Wt.plain rfl) (Ex.mul rfl rfl (by omega)) ?_
  refine WL.u rfl rfl (Wt.plain rfl) (Ex.sub rfl rfl (by omega)) ?_
  refine WL.u rfl rfl (Wt.plain rfl) (Ex.move rfl) ?_
  refine WL.u rfl rfl (Wt.plain rfl) (Ex.sub rfl rfl (by omega)) ?_
  refine WL.u rfl rfl (Wt.plain rfl) (Ex.sub rfl rfl (by omega)) ?_
  refine WL.u rfl rfl (Wt.plain rfl) (Ex.buildS bd77 rfl rfl rfl rfl rfl) ?_
  refine WL.store2 ty77 rfl rfl rfl rfl (Wt.plain rfl) hH (fun wn hk hH => ?_)
  refine WL.next ?_
  refine WC.ret ?_
  refine WN.cell1 rfl rfl Try.underlying77 ty77 hH ?_
  refine ⟨?_, hH.keep⟩
  unfold plN; rw [if_neg (by omega), if_neg (by omega), if_neg (by omega)]
  exact congrArg (fun x : Int => Value.agg #[vint 3, vint x]) (show (n : Int) - 1 - ((p : Int) - 2 * (m : Int) - (n : Int)) = ((n - 1 - (p - 2 * m - n) : Nat) : Int) by omega)

theorem iportOf (n m : Nat) (s x : Int) (w : World) (h2 : n ≤ 5) (h4 : m ≤ 5) (hx : -1000 ≤ x ∧ x ≤ 1000) : Fn Try.prog 53 [vint n, vint m, .agg #[vint s, vint x]] w (fun v w1 => v = vint (poI n m s x) ∧ Keep [] w w1) := by
  refine Fn.enter (n := 40) Try.func53 rfl rfl rfl ?_
  show WC _ _ _ _ [(0, vint n), (1, vint m), (2, .agg #[vint s, vint x])] _
  have hH := Hp.start [] w
  refine WC.seq ?_
  refine WC.region ?_
  refine WL.box rfl rfl rfl (Wt.plain rfl) hH (fun b5 wn hb5 hk5 hH => ?_)
  refine WL.u rfl rfl (Wt.plain rfl) (Ex.assign rfl) ?_
  refine WL.next ?_
  refine WC.seq ?_
  refine WC.seq ?_
  refine WC.region ?_
  refine WL.u rfl rfl (Wt.plain rfl) (Ex.fieldAddr fd77_0 rfl) ?_
  refine WL.u rfl rfl (Wt.plain rfl) (Ex.loadHp flat3 rfl hH rfl) ?_
  refine WL.next ?_
  refine WC.block ?_
  refine WC.seq ?_
  refine WC.region ?_
  refine WL.u rfl rfl (Wt.plain rfl) (Ex.eql rfl rfl) ?_
  refine WL.u rfl rfl (Wt.plain rfl) (Ex.assign rfl) ?_
  refine WL.next ?_
  refine WC.cond rfl (fun hc1 => ?_) (fun hc1 => ?_)
  · have hc1' := hc1; try simp only [decide_eq_true_eq, decide_eq_false_iff_not, Bool.not_eq_true', Bool.not_eq_false', Bool.not_eq_true, Bool.not_eq_false] at hc1'
    refine WC.seq ?_
    refine WC.region ?_
    refine WL.u rfl rfl (Wt.plain rfl) (Ex.fieldAddr fd77_1 rfl) ?_
    refine WL.u rfl rfl (Wt.plain rfl) (Ex.loadHp flat3 rfl hH rfl) ?_
    refine WL.u rfl rfl (Wt.plain rfl) (Ex.assign rfl) ?_
    refine WL.next ?_
    refine WC.ret ?_
    refine WN.retBlock ?_
    refine WN.retThen ?_
    refine WN.body1 rfl rfl ?_
    exact ⟨by unfold poI; rw [if_pos (by omega)] <;> rfl, hH.keep⟩
  have hc1' := hc1; try simp only [decide_eq_true_eq, decide_eq_false_iff_not, Bool.not_eq_true', Bool.not_eq_false', Bool.not_eq_true, Bool.not_eq_false] at hc1'
  refine WC.seq ?_
  refine WC.region ?_
  refine WL.u rfl rfl (Wt.plain rfl) (Ex.eql rfl rfl) ?_
  refine WL.u rfl rfl (Wt.plain rfl) (Ex.assign rfl) ?_
  refine WL.next ?_
  refine WC.cond rfl (fun hc2 => ?_) (fun hc2 => ?_)
  · have hc2' := hc2; try simp only [decide_eq_true_eq, decide_eq_false_iff_not, Bool.not_eq_true', Bool.not_eq_false', Bool.not_eq_true, Bool.not_eq_false] at hc2'
    refine WC.seq ?_
    refine WC.region ?_
    refine WL.u rfl rfl (Wt.plain rfl) (Ex.move rfl) ?_
    refine WL.u rfl rfl (Wt.plain rfl) (Ex.fieldAddr fd77_1 rfl) ?_
    refine WL.u rfl rfl (Wt.plain rfl) (Ex.loadHp flat3 rfl hH rfl) ?_
    refine WL.u rfl rfl (Wt.plain rfl) (Ex.add rfl rfl (by omega)) ?_
    refine WL.u rfl rfl (Wt.plain rfl) (Ex.assign rfl) ?_
    refine WL.next ?_
    refine WC.ret ?_
    refine WN.retBlock ?_
    refine WN.retThen ?_
    refine WN.body1 rfl rfl ?_
    exact ⟨by unfold poI; rw [if_neg (by omega), if_pos (by omega)] <;> rfl, hH.keep⟩
  have hc2' := hc2; try simp only [decide_eq_true_eq, decide_eq_false_iff_not, Bool.not_eq_true', Bool.not_eq_false', Bool.not_eq_true, Bool.not_eq_false] at hc2'
  refine WC.seq ?_
  refine WC.region ?_
  refine WL.u rfl rfl (Wt.plain rfl) (Ex.eql rfl rfl) ?_
  refine WL.u rfl rfl (Wt.plain rfl) (Ex.assign rfl) ?_
  refine WL.next ?_
  refine WC.cond rfl (fun hc3 => ?_) (fun hc3 => ?_)
  · have hc3' := hc3; try simp only [decide_eq_true_eq, decide_eq_false_iff_not, Bool.not_eq_true', Bool.not_eq_false', Bool.not_eq_true, Bool.not_eq_false] at hc3'
    refine WC.seq ?_
    refine WC.region ?_
    refine WL.u rfl rfl (Wt.plain rfl) (Ex.move rfl) ?_
    refine WL.u rfl rfl (Wt.plain rfl) (Ex.move rfl) ?_
    refine WL.u rfl rfl (Wt.plain rfl) (Ex.add rfl rfl (by omega)) ?_
    refine WL.u rfl rfl (Wt.plain rfl) (Ex.move rfl) ?_
    refine WL.u rfl rfl (Wt.plain rfl) (Ex.add rfl rfl (by omega)) ?_
    refine WL.u rfl rfl (Wt.plain rfl) (Ex.sub rfl rfl (by omega)) ?_
    refine WL.u rfl rfl (Wt.plain rfl) (Ex.fieldAddr fd77_1 rfl) ?_
    refine WL.u rfl rfl (Wt.plain rfl) (Ex.loadHp flat3 rfl hH rfl) ?_
    refine WL.u rfl rfl (Wt.plain rfl) (Ex.sub rfl rfl (by omega)) ?_
    refine WL.u rfl rfl (Wt.plain rfl) (Ex.assign rfl) ?_
    refine WL.next ?_
    refine WC.ret ?_
    refine WN.retBlock ?_
    refine WN.retThen ?_
    refine WN.body1 rfl rfl ?_
    refine ⟨?_, hH.keep⟩
    unfold poI; rw [if_neg (by omega), if_neg (by omega), if_pos (by omega)]
    exact congrArg (Value.int IntKind.i64) (by omega)
  have hc3' := hc3; try simp only [decide_eq_true_eq, decide_eq_false_iff_not, Bool.not_eq_true', Bool.not_eq_false', Bool.not_eq_true, Bool.not_eq_false] at hc3'
  refine WC.skip ?_
  refine WN.normalBlock ?_
  refine WN.next ?_
  refine WC.seq ?_
  refine WC.region ?_
  refine WL.u rfl rfl (Wt.plain rfl) (Ex.move rfl) ?_
  refine WL.u rfl rfl (Wt.plain rfl) (Ex.mul rfl rfl (by omega)) ?_
  refine WL.u rfl rfl (Wt.plain rfl) (Ex.move rfl) ?_
  refine WL.u rfl rfl (Wt.plain rfl) (Ex.add rfl rfl (by omega)) ?_
  refine WL.u rfl rfl (Wt.plain rfl) (Ex.move rfl) ?_
  refine WL.u rfl rfl (Wt.plain rfl) (Ex.add rfl rfl (by omega)) ?_
  refine WL.u rfl rfl (Wt.plain rfl) (Ex.sub rfl rfl (by omega)) ?_
  refine WL.u rfl rfl (Wt.plain rfl) (Ex.fieldAddr fd77_1 rfl) ?_
  refine WL.u rfl rfl (Wt.plain rfl) (Ex.loadHp flat3 rfl hH rfl) ?_
  refine WL.u rfl rfl (Wt.plain rfl) (Ex.sub rfl rfl (by omega)) ?_
  refine WL.u rfl rfl (Wt.plain rfl) (Ex.assign rfl) ?_
  refine WL.next ?_
  refine WC.ret ?_
  refine WN.body1 rfl rfl ?_
  refine ⟨?_, hH.keep⟩
  unfold poI; rw [if_neg (by omega), if_neg (by omega), if_neg (by omega)]
  exact congrArg (Value.int IntKind.i64) (by omega)

theorem ithrough (D : GD) (g h : Grid) (n m k : Nat) (a a2 : Option Addr) (cap cap2 : Nat) (c : Nat) (sec : Bool) (s x : Int) (w : World) (J : JF D g h n m k) (ha : Sl rInt w a (pairsI g)) (hb : Sl rInt w a2 (pairsI h)) (hc : c < D.T) (hsec : sec = scd n m c) (hs : s = (((plc n m k c).1 : Nat) : Int)) (hx : x = (((plc n m k c).2 : Nat) : Int)) : Fn Try.prog 50 [.agg #[vint n, vint m, vint k, .slice a (pairsI g).length cap, .slice a2 (pairsI h).length cap2], .bool sec, .agg #[vint s, vint x]] w (fun v w1 => v = .agg #[vint (plc n m k (D.nxt c)).1, vint (plc n m k (D.nxt c)).2] ∧ Keep [] w w1) := by
  refine Fn.enter (n := 38) Try.func50 rfl rfl rfl ?_
  show WC _ _ _ _ [(0, .agg #[vint n, vint m, vint k, .slice a (pairsI g).length cap, .slice a2 (pairsI h).length cap2]), (1, .bool sec), (2, .agg #[vint s, vint x])] _
  have hH := Hp.start [] w
  have hw := J.w
  have hT := J.T
  have hn1 := J.n1
  have hn5 := J.n5
  have hm1 := J.m1
  have hk1 := J.k1
  have hmk := J.mkk
  have hpg := J.pg
  have hph := J.ph
  have hpG := J.pG
  have hal : (pairsI g).length = 2 * n + 2 * m := by rw [pairsI_len, hpg]
  have hbl : (pairsI h).length = 2 * n + 2 * k := by rw [pairsI_len, hph]
  obtain ⟨ba, oa, rfl⟩ := ha.addr (by omega)
  obtain ⟨bb, ob, rfl⟩ := hb.addr (by omega)
  subst hsec; subst hs; subst hx
  have hbd := J.plc_bd hc
  refine WC.seq ?_
  refine WC.region ?_
  refine WL.box rfl rfl rfl (Wt.plain rfl) hH (fun b3 wn hb3 hk3 hH => ?_)
  refine WL.box rfl rfl rfl (Wt.plain rfl) hH (fun b5 wn hb5 hk5 hH => ?_)
  refine WL.alloc ty77 rfl rfl (Wt.plain rfl) hH (fun b6 wn hb6 hk6 hH => ?_)
  refine WL.next ?_
  refine WC.seq ?_
  refine WC.seq ?_
  refine WC.region ?_
  refine WL.u rfl rfl (Wt.plain rfl) (Ex.move rfl) ?_
  refine WL.next ?_
  refine WC.cond rfl (fun hc1 => ?_) (fun hc1 => ?_)
  · have hs : 2 * n + 2 * m ≤ c := J.scd_ge hc1
    obtain ⟨hv1, hv2, hv3⟩ := J.val2 hc hs
    have hpo := poI_plN (n := n) (m := k) (p := c - (2 * n + 2 * m)) (by omega) hn1 hk1
    rw [← plc2 hs] at hpo
    have hpe := plc2 (n := n) (m := m) (k := k) hv2
    refine WC.seq ?_
    have hQ := hH
    refine WC.plan (Keep [b6] _) [(0, true), (1, true), (2, true), (3, true), (4, true), (5, true), (6, true), (7, true), (8, true), (9, true), (10, true), (11, false), (12, true), (13, true), (14, false), (15, false)] rfl (by kernel_rfl) (Keep.drew _ _) (fun hR => ?_)
    replace hH := hH.drew
    refine WPl.q rfl rfl rfl (Wt.plain rfl) (fun w hC => Ex.fieldAddr fd57_0 rfl) ?_
    refine WPl.q rfl rfl rfl (Wt.plain rfl) (fun w hC => Ex.loadK flat3 rfl (hQ.at 2 rfl) hC (hQ.nin 2 0 rfl rfl rfl) rfl) ?_
    refine WPl.q rfl rfl rfl (Wt.plain rfl) (fun w hC => Ex.fieldAddr fd57_2 rfl) ?_
    refine WPl.q rfl rfl rfl (Wt.plain rfl) (fun w hC => Ex.loadK flat3 rfl (hQ.at 2 rfl) hC (hQ.nin 2 0 rfl rfl rfl) rfl) ?_
    refine WPl.q rfl rfl rfl (Wt.plain rfl) (fun w hC => Ex.fieldAddr fd57_4 rfl) ?_
    refine WPl.q rfl rfl rfl (Wt.plain rfl) (fun w hC => Ex.loadK flat22 rfl (hQ.at 2 rfl) hC (hQ.nin 2 0 rfl rfl rfl) rfl) ?_
    refine WPl.q rfl rfl rfl (Wt.plain rfl) (fun w hC => Ex.fieldAddr fd57_0 rfl) ?_
    refine WPl.q rfl rfl rfl (Wt.plain rfl) (fun w hC => Ex.loadK flat3 rfl (hQ.at 2 rfl) hC (hQ.nin 2 0 rfl rfl rfl) rfl) ?_
    refine WPl.q rfl rfl rfl (Wt.plain rfl) (fun w hC => Ex.fieldAddr fd57_2 rfl) ?_
    refine WPl.q rfl rfl rfl (Wt.plain rfl) (fun w hC => Ex.loadK flat3 rfl (hQ.at 2 rfl) hC (hQ.nin 2 0 rfl rfl rfl) rfl) ?_
    refine WPl.q rfl rfl rfl (Wt.plain rfl) (fun w hC => Ex.loadK2 Try.underlying77 ty77 rfl (hQ.at 1 rfl) hC (hQ.nin 1 0 rfl rfl rfl)) ?_
    refine WPl.f rfl ?_
    refine WL.call callable53 rfl (Wt.plain rfl) rfl rfl (iportOf n k _ _ _ hn5 (by omega) (by omega)) ?_
    rintro _ wn ⟨rfl, hC⟩; replace hR := hR.trans hC.nil; replace hH := hH.call hC; clear hC
    rw [hpo]
    refine WPl.b hR ?_
    refine WPl.q rfl rfl rfl (Wt.plain rfl) (fun w hC => Ex.indexAddr Try.underlying22 ty3 rfl rfl (by omega)) ?_
    refine WPl.q rfl rfl rfl (Wt.plain rfl) (fun w hC => Ex.loadSl flat3 (hQ.ro1 0 rfl hC hb) rfl rfl (getD_get (pairsI h) (c - (2 * n + 2 * m)) 0 (by omega))) ?_
    refine WPl.f rfl ?_
    rw [hv1]
    refine WL.call callable52 rfl (Wt.plain rfl) rfl rfl (iplaceOf n k (D.nxt c - (2 * n + 2 * m)) _ hn1 hn5 hk1 (by omega) (by omega)) ?_
    rintro _ wn ⟨rfl, hC⟩; replace hR := hR.trans hC.nil; replace hH := hH.call hC; clear hC
    rw [← hpe]
    refine WPl.b hR ?_
    refine WPl.f rfl ?_
    refine WL.store2 ty77 rfl rfl rfl rfl (Wt.plain rfl) hH (fun wn hk hH => ?_)
    replace hR := hR.trans (hk.mono (by simp))
    refine WPl.b hR ?_
    refine WPl.nil (fun hC => ?_); clear hC
    refine WN.next ?_
    refine WC.ret ?_
    refine WN.retThen ?_
    refine WN.cell1 rfl rfl Try.underlying77 ty77 hH ?_
    exact ⟨rfl, hH.keep⟩
  have hs : c < 2 * n + 2 * m := J.scd_lt hc1
  obtain ⟨hv1, hv2⟩ := J.val1 hs
  have hpo := poI_plN (n := n) (m := m) (p := c) (by omega) hn1 hm1
  rw [← plc1 (k := k) hs] at hpo
  have hpe := plc1 (n := n) (m := m) (k := k) hv2
  refine WC.skip ?_
  refine WN.next ?_
  refine WC.seq ?_
  have hQ := hH
  refine WC.plan (Keep [b6] _) [(0, true), (1, true), (2, true), (3, true), (4, true), (5, true), (6, true), (7, true), (8, true), (9, true), (10, true), (11, false), (12, true), (13, true), (14, false), (15, false)] rfl (by kernel_rfl) (Keep.drew _ _) (fun hR => ?_)
  replace hH := hH.drew
  refine WPl.q rfl rfl rfl (Wt.plain rfl) (fun w hC => Ex.fieldAddr fd57_0 rfl) ?_
  refine WPl.q rfl rfl rfl (Wt.plain rfl) (fun w hC => Ex.loadK flat3 rfl (hQ.at 2 rfl) hC (hQ.nin 2 0 rfl rfl rfl) rfl) ?_
  refine WPl.q rfl rfl rfl (Wt.plain rfl) (fun w hC => Ex.fieldAddr fd57_1 rfl) ?_
  refine WPl.q rfl rfl rfl (Wt.plain rfl) (fun w hC => Ex.loadK flat3 rfl (hQ.at 2 rfl) hC (hQ.nin 2 0 rfl rfl rfl) rfl) ?_
  refine WPl.q rfl rfl rfl (Wt.plain rfl) (fun w hC => Ex.fieldAddr fd57_3 rfl) ?_
  refine WPl.q rfl rfl rfl (Wt.plain rfl) (fun w hC => Ex.loadK flat22 rfl (hQ.at 2 rfl) hC (hQ.nin 2 0 rfl rfl rfl) rfl) ?_
  refine WPl.q rfl rfl rfl (Wt.plain rfl) (fun w hC => Ex.fieldAddr fd57_0 rfl) ?_
  refine WPl.q rfl rfl rfl (Wt.plain rfl) (fun w hC => Ex.loadK flat3 rfl (hQ.at 2 rfl) hC (hQ.nin 2 0 rfl rfl rfl) rfl) ?_
  refine WPl.q rfl rfl rfl (Wt.plain rfl) (fun w hC => Ex.fieldAddr fd57_1 rfl) ?_
  refine WPl.q rfl rfl rfl (Wt.plain rfl) (fun w hC => Ex.loadK flat3 rfl (hQ.at 2 rfl) hC (hQ.nin 2 0 rfl rfl rfl) rfl) ?_
  refine WPl.q rfl rfl rfl (Wt.plain rfl) (fun w hC => Ex.loadK2 Try.underlying77 ty77 rfl (hQ.at 1 rfl) hC (hQ.nin 1 0 rfl rfl rfl)) ?_
  refine WPl.f rfl ?_
  refine WL.call callable53 rfl (Wt.plain rfl) rfl rfl (iportOf n m _ _ _ hn5 (by omega) (by omega)) ?_
  rintro _ wn ⟨rfl, hC⟩; replace hR := hR.trans hC.nil; replace hH := hH.call hC; clear hC
  rw [hpo]
  refine WPl.b hR ?_
  refine WPl.q rfl rfl rfl (Wt.plain rfl) (fun w hC => Ex.indexAddr Try.underlying22 ty3 rfl rfl (by omega)) ?_
  refine WPl.q rfl rfl rfl (Wt.plain rfl) (fun w hC => Ex.loadSl flat3 (hQ.ro1 0 rfl hC ha) rfl rfl (getD_get (pairsI g) c 0 (by omega))) ?_
  refine WPl.f rfl ?_
  rw [hv1]
  refine WL.call callable52 rfl (Wt.plain rfl) rfl rfl (iplaceOf n m (D.nxt c) _ hn1 hn5 hm1 (by omega) (by omega)) ?_
  rintro _ wn ⟨rfl, hC⟩; replace hR := hR.trans hC.nil; replace hH := hH.call hC; clear hC
  rw [← hpe]
  refine WPl.b hR ?_
  refine WPl.f rfl ?_
  refine WL.store2 ty77 rfl rfl rfl rfl (Wt.plain rfl) hH (fun wn hk hH => ?_)
  replace hR := hR.trans (hk.mono (by simp))
  refine WPl.b hR ?_
  refine WPl.nil (fun hC => ?_); clear hC
  refine WN.next ?_
  refine WC.ret ?_
  refine WN.cell1 rfl rfl Try.underlying77 ty77 hH ?_
  exact ⟨rfl, hH.keep⟩

theorem icrosses (D : GD) (g h : Grid) (n m k c : Nat) (sec : Bool) (s x : Int) (w : World) (J : JF D g h n m k) (hc : c < D.T) (hsec : sec = scd n m c) (hs : s = (((plc n m k c).1 : Nat) : Int)) (hx : x = (((plc n m k c).2 : Nat) : Int)) : Fn Try.prog 51 [.bool sec, .agg #[vint s, vint x]] w (fun v w1 => v = .tuple #[.bool (D.isM c), .agg #[vint (crp D n m k c).1, vint (crp D n m k c).2]] ∧ Keep [] w w1) := by
  refine Fn.enter (n := 26) Try.func51 rfl rfl rfl ?_
  show WC _ _ _ _ [(0, .bool sec), (1, .agg #[vint s, vint x])] _
  have hH := Hp.start [] w
  subst hsec; subst hs; subst hx
  have hmi := J.isM_side hc
  have hbd := J.plc_bd hc
  refine WC.seq ?_
  refine WC.region ?_
  refine WL.box rfl rfl rfl (Wt.plain rfl) hH (fun b3 wn hb3 hk3 hH => ?_)
  refine WL.u rfl rfl (Wt.plain rfl) (Ex.assign rfl) ?_
  refine WL.alloc ty77 rfl rfl (Wt.plain rfl) hH (fun b5 wn hb5 hk5 hH => ?_)
  refine WL.next ?_
  refine WC.seq ?_
  refine WC.seq ?_
  refine WC.region ?_
  refine WL.u rfl rfl (Wt.plain rfl) (Ex.move rfl) ?_
  refine WL.u rfl rfl (Wt.plain rfl) (Ex.not rfl) ?_
  refine WL.u rfl rfl (Wt.plain rfl) (Ex.move rfl) ?_
  refine WL.split (t := 8) rfl (fun hg1_2 => ?_) (fun hg1_2 => ?_)
  · have hg1_2' := hg1_2; try simp only [decide_eq_true_eq, decide_eq_false_iff_not, Bool.not_eq_true', Bool.not_eq_false', Bool.not_eq_true, Bool.not_eq_false] at hg1_2'
    refine WL.u rfl rfl (Wt.guard' rfl rfl rfl hg1_2 rfl) (Ex.fieldAddr fd77_0 rfl) ?_
    replace hH := hH.f1
    refine WL.u rfl rfl (Wt.guard' rfl rfl rfl hg1_2 rfl) (Ex.loadHp flat3 rfl hH rfl) ?_
    refine WL.u rfl rfl (Wt.guard' rfl rfl rfl hg1_2 rfl) (Ex.eql rfl rfl) ?_
    refine WL.u rfl rfl (Wt.plain rfl) (Ex.pickT rfl hg1_2 rfl) ?_
    refine WL.next ?_
    refine WC.cond rfl (fun hc1 => ?_) (fun hc1 => ?_)
    · have hc1' := hc1; try simp only [decide_eq_true_eq, decide_eq_false_iff_not, Bool.not_eq_true', Bool.not_eq_false', Bool.not_eq_true, Bool.not_eq_false] at hc1'
      refine WC.seq ?_
      refine WC.tail 4 rfl (by kernel_rfl) ?_
      replace hH := hH.drew
      refine WS.u rfl rfl (Wt.plain rfl) (Ex.fieldAddr fd77_1 rfl) ?_
      refine WS.u rfl rfl (Wt.plain rfl) (Ex.loadHp flat3 rfl hH rfl) ?_
      refine WS.u rfl rfl (Wt.plain rfl) (Ex.buildS bd77 rfl rfl rfl rfl rfl) ?_
      refine WS.u rfl rfl (Wt.plain rfl) (Ex.assign rfl) ?_
      refine WS.nil ?_
      replace hH := hH.f1
      refine WL.store2 ty77 rfl rfl rfl rfl (Wt.plain rfl) hH (fun wn hk hH => ?_)
      refine WL.next ?_
      refine WC.ret ?_
      refine WN.retThen ?_
      refine WN.tcell2 rfl rfl rfl Try.underlying77 ty77 hH ?_
      have hsec : scd n m c = false := by simpa using hg1_2
      have h1 : (plc n m k c).1 = 1 := by omega
      have hM := hmi.2 (.inl ⟨hsec, h1⟩)
      obtain ⟨q1, q2, q3, q4⟩ := J.mt_side hc hM
      exact ⟨by unfold crp; rw [hM, if_pos rfl, q2, q3 h1] <;> rfl, hH.keep⟩
    have hc1' := hc1; try simp only [decide_eq_true_eq, decide_eq_false_iff_not, Bool.not_eq_true', Bool.not_eq_false', Bool.not_eq_true, Bool.not_eq_false] at hc1'
    refine WC.skip ?_
    refine WN.next ?_
    refine WC.seq ?_
    refine WC.seq ?_
    refine WC.region ?_
    refine WL.u rfl rfl (Wt.plain rfl) (Ex.move rfl) ?_
    refine WL.u rfl rfl (Wt.plain rfl) (Ex.move rfl) ?_
    refine WL.split (t := 17) rfl (fun hg3_1 => ?_) (fun hg3_1 => ?_)
    · exact absurd hg1_2 (by rw [hg3_1]; decide)
    have hg3_1' := hg3_1; try simp only [decide_eq_true_eq, decide_eq_false_iff_not, Bool.not_eq_true', Bool.not_eq_false', Bool.not_eq_true, Bool.not_eq_false] at hg3_1'
    refine WL.pass rfl rfl (Wt.guard' rfl rfl rfl hg3_1 rfl) ?_
    refine WL.pass rfl rfl (Wt.guard' rfl rfl rfl hg3_1 rfl) ?_
    refine WL.pass rfl rfl (Wt.guard' rfl rfl rfl hg3_1 rfl) ?_
    refine WL.u rfl rfl (Wt.plain rfl) (Ex.pickF rfl hg3_1 rfl) ?_
    refine WL.next ?_
    refine WC.condF rfl rfl ?_
    refine WC.skip ?_
    refine WN.next ?_
    refine WC.seq ?_
    refine WC.tail 2 rfl (by kernel_rfl) ?_
    replace hH := hH.drew
    refine WS.u rfl rfl (Wt.plain rfl) (Ex.loadHp2 Try.underlying77 ty77 rfl hH) ?_
    refine WS.u rfl rfl (Wt.plain rfl) (Ex.assign rfl) ?_
    refine WS.nil ?_
    replace hH := hH.f1
    refine WL.store2 ty77 rfl rfl rfl rfl (Wt.plain rfl) hH (fun wn hk hH => ?_)
    refine WL.next ?_
    refine WC.ret ?_
    refine WN.tcell2 rfl rfl rfl Try.underlying77 ty77 hH ?_
    have hM : D.isM c = false := by
      cases e : D.isM c with
      | false => rfl
      | true =>
        rcases hmi.1 e with ⟨_, h1⟩ | ⟨h1, _⟩
        · omega
        · rw [hg3_1] at h1; cases h1
    exact ⟨by unfold crp; rw [hM] <;> rfl, hH.keep⟩
  have hg1_2' := hg1_2; try simp only [decide_eq_true_eq, decide_eq_false_iff_not, Bool.not_eq_true', Bool.not_eq_false', Bool.not_eq_true, Bool.not_eq_false] at hg1_2'
  refine WL.pass rfl rfl (Wt.guard' rfl rfl rfl hg1_2 rfl) ?_
  refine WL.pass rfl rfl (Wt.guard' rfl rfl rfl hg1_2 rfl) ?_
  refine WL.pass rfl rfl (Wt.guard' rfl rfl rfl hg1_2 rfl) ?_
  refine WL.u rfl rfl (Wt.plain rfl) (Ex.pickF rfl hg1_2 rfl) ?_
  refine WL.next ?_
  refine WC.condF rfl rfl ?_
  refine WC.skip ?_
  refine WN.next ?_
  refine WC.seq ?_
  refine WC.seq ?_
  refine WC.region ?_
  refine WL.u rfl rfl (Wt.plain rfl) (Ex.move rfl) ?_
  refine WL.u rfl rfl (Wt.plain rfl) (Ex.move rfl) ?_
  refine WL.split (t := 17) rfl (fun hg3_1 => ?_) (fun hg3_1 => ?_)
  · have hg3_1' := hg3_1; try simp only [decide_eq_true_eq, decide_eq_false_iff_not, Bool.not_eq_true', Bool.not_eq_false', Bool.not_eq_true, Bool.not_eq_false] at hg3_1'
    refine WL.u rfl rfl (Wt.guard' rfl rfl rfl hg3_1 rfl) (Ex.fieldAddr fd77_0 rfl) ?_
    replace hH := hH.f1
    refine WL.u rfl rfl (Wt.guard' rfl rfl rfl hg3_1 rfl) (Ex.loadHp flat3 rfl hH rfl) ?_
    refine WL.u rfl rfl (Wt.guard' rfl rfl rfl hg3_1 rfl) (Ex.eql rfl rfl) ?_
    refine WL.u rfl rfl (Wt.plain rfl) (Ex.pickT rfl hg3_1 rfl) ?_
    refine WL.next ?_
    refine WC.cond rfl (fun hc2 => ?_) (fun hc2 => ?_)
    · have hc2' := hc2; try simp only [decide_eq_true_eq, decide_eq_false_iff_not, Bool.not_eq_true', Bool.not_eq_false', Bool.not_eq_true, Bool.not_eq_false] at hc2'
      refine WC.seq ?_
      refine WC.tail 4 rfl (by kernel_rfl) ?_
      replace hH := hH.drew
      refine WS.u rfl rfl (Wt.plain rfl) (Ex.fieldAddr fd77_1 rfl) ?_
      refine WS.u rfl rfl (Wt.plain rfl) (Ex.loadHp flat3 rfl hH rfl) ?_
      refine WS.u rfl rfl (Wt.plain rfl) (Ex.buildS bd77 rfl rfl rfl rfl rfl) ?_
      refine WS.u rfl rfl (Wt.plain rfl) (Ex.assign rfl) ?_
      refine WS.nil ?_
      replace hH := hH.f1
      refine WL.store2 ty77 rfl rfl rfl rfl (Wt.plain rfl) hH (fun wn hk hH => ?_)
      refine WL.next ?_
      refine WC.ret ?_
      refine WN.retThen ?_
      refine WN.tcell2 rfl rfl rfl Try.underlying77 ty77 hH ?_
      have h1 : (plc n m k c).1 = 3 := by omega
      have hM := hmi.2 (.inr ⟨hg3_1, h1⟩)
      obtain ⟨q1, q2, q3, q4⟩ := J.mt_side hc hM
      exact ⟨by unfold crp; rw [hM, if_pos rfl, q2, q4 h1] <;> rfl, hH.keep⟩
    have hc2' := hc2; try simp only [decide_eq_true_eq, decide_eq_false_iff_not, Bool.not_eq_true', Bool.not_eq_false', Bool.not_eq_true, Bool.not_eq_false] at hc2'
    refine WC.skip ?_
    refine WN.next ?_
    refine WC.seq ?_
    refine WC.tail 2 rfl (by kernel_rfl) ?_
    replace hH := hH.drew
    refine WS.u rfl rfl (Wt.plain rfl) (Ex.loadHp2 Try.underlying77 ty77 rfl hH) ?_
    refine WS.u rfl rfl (Wt.plain rfl) (Ex.assign rfl) ?_
    refine WS.nil ?_
    replace hH := hH.f1
    refine WL.store2 ty77 rfl rfl rfl rfl (Wt.plain rfl) hH (fun wn hk hH => ?_)
    refine WL.next ?_
    refine WC.ret ?_
    refine WN.tcell2 rfl rfl rfl Try.underlying77 ty77 hH ?_
    have hM : D.isM c = false := by
      cases e : D.isM c with
      | false => rfl
      | true =>
        rcases hmi.1 e with ⟨h1, _⟩ | ⟨_, h1⟩
        · rw [hg3_1] at h1; cases h1
        · omega
    exact ⟨by unfold crp; rw [hM] <;> rfl, hH.keep⟩
  exact absurd hg1_2 (by rw [hg3_1]; decide)


theorem Own.nats1 (x : Nat) : Own rNat #[vint x] 1 [x] := ⟨rfl, Nat.le_refl _, by decide, rfl⟩
theorem JF.side1 {D : GD} {g h : Grid} {n m k p : Nat} (J : JF D g h n m k) (hp : p < 2 * n + 2 * (m + k)) (h1 : (plN n (m + k) p).1 = 1) : true = scd n m (nmI n m k p) ∧ (plc n m k (nmI n m k p)).2 = (plN n (m + k) p).2 := by
  obtain ⟨k1, k2, k3⟩ := J.place hp
  have e := k1.2 (.inl h1)
  rw [if_neg (fun q => q.2 h1)] at k3
  exact ⟨e.symm, k3⟩
theorem JF.side3 {D : GD} {g h : Grid} {n m k p : Nat} (J : JF D g h n m k) (hp : p < 2 * n + 2 * (m + k)) (h1 : (plN n (m + k) p).1 = 3) : false = scd n m (nmI n m k p) ∧ (plc n m k (nmI n m k p)).2 = (plN n (m + k) p).2 := by
  obtain ⟨k1, k2, k3⟩ := J.place hp
  have e : scd n m (nmI n m k p) = false := by
    cases e : scd n m (nmI n m k p) with
    | false => rfl
    | true =>
      rcases k1.1 e with q | q
      · omega
      · exact absurd h1 q.1
  rw [if_neg (fun q => by rw [e] at q; cases q.1)] at k3
  exact ⟨e.symm, k3⟩
theorem JF.side2 {D : GD} {g h : Grid} {n m k p : Nat} (J : JF D g h n m k) (hp : p < 2 * n + 2 * (m + k)) (h1 : (plN n (m + k) p).1 ≠ 1) (h3 : (plN n (m + k) p).1 ≠ 3) : (m ≤ (plN n (m + k) p).2 → scd n m (nmI n m k p) = true ∧ (plc n m k (nmI n m k p)).2 = (plN n (m + k) p).2 - m) ∧ (¬ m ≤ (plN n (m + k) p).2 → scd n m (nmI n m k p) = false ∧ (plc n m k (nmI n m k p)).2 = (plN n (m + k) p).2) := by
  obtain ⟨k1, k2, k3⟩ := J.place hp
  refine ⟨fun hm => ?_, fun hm => ?_⟩
  · have e := k1.2 (.inr ⟨h3, hm⟩)
    rw [if_pos ⟨e, h1⟩] at k3
    exact ⟨e, k3⟩
  · have e : scd n m (nmI n m k p) = false := by
      cases e : scd n m (nmI n m k p) with
      | false => rfl
      | true =>
        rcases k1.1 e with q | q
        · exact absurd q h1
        · exact absurd q.2 hm
    rw [if_neg (fun q => by rw [e] at q; cases q.1)] at k3
    exact ⟨e, k3⟩

set_option maxHeartbeats 4000000 in
theorem ijpairs (D : GD) (g h : Grid) (n m k : Nat) (a a2 : Option Addr) (cap cap2 : Nat) (w : World) (J : JF D g h n m k) (ha : Sl rInt w a (pairsI g)) (hb : Sl rInt w a2 (pairsI h)) : Fn Try.prog 38 [.agg #[vint n, vint m, vint k, .slice a (pairsI g).length cap, .slice a2 (pairsI h).length cap2]] w (fun v w1 => Keep [] w w1 ∧ New rInt 3 w w1 v (pairsI D.G)) := by
  refine Fn.enter (n := 99) Try.func38 rfl rfl rfl ?_
  show WC _ _ _ _ [(0, .agg #[vint n, vint m, vint k, .slice a (pairsI g).length cap, .slice a2 (pairsI h).length cap2])] _
  have hH := Hp.start [] w
  have hw := J.w
  have hT := J.T
  have hn1 := J.n1
  have hn5 := J.n5
  have hm1 := J.m1
  have hk1 := J.k1
  have hmk := J.mkk
  have hpg := J.pg
  have hph := J.ph
  have hpG := J.pG
  have hal : (pairsI g).length = 2 * n + 2 * m := by rw [pairsI_len, hpg]
  have hbl : (pairsI h).length = 2 * n + 2 * k := by rw [pairsI_len, hph]
  obtain ⟨ba, oa, rfl⟩ := ha.addr (by omega)
  obtain ⟨bb, ob, rfl⟩ := hb.addr (by omega)
  refine WC.seq ?_
  refine WC.region ?_
  refine WL.box rfl rfl rfl (Wt.plain rfl) hH (fun b1 wn hb1 hk1 hH => ?_)
  refine WL.u rfl rfl (Wt.plain rfl) (Ex.assign rfl) ?_
  refine WL.next ?_
  refine WC.seq ?_
  refine WC.quietK rfl (by kernel_rfl) ?_
  refine WQ.u rfl rfl (Wt.plain rfl) (fun w hC => Ex.fieldAddr fd57_0 rfl) ?_
  refine WQ.u rfl rfl (Wt.plain rfl) (fun w hC => Ex.loadHp flat3 rfl (hH.call hC) rfl) ?_
  refine WQ.u rfl rfl (Wt.plain rfl) (fun w hC => Ex.fieldAddr fd57_1 rfl) ?_
  refine WQ.u rfl rfl (Wt.plain rfl) (fun w hC => Ex.loadHp flat3 rfl (hH.call hC) rfl) ?_
  refine WQ.u rfl rfl (Wt.plain rfl) (fun w hC => Ex.fieldAddr fd57_2 rfl) ?_
  refine WQ.u rfl rfl (Wt.plain rfl) (fun w hC => Ex.loadHp flat3 rfl (hH.call hC) rfl) ?_
  refine WQ.u rfl rfl (Wt.plain rfl) (fun w hC => (Ex.add rfl rfl (by omega)).to (congrArg (Value.int IntKind.i64) (show _ = ((m + k : Nat) : Int) by omega))) ?_
  refine WQ.u rfl rfl (Wt.plain rfl) (fun w hC => Ex.assign rfl) ?_
  refine WQ.u rfl rfl (Wt.plain rfl) (fun w hC => Ex.assign rfl) ?_
  refine WQ.nil ?_
  intro wn hC; replace hH := hH.call hC; clear hC
  refine WN.next ?_
  refine WC.seq ?_
  refine WC.region ?_
  refine WL.u rfl rfl (Wt.plain rfl) (Ex.move rfl) ?_
  refine WL.u rfl rfl (Wt.plain rfl) (Ex.mul rfl rfl (by omega)) ?_
  refine WL.u rfl rfl (Wt.plain rfl) (Ex.move rfl) ?_
  refine WL.u rfl rfl (Wt.plain rfl) (Ex.mul rfl rfl (by omega)) ?_
  refine WL.u rfl rfl (Wt.plain rfl) ((Ex.add rfl rfl (by omega)).to (congrArg (Value.int IntKind.i64) (show _ = ((2 * n + 2 * (m + k) : Nat) : Int) by omega))) ?_
  refine WL.makeSlice Try.underlying22 ty3 rfl rfl (by omega) (by omega) rfl (Wt.plain rfl) hH (fun b23 wn hb23 hk23 hH => ?_)
  have ho23 := Own.made rInt (z := vint 0) 0 rfl rfl (k := (2 * n + 2 * (m + k))) (by omega)
  refine WL.u rfl rfl (Wt.plain rfl) (Ex.assign rfl) ?_
  refine WL.next ?_
  refine WC.seq ?_
  refine WC.seq ?_
  refine WC.region ?_
  refine WL.u rfl rfl (Wt.plain rfl) (Ex.move rfl) ?_
  refine WL.u rfl rfl (Wt.plain rfl) (Ex.lenSl Try.underlying22 rfl) ?_
  refine WL.u rfl rfl (Wt.plain rfl) (Ex.move rfl) ?_
  refine WL.next ?_
  refine WC.block ?_
  replace hH := hH.f1
  refine WC.loop (ι := Nat × (Array Value) × (List Int)) (fun (p, cur23, out) => [(1, vptr b1 0), (3, vint n), (4, vint (m + k : Nat)), (5, vsl b23 (2 * n + 2 * (m + k)) (2 * n + 2 * (m + k))), (25, vint (2 * n + 2 * (m + k) : Nat)), (26, vint p)]) (fun (p, cur23, out) wn => Hp [] w wn [(b1, .cells #[vint n, vint m, vint k, .slice (some ⟨ba, oa, none⟩) (pairsI g).length cap, .slice (some ⟨bb, ob, none⟩) (pairsI h).length cap2] 57 (0, 0)), (b23, .cells cur23 3 (0, 0))] ∧ Own rInt cur23 (2 * n + 2 * (m + k)) out ∧ out.length = (2 * n + 2 * (m + k)) ∧ (∀ q, q < p → out.getD q 0 = ((way D.G q).2 : Int)) ∧ p ≤ (2 * n + 2 * (m + k))) (fun (p, cur23, out) => (2 * n + 2 * (m + k)) - p) ((0, madeCells (vint 0).cells ((2 * n + 2 * (m + k)) * 1), List.replicate (2 * n + 2 * (m + k)) 0)) (by exact ⟨rfl, rfl, rfl, rfl, rfl, rfl, trivial⟩) ?_ ?_
  · exact ⟨hH, ho23, by simp, fun q hq => by omega, Nat.zero_le _⟩
  rintro ⟨p, cur23, out⟩ wn ⟨hH, ho23, hol, hO, hi⟩
  intro mu0 hmu; try dsimp only at hmu
  show WC _ _ _ _ [(1, vptr b1 0), (3, vint n), (4, vint (m + k : Nat)), (5, vsl b23 (2 * n + 2 * (m + k)) (2 * n + 2 * (m + k))), (25, vint (2 * n + 2 * (m + k) : Nat)), (26, vint p)] _
  refine WC.seq ?_
  refine WC.region ?_
  refine WL.u rfl rfl (Wt.plain rfl) (Ex.lss rfl rfl) ?_
  refine WL.next ?_
  refine WC.seq ?_
  refine WC.cond rfl (fun hc1 => ?_) (fun hc1 => ?_)
  · have hc1' := hc1; try simp only [decide_eq_true_eq, decide_eq_false_iff_not, Bool.not_eq_true', Bool.not_eq_false', Bool.not_eq_true, Bool.not_eq_false] at hc1'
    have hlt : p < (2 * n + 2 * (m + k)) := by omega
    obtain ⟨o1, o2, o3⟩ := J.outer hlt
    have hpb := plN_bd (n := n) (m := m + k) (p := p) hlt hn1 (by omega)
    have hside : (plc n m k (nmI n m k p)).1 = (plN n (m + k) p).1 := (J.place hlt).2.1
    refine WC.skip ?_
    refine WN.next ?_
    refine WC.seq ?_
    refine WC.block ?_
    refine WC.seq ?_
    refine WC.region ?_
    refine WL.u rfl rfl (Wt.plain rfl) (Ex.move rfl) ?_
    refine WL.u rfl rfl (Wt.plain rfl) (Ex.assign rfl) ?_
    refine WL.next ?_
    refine WC.seq ?_
    refine WC.region ?_
    refine WL.u rfl rfl (Wt.plain rfl) (Ex.move rfl) ?_
    refine WL.u rfl rfl (Wt.plain rfl) (Ex.move rfl) ?_
    refine WL.u rfl rfl (Wt.plain rfl) (Ex.move rfl) ?_
    refine WL.call callable52 rfl (Wt.plain rfl) rfl rfl (iplaceOf n (m + k) p _ hn1 hn5 (by omega) (by omega) (by omega)) ?_
    rintro _ wn ⟨rfl, hC⟩; replace hH := hH.call hC; clear hC
    refine WL.alloc ty77 rfl rfl (Wt.plain rfl) hH (fun b7 wn hb7 hk7 hH => ?_)
    refine WL.store2 ty77 rfl rfl rfl rfl (Wt.plain rfl) hH (fun wn hk hH => ?_)
    refine WL.next ?_
    refine WC.seq ?_
    refine WC.region ?_
    refine WL.u rfl rfl (Wt.plain rfl) (Ex.fieldAddr fd77_0 rfl) ?_
    refine WL.u rfl rfl (Wt.plain rfl) (Ex.loadHp flat3 rfl hH rfl) ?_
    refine WL.u rfl rfl (Wt.plain rfl) (Ex.eql rfl rfl) ?_
    refine WL.u rfl rfl (Wt.plain rfl) (Ex.move rfl) ?_
    refine WL.split (t := 36) rfl (fun hg7_3 => ?_) (fun hg7_3 => ?_)
    · have hg7_3' := hg7_3; try simp only [decide_eq_true_eq, decide_eq_false_iff_not, Bool.not_eq_true', Bool.not_eq_false', Bool.not_eq_true, Bool.not_eq_false] at hg7_3'
      refine WL.pass rfl rfl (Wt.guard' rfl rfl rfl hg7_3 rfl) ?_
      refine WL.pass rfl rfl (Wt.guard' rfl rfl rfl hg7_3 rfl) ?_
      refine WL.pass rfl rfl (Wt.guard' rfl rfl rfl hg7_3 rfl) ?_
      refine WL.pass rfl rfl (Wt.guard' rfl rfl rfl hg7_3 rfl) ?_
      refine WL.pass rfl rfl (Wt.undef rfl rfl rfl) ?_
      refine WL.pass rfl rfl (Wt.undef rfl rfl rfl) ?_
      refine WL.pass rfl rfl (Wt.undef rfl rfl rfl) ?_
      refine WL.pass rfl rfl (Wt.undef rfl rfl rfl) ?_
      refine WL.pass rfl rfl (Wt.undef rfl rfl rfl) ?_
      refine WL.pass rfl rfl (Wt.guard' rfl rfl rfl hg7_3 rfl) ?_
      refine WL.u rfl rfl (Wt.plain rfl) (Ex.pickT rfl hg7_3 rfl) ?_
      refine WL.u rfl rfl (Wt.plain rfl) (Ex.assign rfl) ?_
      refine WL.next ?_
      refine WC.seq ?_
      refine WC.seq ?_
      refine WC.region ?_
      refine WL.u rfl rfl (Wt.plain rfl) (Ex.move rfl) ?_
      refine WL.u rfl rfl (Wt.plain rfl) (Ex.move rfl) ?_
      refine WL.u rfl rfl (Wt.guard' rfl rfl rfl rfl rfl) (Ex.fieldAddr fd77_0 rfl) ?_
      refine WL.u rfl rfl (Wt.guard' rfl rfl rfl rfl rfl) (Ex.loadHp flat3 rfl hH rfl) ?_
      refine WL.u rfl rfl (Wt.guard' rfl rfl rfl rfl rfl) (Ex.neq rfl rfl) ?_
      refine WL.u rfl rfl (Wt.plain rfl) (Ex.pickT rfl rfl rfl) ?_
      refine WL.next ?_
      refine WC.cond rfl (fun hc2 => ?_) (fun hc2 => ?_)
      · exfalso; have := of_decide_eq_true hc2; omega
      obtain ⟨hsec, hat⟩ := J.side1 hlt (by omega)
      have hsy : _ = scd n m (D.nxt (nmI n m k p)) := hsec.trans (J.nxt_side o1).symm
      refine WC.skip ?_
      refine WN.next ?_
      refine WC.seq ?_
      refine WC.region ?_
      replace hH := hH.f1
      refine WL.u rfl rfl (Wt.plain rfl) (Ex.loadHp5 Try.underlying57 ty57 rfl hH) ?_
      refine WL.u rfl rfl (Wt.plain rfl) (Ex.move rfl) ?_
      replace hH := hH.f1
      refine WL.u rfl rfl (Wt.plain rfl) (Ex.loadHp2 Try.underlying77 ty77 rfl hH) ?_
      refine WL.call callable50 rfl (Wt.plain rfl) rfl rfl (ithrough D g h n m k _ _ _ _ (nmI n m k p) _ _ _ _ J (ha.kept hH.keep) (hb.kept hH.keep) o1 hsec (by omega) (by omega)) ?_
      rintro _ wn ⟨rfl, hC⟩; replace hH := hH.call hC; clear hC
      refine WL.store2 ty77 rfl rfl rfl rfl (Wt.plain rfl) hH (fun wn hk hH => ?_)
      refine WL.next ?_
      refine WC.seq ?_
      refine WC.block ?_
      replace hH := hH.f2
      replace hH := hH.f2
      refine WC.loop (ι := Nat × (List (Nat × Nat))) (fun (y, L) => [(1, vptr b1 0), (3, vint n), (4, vint (m + k : Nat)), (5, vsl b23 (2 * n + 2 * (m + k)) (2 * n + 2 * (m + k))), (6, vint p), (7, vptr b7 0), (8, .bool (scd n m (D.nxt y))), (25, vint (2 * n + 2 * (m + k) : Nat)), (26, vint p)]) (fun (y, L) wn => Hp [] w wn [(b1, .cells #[vint n, vint m, vint k, .slice (some ⟨ba, oa, none⟩) (pairsI g).length cap, .slice (some ⟨bb, ob, none⟩) (pairsI h).length cap2] 57 (0, 0)), (b23, .cells cur23 3 (0, 0)), (b7, .cells #[vint (plc n m k (D.nxt y)).1, vint (plc n m k (D.nxt y)).2] 77 (0, 0))] ∧ D.FI (fun _ => true) (nmI n m k p) y L) (fun (y, L) => L.length) (((nmI n m k p), (way D.G (D.nm (nmI n m k p))).1)) (by exact ⟨rfl, rfl, rfl, rfl, rfl, rfl, congrArg (fun b => some (Value.bool b)) hsy, rfl, rfl, trivial⟩) ?_ ?_
      · exact ⟨hH, GD.FI.start hw o1 o2⟩
      rintro ⟨y, L⟩ wn ⟨hH, hF⟩
      have hyT := hF.yT
      obtain ⟨hx1, hx2, hx3⟩ := GD.nxt_ok hw y hyT
      have hpb := J.plc_bd hx1
      intro mu0 hmu; try dsimp only at hmu
      show WC _ _ _ _ [(1, vptr b1 0), (3, vint n), (4, vint (m + k : Nat)), (5, vsl b23 (2 * n + 2 * (m + k)) (2 * n + 2 * (m + k))), (6, vint p), (7, vptr b7 0), (8, .bool (scd n m (D.nxt y))), (25, vint (2 * n + 2 * (m + k) : Nat)), (26, vint p)] _
      refine WC.block ?_
      refine WC.seq ?_
      refine WC.region ?_
      refine WL.u rfl rfl (Wt.plain rfl) (Ex.move rfl) ?_
      replace hH := hH.f2
      refine WL.u rfl rfl (Wt.plain rfl) (Ex.loadHp2 Try.underlying77 ty77 rfl hH) ?_
      refine WL.call callable51 rfl (Wt.plain rfl) rfl rfl (icrosses D g h n m k (D.nxt y) _ _ _ _ J hx1 rfl rfl rfl) ?_
      rintro _ wn ⟨rfl, hC⟩; replace hH := hH.call hC; clear hC
      refine WL.u rfl rfl (Wt.plain rfl) (Ex.move rfl) ?_
      refine WL.u rfl rfl (Wt.plain rfl) (Ex.extract rfl rfl) ?_
      refine WL.u rfl rfl (Wt.plain rfl) (Ex.extract rfl rfl) ?_
      refine WL.alloc ty77 rfl rfl (Wt.plain rfl) hH (fun b10 wn hb10 hk10 hH => ?_)
      refine WL.u rfl rfl (Wt.plain rfl) (Ex.assign rfl) ?_
      refine WL.store2 ty77 rfl rfl rfl rfl (Wt.plain rfl) hH (fun wn hk hH => ?_)
      refine WL.next ?_
      refine WC.seq ?_
      refine WC.seq ?_
      refine WC.region ?_
      refine WL.u rfl rfl (Wt.plain rfl) (Ex.move rfl) ?_
      refine WL.u rfl rfl (Wt.plain rfl) (Ex.not rfl) ?_
      refine WL.next ?_
      refine WC.cond rfl (fun hc3 => ?_) (fun hc3 => ?_)
      · have hmx : D.isM (D.nxt y) = false := by simpa using hc3
        obtain ⟨hd1, _⟩ := hF.done hw hmx
        have hd2 : (way D.G p).2 = D.nm (D.nxt y) := by rw [o3] at hd1; exact hd1
        have hlv := J.leave hx1 hmx
        refine WC.exit ?_
        refine WN.exitThen ?_
        refine WN.exitOther rfl ?_
        refine WN.exitThen ?_
        refine WN.exitHere ?_
        refine WN.next ?_
        refine WC.seq ?_
        refine WC.seq ?_
        refine WC.region ?_
        refine WL.u rfl rfl (Wt.plain rfl) (Ex.move rfl) ?_
        refine WL.u rfl rfl (Wt.plain rfl) (Ex.move rfl) ?_
        refine WL.split (t := 79) rfl (fun hg15_1 => ?_) (fun hg15_1 => ?_)
        · have hg15_1' := hg15_1; try simp only [decide_eq_true_eq, decide_eq_false_iff_not, Bool.not_eq_true', Bool.not_eq_false', Bool.not_eq_true, Bool.not_eq_false] at hg15_1'
          refine WL.u rfl rfl (Wt.guard' rfl rfl rfl hg15_1 rfl) (Ex.fieldAddr fd77_0 rfl) ?_
          replace hH := hH.f1
          refine WL.u rfl rfl (Wt.guard' rfl rfl rfl hg15_1 rfl) (Ex.loadHp flat3 rfl hH rfl) ?_
          refine WL.u rfl rfl (Wt.guard' rfl rfl rfl hg15_1 rfl) (Ex.neq rfl rfl) ?_
          refine WL.u rfl rfl (Wt.plain rfl) (Ex.pickT rfl hg15_1 rfl) ?_
          refine WL.next ?_
          refine WC.cond rfl (fun hc4 => ?_) (fun hc4 => ?_)
          · have hc4' := hc4; try simp only [decide_eq_true_eq, decide_eq_false_iff_not, Bool.not_eq_true', Bool.not_eq_false', Bool.not_eq_true, Bool.not_eq_false] at hc4'
            rw [if_pos ⟨hg15_1, by omega⟩] at hlv
            refine WC.region ?_
            refine WL.u rfl rfl (Wt.plain rfl) (Ex.fieldAddr fd77_1 rfl) ?_
            refine WL.u rfl rfl (Wt.plain rfl) (Ex.loadHp flat3 rfl hH rfl) ?_
            refine WL.u rfl rfl (Wt.plain rfl) (Ex.fieldAddr fd57_1 rfl) ?_
            replace hH := hH.f2
            refine WL.u rfl rfl (Wt.plain rfl) (Ex.loadHp flat3 rfl hH rfl) ?_
            refine WL.u rfl rfl (Wt.plain rfl) (Ex.add rfl rfl (by omega)) ?_
            refine WL.u rfl rfl (Wt.plain rfl) (Ex.fieldAddr fd77_1 rfl) ?_
            replace hH := hH.f1
            refine WL.store1 ty3 rfl rfl rfl (Wt.plain rfl) hH (by first | decide | simp) rfl (fun wn hk hH => ?_)
            replace hH : Hp [] w wn ((b7, .cells #[vint (plc n m k (D.nxt y)).1, vint ((((plc n m k (D.nxt y)).2 : Nat) : Int) + (m : Int))] 77 (0, 0)) :: _) := hH
            refine WL.next ?_
            refine WC.region ?_
            refine WL.u rfl rfl (Wt.plain rfl) (Ex.move rfl) ?_
            refine WL.u rfl rfl (Wt.plain rfl) (Ex.move rfl) ?_
            refine WL.u rfl rfl (Wt.plain rfl) (Ex.move rfl) ?_
            refine WL.u rfl rfl (Wt.plain rfl) (Ex.move rfl) ?_
            refine WL.u rfl rfl (Wt.plain rfl) (Ex.loadHp2 Try.underlying77 ty77 rfl hH) ?_
            refine WL.call callable53 rfl (Wt.plain rfl) rfl rfl (iportOf n (m + k) _ _ _ hn5 (by omega) (by omega)) ?_
            rintro _ wn ⟨rfl, hC⟩; replace hH := hH.call hC; clear hC
            rw [hlv]
            refine WL.u rfl rfl (Wt.plain rfl) (Ex.indexAddr Try.underlying22 ty3 rfl rfl (by omega)) ?_
            replace hH := hH.f3
            refine WL.store1 ty3 rfl rfl rfl (Wt.plain rfl) hH (ho23.idx rfl (by omega)) (by simp) (fun wn hk hH => ?_)
            replace ho23 := ho23.set rfl p ((D.nm (D.nxt y) : Nat) : Int)
            refine WL.last ?_
            refine WN.normalBlock ?_
            refine WN.next ?_
            refine WC.region ?_
            refine WL.u rfl rfl (Wt.plain rfl) (Ex.add rfl rfl (by omega)) ?_
            refine WL.u rfl rfl (Wt.plain rfl) (Ex.move rfl) ?_
            refine WL.last ?_
            replace hH := hH.f2
            replace hH := hH.first2
            refine WN.round (p + 1, cur23.setIfInBounds (0 + (p : Int).toNat * 1) (rInt.val ((D.nm (D.nxt y) : Nat) : Int)), out.set p ((D.nm (D.nxt y) : Nat) : Int)) (by exact ⟨rfl, rfl, rfl, rfl, rfl, rfl, trivial⟩) ?_ ?_
            · exact ⟨hH, ho23, by rw [List.length_set]; exact hol, fun q hq => (by
                rw [gset _ _ _ _ (by omega)]
                by_cases e : q = p
                · rw [if_pos e, e, hd2]
                · rw [if_neg e]
                  exact hO q (by omega)), by omega⟩
            · (try dsimp only); omega
          have hc4' := hc4; try simp only [decide_eq_true_eq, decide_eq_false_iff_not, Bool.not_eq_true', Bool.not_eq_false', Bool.not_eq_true, Bool.not_eq_false] at hc4'
          rw [if_neg (fun q => by omega)] at hlv
          refine WC.skip ?_
          refine WN.next ?_
          refine WC.region ?_
          refine WL.u rfl rfl (Wt.plain rfl) (Ex.move rfl) ?_
          refine WL.u rfl rfl (Wt.plain rfl) (Ex.move rfl) ?_
          refine WL.u rfl rfl (Wt.plain rfl) (Ex.move rfl) ?_
          refine WL.u rfl rfl (Wt.plain rfl) (Ex.move rfl) ?_
          refine WL.u rfl rfl (Wt.plain rfl) (Ex.loadHp2 Try.underlying77 ty77 rfl hH) ?_
          refine WL.call callable53 rfl (Wt.plain rfl) rfl rfl (iportOf n (m + k) _ _ _ hn5 (by omega) (by omega)) ?_
          rintro _ wn ⟨rfl, hC⟩; replace hH := hH.call hC; clear hC
          rw [hlv]
          refine WL.u rfl rfl (Wt.plain rfl) (Ex.indexAddr Try.underlying22 ty3 rfl rfl (by omega)) ?_
          replace hH := hH.f3
          refine WL.store1 ty3 rfl rfl rfl (Wt.plain rfl) hH (ho23.idx rfl (by omega)) (by simp) (fun wn hk hH => ?_)
          replace ho23 := ho23.set rfl p ((D.nm (D.nxt y) : Nat) : Int)
          refine WL.last ?_
          refine WN.normalBlock ?_
          refine WN.next ?_
          refine WC.region ?_
          refine WL.u rfl rfl (Wt.plain rfl) (Ex.add rfl rfl (by omega)) ?_
          refine WL.u rfl rfl (Wt.plain rfl) (Ex.move rfl) ?_
          refine WL.last ?_
          replace hH := hH.f3
          replace hH := hH.first2
          refine WN.round (p + 1, cur23.setIfInBounds (0 + (p : Int).toNat * 1) (rInt.val ((D.nm (D.nxt y) : Nat) : Int)), out.set p ((D.nm (D.nxt y) : Nat) : Int)) (by exact ⟨rfl, rfl, rfl, rfl, rfl, rfl, trivial⟩) ?_ ?_
          · exact ⟨hH, ho23, by rw [List.length_set]; exact hol, fun q hq => (by
              rw [gset _ _ _ _ (by omega)]
              by_cases e : q = p
              · rw [if_pos e, e, hd2]
              · rw [if_neg e]
                exact hO q (by omega)), by omega⟩
          · (try dsimp only); omega
        have hs0 : scd n m (D.nxt y) = false := hg15_1
        rw [if_neg (fun q => by rw [hs0] at q; cases q.1)] at hlv
        refine WL.pass rfl rfl (Wt.guard' rfl rfl rfl hg15_1 rfl) ?_
        refine WL.pass rfl rfl (Wt.guard' rfl rfl rfl hg15_1 rfl) ?_
        refine WL.pass rfl rfl (Wt.guard' rfl rfl rfl hg15_1 rfl) ?_
        refine WL.u rfl rfl (Wt.plain rfl) (Ex.pickF rfl hg15_1 rfl) ?_
        refine WL.next ?_
        refine WC.condF rfl rfl ?_
        refine WC.skip ?_
        refine WN.next ?_
        refine WC.region ?_
        refine WL.u rfl rfl (Wt.plain rfl) (Ex.move rfl) ?_
        refine WL.u rfl rfl (Wt.plain rfl) (Ex.move rfl) ?_
        refine WL.u rfl rfl (Wt.plain rfl) (Ex.move rfl) ?_
        refine WL.u rfl rfl (Wt.plain rfl) (Ex.move rfl) ?_
        replace hH := hH.f1
        refine WL.u rfl rfl (Wt.plain rfl) (Ex.loadHp2 Try.underlying77 ty77 rfl hH) ?_
        refine WL.call callable53 rfl (Wt.plain rfl) rfl rfl (iportOf n (m + k) _ _ _ hn5 (by omega) (by omega)) ?_
        rintro _ wn ⟨rfl, hC⟩; replace hH := hH.call hC; clear hC
        rw [hlv]
        refine WL.u rfl rfl (Wt.plain rfl) (Ex.indexAddr Try.underlying22 ty3 rfl rfl (by omega)) ?_
        replace hH := hH.f3
        refine WL.store1 ty3 rfl rfl rfl (Wt.plain rfl) hH (ho23.idx rfl (by omega)) (by simp) (fun wn hk hH => ?_)
        replace ho23 := ho23.set rfl p ((D.nm (D.nxt y) : Nat) : Int)
        refine WL.last ?_
        refine WN.normalBlock ?_
        refine WN.next ?_
        refine WC.region ?_
        refine WL.u rfl rfl (Wt.plain rfl) (Ex.add rfl rfl (by omega)) ?_
        refine WL.u rfl rfl (Wt.plain rfl) (Ex.move rfl) ?_
        refine WL.last ?_
        replace hH := hH.f3
        replace hH := hH.first2
        refine WN.round (p + 1, cur23.setIfInBounds (0 + (p : Int).toNat * 1) (rInt.val ((D.nm (D.nxt y) : Nat) : Int)), out.set p ((D.nm (D.nxt y) : Nat) : Int)) (by exact ⟨rfl, rfl, rfl, rfl, rfl, rfl, trivial⟩) ?_ ?_
        · exact ⟨hH, ho23, by rw [List.length_set]; exact hol, fun q hq => (by
            rw [gset _ _ _ _ (by omega)]
            by_cases e : q = p
            · rw [if_pos e, e, hd2]
            · rw [if_neg e]
              exact hO q (by omega)), by omega⟩
        · (try dsimp only); omega
      have hmx : D.isM (D.nxt y) = true := by simpa using hc3
      obtain ⟨L2, hL2, hF2⟩ := hF.step hw hmx (S' := fun _ => true) (fun _ _ => rfl) rfl
      obtain ⟨ms1, ms2, ms3, ms4⟩ := J.mt_side hx1 hmx
      obtain ⟨mt1, mt2, _⟩ := hw.mtM _ hx1 hmx
      have hsy2 : (!scd n m (D.nxt y)) = scd n m (D.nxt (D.mt (D.nxt y))) := ms1.symm.trans (J.nxt_side mt1).symm
      rw [crp_M hmx] at hH ⊢
      refine WC.skip ?_
      refine WN.next ?_
      refine WC.seq ?_
      refine WC.region ?_
      refine WL.u rfl rfl (Wt.plain rfl) (Ex.move rfl) ?_
      refine WL.u rfl rfl (Wt.plain rfl) (Ex.not rfl) ?_
      refine WL.u rfl rfl (Wt.plain rfl) (Ex.assign rfl) ?_
      refine WL.next ?_
      refine WC.region ?_
      replace hH := hH.f2
      refine WL.u rfl rfl (Wt.plain rfl) (Ex.loadHp5 Try.underlying57 ty57 rfl hH) ?_
      refine WL.u rfl rfl (Wt.plain rfl) (Ex.move rfl) ?_
      replace hH := hH.f1
      refine WL.u rfl rfl (Wt.plain rfl) (Ex.loadHp2 Try.underlying77 ty77 rfl hH) ?_
      refine WL.call callable50 rfl (Wt.plain rfl) rfl rfl (ithrough D g h n m k _ _ _ _ (D.mt (D.nxt y)) _ _ _ _ J (ha.kept hH.keep) (hb.kept hH.keep) mt1 ms1.symm rfl rfl) ?_
      rintro _ wn ⟨rfl, hC⟩; replace hH := hH.call hC; clear hC
      replace hH := hH.f2
      refine WL.store2 ty77 rfl rfl rfl rfl (Wt.plain rfl) hH (fun wn hk hH => ?_)
      refine WL.last ?_
      refine WN.normalBlock ?_
      replace hH := hH.f3
      replace hH := hH.f3
      replace hH := hH.first3
      refine WN.round (D.mt (D.nxt y), L2) (by exact ⟨rfl, rfl, rfl, rfl, rfl, rfl, congrArg (fun b => some (Value.bool b)) hsy2, rfl, rfl, trivial⟩) ?_ ?_
      · exact ⟨hH, hF2⟩
      · (try dsimp only); omega
    have hg7_3' := hg7_3; try simp only [decide_eq_true_eq, decide_eq_false_iff_not, Bool.not_eq_true', Bool.not_eq_false', Bool.not_eq_true, Bool.not_eq_false] at hg7_3'
    refine WL.u rfl rfl (Wt.guard' rfl rfl rfl hg7_3 rfl) (Ex.fieldAddr fd77_0 rfl) ?_
    refine WL.u rfl rfl (Wt.guard' rfl rfl rfl hg7_3 rfl) (Ex.loadHp flat3 rfl hH rfl) ?_
    refine WL.u rfl rfl (Wt.guard' rfl rfl rfl hg7_3 rfl) (Ex.neq rfl rfl) ?_
    refine WL.u rfl rfl (Wt.guard' rfl rfl rfl hg7_3 rfl) (Ex.move rfl) ?_
    refine WL.split (t := 40) rfl (fun hg7_7 => ?_) (fun hg7_7 => ?_)
    · have hg7_7' := hg7_7; try simp only [decide_eq_true_eq, decide_eq_false_iff_not, Bool.not_eq_true', Bool.not_eq_false', Bool.not_eq_true, Bool.not_eq_false] at hg7_7'
      refine WL.u rfl rfl (Wt.guard' rfl rfl rfl hg7_7 rfl) (Ex.fieldAddr fd77_1 rfl) ?_
      refine WL.u rfl rfl (Wt.guard' rfl rfl rfl hg7_7 rfl) (Ex.loadHp flat3 rfl hH rfl) ?_
      refine WL.u rfl rfl (Wt.guard' rfl rfl rfl hg7_7 rfl) (Ex.fieldAddr fd57_1 rfl) ?_
      replace hH := hH.f1
      refine WL.u rfl rfl (Wt.guard' rfl rfl rfl hg7_7 rfl) (Ex.loadHp flat3 rfl hH rfl) ?_
      refine WL.u rfl rfl (Wt.guard' rfl rfl rfl hg7_7 rfl) (Ex.geq rfl rfl) ?_
      refine WL.u rfl rfl (Wt.guard' rfl rfl rfl hg7_3 rfl) (Ex.pickT rfl hg7_7 rfl) ?_
      refine WL.u rfl rfl (Wt.plain rfl) (Ex.pickF rfl hg7_3 rfl) ?_
      refine WL.u rfl rfl (Wt.plain rfl) (Ex.assign rfl) ?_
      refine WL.next ?_
      refine WC.seq ?_
      refine WC.seq ?_
      refine WC.region ?_
      refine WL.u rfl rfl (Wt.plain rfl) (Ex.move rfl) ?_
      refine WL.u rfl rfl (Wt.plain rfl) (Ex.move rfl) ?_
      refine WL.split (t := 49) rfl (fun hg8_1 => ?_) (fun hg8_1 => ?_)
      · have hg8_1' := hg8_1; try simp only [decide_eq_true_eq, decide_eq_false_iff_not, Bool.not_eq_true', Bool.not_eq_false', Bool.not_eq_true, Bool.not_eq_false] at hg8_1'
        obtain ⟨h2s, h2p⟩ := (J.side2 hlt (by omega) (by omega)).1 (by omega)
        have hsec : _ = scd n m (nmI n m k p) := hg8_1.trans h2s.symm
        have hat : (((plN n (m + k) p).2 : Nat) : Int) - (m : Int) = (((plc n m k (nmI n m k p)).2 : Nat) : Int) := by omega
        have hsy : _ = scd n m (D.nxt (nmI n m k p)) := hsec.trans (J.nxt_side o1).symm
        refine WL.u rfl rfl (Wt.guard' rfl rfl rfl hg8_1 rfl) (Ex.fieldAddr fd77_0 rfl) ?_
        replace hH := hH.f1
        refine WL.u rfl rfl (Wt.guard' rfl rfl rfl hg8_1 rfl) (Ex.loadHp flat3 rfl hH rfl) ?_
        refine WL.u rfl rfl (Wt.guard' rfl rfl rfl hg8_1 rfl) (Ex.neq rfl rfl) ?_
        refine WL.u rfl rfl (Wt.plain rfl) (Ex.pickT rfl hg8_1 rfl) ?_
        refine WL.next ?_
        refine WC.cond rfl (fun hc2 => ?_) (fun hc2 => ?_)
        · have hc2' := hc2; try simp only [decide_eq_true_eq, decide_eq_false_iff_not, Bool.not_eq_true', Bool.not_eq_false', Bool.not_eq_true, Bool.not_eq_false] at hc2'
          refine WC.region ?_
          refine WL.u rfl rfl (Wt.plain rfl) (Ex.fieldAddr fd77_1 rfl) ?_
          refine WL.u rfl rfl (Wt.plain rfl) (Ex.loadHp flat3 rfl hH rfl) ?_
          refine WL.u rfl rfl (Wt.plain rfl) (Ex.fieldAddr fd57_1 rfl) ?_
          replace hH := hH.f1
          refine WL.u rfl rfl (Wt.plain rfl) (Ex.loadHp flat3 rfl hH rfl) ?_
          refine WL.u rfl rfl (Wt.plain rfl) (Ex.sub rfl rfl (by omega)) ?_
          refine WL.u rfl rfl (Wt.plain rfl) (Ex.fieldAddr fd77_1 rfl) ?_
          replace hH := hH.f1
          refine WL.store1 ty3 rfl rfl rfl (Wt.plain rfl) hH (by first | decide | simp) rfl (fun wn hk hH => ?_)
          replace hH : Hp [] w wn ((b7, .cells #[vint (plN n (m + k) p).1, vint ((((plN n (m + k) p).2 : Nat) : Int) - (m : Int))] 77 (0, 0)) :: _) := hH
          refine WL.next ?_
          refine WC.seq ?_
          refine WC.region ?_
          replace hH := hH.f1
          refine WL.u rfl rfl (Wt.plain rfl) (Ex.loadHp5 Try.underlying57 ty57 rfl hH) ?_
          refine WL.u rfl rfl (Wt.plain rfl) (Ex.move rfl) ?_
          replace hH := hH.f1
          refine WL.u rfl rfl (Wt.plain rfl) (Ex.loadHp2 Try.underlying77 ty77 rfl hH) ?_
          refine WL.call callable50 rfl (Wt.plain rfl) rfl rfl (ithrough D g h n m k _ _ _ _ (nmI n m k p) _ _ _ _ J (ha.kept hH.keep) (hb.kept hH.keep) o1 hsec (by omega) (by omega)) ?_
          rintro _ wn ⟨rfl, hC⟩; replace hH := hH.call hC; clear hC
          refine WL.store2 ty77 rfl rfl rfl rfl (Wt.plain rfl) hH (fun wn hk hH => ?_)
          refine WL.next ?_
          refine WC.seq ?_
          refine WC.block ?_
          replace hH := hH.f2
          replace hH := hH.f2
          refine WC.loop (ι := Nat × (List (Nat × Nat))) (fun (y, L) => [(1, vptr b1 0), (3, vint n), (4, vint (m + k : Nat)), (5, vsl b23 (2 * n + 2 * (m + k)) (2 * n + 2 * (m + k))), (6, vint p), (7, vptr b7 0), (8, .bool (scd n m (D.nxt y))), (25, vint (2 * n + 2 * (m + k) : Nat)), (26, vint p)]) (fun (y, L) wn => Hp [] w wn [(b1, .cells #[vint n, vint m, vint k, .slice (some ⟨ba, oa, none⟩) (pairsI g).length cap, .slice (some ⟨bb, ob, none⟩) (pairsI h).length cap2] 57 (0, 0)), (b23, .cells cur23 3 (0, 0)), (b7, .cells #[vint (plc n m k (D.nxt y)).1, vint (plc n m k (D.nxt y)).2] 77 (0, 0))] ∧ D.FI (fun _ => true) (nmI n m k p) y L) (fun (y, L) => L.length) (((nmI n m k p), (way D.G (D.nm (nmI n m k p))).1)) (by exact ⟨rfl, rfl, rfl, rfl, rfl, rfl, congrArg (fun b => some (Value.bool b)) hsy, rfl, rfl, trivial⟩) ?_ ?_
          · exact ⟨hH, GD.FI.start hw o1 o2⟩
          rintro ⟨y, L⟩ wn ⟨hH, hF⟩
          have hyT := hF.yT
          obtain ⟨hx1, hx2, hx3⟩ := GD.nxt_ok hw y hyT
          have hpb := J.plc_bd hx1
          intro mu0 hmu; try dsimp only at hmu
          show WC _ _ _ _ [(1, vptr b1 0), (3, vint n), (4, vint (m + k : Nat)), (5, vsl b23 (2 * n + 2 * (m + k)) (2 * n + 2 * (m + k))), (6, vint p), (7, vptr b7 0), (8, .bool (scd n m (D.nxt y))), (25, vint (2 * n + 2 * (m + k) : Nat)), (26, vint p)] _
          refine WC.block ?_
          refine WC.seq ?_
          refine WC.region ?_
          refine WL.u rfl rfl (Wt.plain rfl) (Ex.move rfl) ?_
          replace hH := hH.f2
          refine WL.u rfl rfl (Wt.plain rfl) (Ex.loadHp2 Try.underlying77 ty77 rfl hH) ?_
          refine WL.call callable51 rfl (Wt.plain rfl) rfl rfl (icrosses D g h n m k (D.nxt y) _ _ _ _ J hx1 rfl rfl rfl) ?_
          rintro _ wn ⟨rfl, hC⟩; replace hH := hH.call hC; clear hC
          refine WL.u rfl rfl (Wt.plain rfl) (Ex.move rfl) ?_
          refine WL.u rfl rfl (Wt.plain rfl) (Ex.extract rfl rfl) ?_
          refine WL.u rfl rfl (Wt.plain rfl) (Ex.extract rfl rfl) ?_
          refine WL.alloc ty77 rfl rfl (Wt.plain rfl) hH (fun b10 wn hb10 hk10 hH => ?_)
          refine WL.u rfl rfl (Wt.plain rfl) (Ex.assign rfl) ?_
          refine WL.store2 ty77 rfl rfl rfl rfl (Wt.plain rfl) hH (fun wn hk hH => ?_)
          refine WL.next ?_
          refine WC.seq ?_
          refine WC.seq ?_
          refine WC.region ?_
          refine WL.u rfl rfl (Wt.plain rfl) (Ex.move rfl) ?_
          refine WL.u rfl rfl (Wt.plain rfl) (Ex.not rfl) ?_
          refine WL.next ?_
          refine WC.cond rfl (fun hc3 => ?_) (fun hc3 => ?_)
          · have hmx : D.isM (D.nxt y) = false := by simpa using hc3
            obtain ⟨hd1, _⟩ := hF.done hw hmx
            have hd2 : (way D.G p).2 = D.nm (D.nxt y) := by rw [o3] at hd1; exact hd1
            have hlv := J.leave hx1 hmx
            refine WC.exit ?_
            refine WN.exitThen ?_
            refine WN.exitOther rfl ?_
            refine WN.exitThen ?_
            refine WN.exitHere ?_
            refine WN.next ?_
            refine WC.seq ?_
            refine WC.seq ?_
            refine WC.region ?_
            refine WL.u rfl rfl (Wt.plain rfl) (Ex.move rfl) ?_
            refine WL.u rfl rfl (Wt.plain rfl) (Ex.move rfl) ?_
            refine WL.split (t := 79) rfl (fun hg15_1 => ?_) (fun hg15_1 => ?_)
            · have hg15_1' := hg15_1; try simp only [decide_eq_true_eq, decide_eq_false_iff_not, Bool.not_eq_true', Bool.not_eq_false', Bool.not_eq_true, Bool.not_eq_false] at hg15_1'
              refine WL.u rfl rfl (Wt.guard' rfl rfl rfl hg15_1 rfl) (Ex.fieldAddr fd77_0 rfl) ?_
              replace hH := hH.f1
              refine WL.u rfl rfl (Wt.guard' rfl rfl rfl hg15_1 rfl) (Ex.loadHp flat3 rfl hH rfl) ?_
              refine WL.u rfl rfl (Wt.guard' rfl rfl rfl hg15_1 rfl) (Ex.neq rfl rfl) ?_
              refine WL.u rfl rfl (Wt.plain rfl) (Ex.pickT rfl hg15_1 rfl) ?_
              refine WL.next ?_
              refine WC.cond rfl (fun hc4 => ?_) (fun hc4 => ?_)
              · have hc4' := hc4; try simp only [decide_eq_true_eq, decide_eq_false_iff_not, Bool.not_eq_true', Bool.not_eq_false', Bool.not_eq_true, Bool.not_eq_false] at hc4'
                rw [if_pos ⟨hg15_1, by omega⟩] at hlv
                refine WC.region ?_
                refine WL.u rfl rfl (Wt.plain rfl) (Ex.fieldAddr fd77_1 rfl) ?_
                refine WL.u rfl rfl (Wt.plain rfl) (Ex.loadHp flat3 rfl hH rfl) ?_
                refine WL.u rfl rfl (Wt.plain rfl) (Ex.fieldAddr fd57_1 rfl) ?_
                replace hH := hH.f2
                refine WL.u rfl rfl (Wt.plain rfl) (Ex.loadHp flat3 rfl hH rfl) ?_
                refine WL.u rfl rfl (Wt.plain rfl) (Ex.add rfl rfl (by omega)) ?_
                refine WL.u rfl rfl (Wt.plain rfl) (Ex.fieldAddr fd77_1 rfl) ?_
                replace hH := hH.f1
                refine WL.store1 ty3 rfl rfl rfl (Wt.plain rfl) hH (by first | decide | simp) rfl (fun wn hk hH => ?_)
                replace hH : Hp [] w wn ((b7, .cells #[vint (plc n m k (D.nxt y)).1, vint ((((plc n m k (D.nxt y)).2 : Nat) : Int) + (m : Int))] 77 (0, 0)) :: _) := hH
                refine WL.next ?_
                refine WC.region ?_
                refine WL.u rfl rfl (Wt.plain rfl) (Ex.move rfl) ?_
                refine WL.u rfl rfl (Wt.plain rfl) (Ex.move rfl) ?_
                refine WL.u rfl rfl (Wt.plain rfl) (Ex.move rfl) ?_
                refine WL.u rfl rfl (Wt.plain rfl) (Ex.move rfl) ?_
                refine WL.u rfl rfl (Wt.plain rfl) (Ex.loadHp2 Try.underlying77 ty77 rfl hH) ?_
                refine WL.call callable53 rfl (Wt.plain rfl) rfl rfl (iportOf n (m + k) _ _ _ hn5 (by omega) (by omega)) ?_
                rintro _ wn ⟨rfl, hC⟩; replace hH := hH.call hC; clear hC
                rw [hlv]
                refine WL.u rfl rfl (Wt.plain rfl) (Ex.indexAddr Try.underlying22 ty3 rfl rfl (by omega)) ?_
                replace hH := hH.f3
                refine WL.store1 ty3 rfl rfl rfl (Wt.plain rfl) hH (ho23.idx rfl (by omega)) (by simp) (fun wn hk hH => ?_)
                replace ho23 := ho23.set rfl p ((D.nm (D.nxt y) : Nat) : Int)
                refine WL.last ?_
                refine WN.normalBlock ?_
                refine WN.next ?_
                refine WC.region ?_
                refine WL.u rfl rfl (Wt.plain rfl) (Ex.add rfl rfl (by omega)) ?_
                refine WL.u rfl rfl (Wt.plain rfl) (Ex.move rfl) ?_
                refine WL.last ?_
                replace hH := hH.f2
                replace hH := hH.first2
                refine WN.round (p + 1, cur23.setIfInBounds (0 + (p : Int).toNat * 1) (rInt.val ((D.nm (D.nxt y) : Nat) : Int)), out.set p ((D.nm (D.nxt y) : Nat) : Int)) (by exact ⟨rfl, rfl, rfl, rfl, rfl, rfl, trivial⟩) ?_ ?_
                · exact ⟨hH, ho23, by rw [List.length_set]; exact hol, fun q hq => (by
                    rw [gset _ _ _ _ (by omega)]
                    by_cases e : q = p
                    · rw [if_pos e, e, hd2]
                    · rw [if_neg e]
                      exact hO q (by omega)), by omega⟩
                · (try dsimp only); omega
              have hc4' := hc4; try simp only [decide_eq_true_eq, decide_eq_false_iff_not, Bool.not_eq_true', Bool.not_eq_false', Bool.not_eq_true, Bool.not_eq_false] at hc4'
              rw [if_neg (fun q => by omega)] at hlv
              refine WC.skip ?_
              refine WN.next ?_
              refine WC.region ?_
              refine WL.u rfl rfl (Wt.plain rfl) (Ex.move rfl) ?_
              refine WL.u rfl rfl (Wt.plain rfl) (Ex.move rfl) ?_
              refine WL.u rfl rfl (Wt.plain rfl) (Ex.move rfl) ?_
              refine WL.u rfl rfl (Wt.plain rfl) (Ex.move rfl) ?_
              refine WL.u rfl rfl (Wt.plain rfl) (Ex.loadHp2 Try.underlying77 ty77 rfl hH) ?_
              refine WL.call callable53 rfl (Wt.plain rfl) rfl rfl (iportOf n (m + k) _ _ _ hn5 (by omega) (by omega)) ?_
              rintro _ wn ⟨rfl, hC⟩; replace hH := hH.call hC; clear hC
              rw [hlv]
              refine WL.u rfl rfl (Wt.plain rfl) (Ex.indexAddr Try.underlying22 ty3 rfl rfl (by omega)) ?_
              replace hH := hH.f3
              refine WL.store1 ty3 rfl rfl rfl (Wt.plain rfl) hH (ho23.idx rfl (by omega)) (by simp) (fun wn hk hH => ?_)
              replace ho23 := ho23.set rfl p ((D.nm (D.nxt y) : Nat) : Int)
              refine WL.last ?_
              refine WN.normalBlock ?_
              refine WN.next ?_
              refine WC.region ?_
              refine WL.u rfl rfl (Wt.plain rfl) (Ex.add rfl rfl (by omega)) ?_
              refine WL.u rfl rfl (Wt.plain rfl) (Ex.move rfl) ?_
              refine WL.last ?_
              replace hH := hH.f3
              replace hH := hH.first2
              refine WN.round (p + 1, cur23.setIfInBounds (0 + (p : Int).toNat * 1) (rInt.val ((D.nm (D.nxt y) : Nat) : Int)), out.set p ((D.nm (D.nxt y) : Nat) : Int)) (by exact ⟨rfl, rfl, rfl, rfl, rfl, rfl, trivial⟩) ?_ ?_
              · exact ⟨hH, ho23, by rw [List.length_set]; exact hol, fun q hq => (by
                  rw [gset _ _ _ _ (by omega)]
                  by_cases e : q = p
                  · rw [if_pos e, e, hd2]
                  · rw [if_neg e]
                    exact hO q (by omega)), by omega⟩
              · (try dsimp only); omega
            have hs0 : scd n m (D.nxt y) = false := hg15_1
            rw [if_neg (fun q => by rw [hs0] at q; cases q.1)] at hlv
            refine WL.pass rfl rfl (Wt.guard' rfl rfl rfl hg15_1 rfl) ?_
            refine WL.pass rfl rfl (Wt.guard' rfl rfl rfl hg15_1 rfl) ?_
            refine WL.pass rfl rfl (Wt.guard' rfl rfl rfl hg15_1 rfl) ?_
            refine WL.u rfl rfl (Wt.plain rfl) (Ex.pickF rfl hg15_1 rfl) ?_
            refine WL.next ?_
            refine WC.condF rfl rfl ?_
            refine WC.skip ?_
            refine WN.next ?_
            refine WC.region ?_
            refine WL.u rfl rfl (Wt.plain rfl) (Ex.move rfl) ?_
            refine WL.u rfl rfl (Wt.plain rfl) (Ex.move rfl) ?_
            refine WL.u rfl rfl (Wt.plain rfl) (Ex.move rfl) ?_
            refine WL.u rfl rfl (Wt.plain rfl) (Ex.move rfl) ?_
            replace hH := hH.f1
            refine WL.u rfl rfl (Wt.plain rfl) (Ex.loadHp2 Try.underlying77 ty77 rfl hH) ?_
            refine WL.call callable53 rfl (Wt.plain rfl) rfl rfl (iportOf n (m + k) _ _ _ hn5 (by omega) (by omega)) ?_
            rintro _ wn ⟨rfl, hC⟩; replace hH := hH.call hC; clear hC
            rw [hlv]
            refine WL.u rfl rfl (Wt.plain rfl) (Ex.indexAddr Try.underlying22 ty3 rfl rfl (by omega)) ?_
            replace hH := hH.f3
            refine WL.store1 ty3 rfl rfl rfl (Wt.plain rfl) hH (ho23.idx rfl (by omega)) (by simp) (fun wn hk hH => ?_)
            replace ho23 := ho23.set rfl p ((D.nm (D.nxt y) : Nat) : Int)
            refine WL.last ?_
            refine WN.normalBlock ?_
            refine WN.next ?_
            refine WC.region ?_
            refine WL.u rfl rfl (Wt.plain rfl) (Ex.add rfl rfl (by omega)) ?_
            refine WL.u rfl rfl (Wt.plain rfl) (Ex.move rfl) ?_
            refine WL.last ?_
            replace hH := hH.f3
            replace hH := hH.first2
            refine WN.round (p + 1, cur23.setIfInBounds (0 + (p : Int).toNat * 1) (rInt.val ((D.nm (D.nxt y) : Nat) : Int)), out.set p ((D.nm (D.nxt y) : Nat) : Int)) (by exact ⟨rfl, rfl, rfl, rfl, rfl, rfl, trivial⟩) ?_ ?_
            · exact ⟨hH, ho23, by rw [List.length_set]; exact hol, fun q hq => (by
                rw [gset _ _ _ _ (by omega)]
                by_cases e : q = p
                · rw [if_pos e, e, hd2]
                · rw [if_neg e]
                  exact hO q (by omega)), by omega⟩
            · (try dsimp only); omega
          have hmx : D.isM (D.nxt y) = true := by simpa using hc3
          obtain ⟨L2, hL2, hF2⟩ := hF.step hw hmx (S' := fun _ => true) (fun _ _ => rfl) rfl
          obtain ⟨ms1, ms2, ms3, ms4⟩ := J.mt_side hx1 hmx
          obtain ⟨mt1, mt2, _⟩ := hw.mtM _ hx1 hmx
          have hsy2 : (!scd n m (D.nxt y)) = scd n m (D.nxt (D.mt (D.nxt y))) := ms1.symm.trans (J.nxt_side mt1).symm
          rw [crp_M hmx] at hH ⊢
          refine WC.skip ?_
          refine WN.next ?_
          refine WC.seq ?_
          refine WC.region ?_
          refine WL.u rfl rfl (Wt.plain rfl) (Ex.move rfl) ?_
          refine WL.u rfl rfl (Wt.plain rfl) (Ex.not rfl) ?_
          refine WL.u rfl rfl (Wt.plain rfl) (Ex.assign rfl) ?_
          refine WL.next ?_
          refine WC.region ?_
          replace hH := hH.f2
          refine WL.u rfl rfl (Wt.plain rfl) (Ex.loadHp5 Try.underlying57 ty57 rfl hH) ?_
          refine WL.u rfl rfl (Wt.plain rfl) (Ex.move rfl) ?_
          replace hH := hH.f1
          refine WL.u rfl rfl (Wt.plain rfl) (Ex.loadHp2 Try.underlying77 ty77 rfl hH) ?_
          refine WL.call callable50 rfl (Wt.plain rfl) rfl rfl (ithrough D g h n m k _ _ _ _ (D.mt (D.nxt y)) _ _ _ _ J (ha.kept hH.keep) (hb.kept hH.keep) mt1 ms1.symm rfl rfl) ?_
          rintro _ wn ⟨rfl, hC⟩; replace hH := hH.call hC; clear hC
          replace hH := hH.f2
          refine WL.store2 ty77 rfl rfl rfl rfl (Wt.plain rfl) hH (fun wn hk hH => ?_)
          refine WL.last ?_
          refine WN.normalBlock ?_
          replace hH := hH.f3
          replace hH := hH.f3
          replace hH := hH.first3
          refine WN.round (D.mt (D.nxt y), L2) (by exact ⟨rfl, rfl, rfl, rfl, rfl, rfl, congrArg (fun b => some (Value.bool b)) hsy2, rfl, rfl, trivial⟩) ?_ ?_
          · exact ⟨hH, hF2⟩
          · (try dsimp only); omega
        exfalso; have := of_decide_eq_false hc2; omega
      have hg8_1' := hg8_1; try simp only [decide_eq_true_eq, decide_eq_false_iff_not, Bool.not_eq_true', Bool.not_eq_false', Bool.not_eq_true, Bool.not_eq_false] at hg8_1'
      obtain ⟨h2s, hat⟩ := (J.side2 hlt (by omega) (by omega)).2 (by omega)
      have hsec : _ = scd n m (nmI n m k p) := hg8_1.trans h2s.symm
      have hsy : _ = scd n m (D.nxt (nmI n m k p)) := hsec.trans (J.nxt_side o1).symm
      refine WL.pass rfl rfl (Wt.guard' rfl rfl rfl hg8_1 rfl) ?_
      refine WL.pass rfl rfl (Wt.guard' rfl rfl rfl hg8_1 rfl) ?_
      refine WL.pass rfl rfl (Wt.guard' rfl rfl rfl hg8_1 rfl) ?_
      refine WL.u rfl rfl (Wt.plain rfl) (Ex.pickF rfl hg8_1 rfl) ?_
      refine WL.next ?_
      refine WC.condF rfl rfl ?_
      refine WC.skip ?_
      refine WN.next ?_
      refine WC.seq ?_
      refine WC.region ?_
      refine WL.u rfl rfl (Wt.plain rfl) (Ex.loadHp5 Try.underlying57 ty57 rfl hH) ?_
      refine WL.u rfl rfl (Wt.plain rfl) (Ex.move rfl) ?_
      replace hH := hH.f1
      refine WL.u rfl rfl (Wt.plain rfl) (Ex.loadHp2 Try.underlying77 ty77 rfl hH) ?_
      refine WL.call callable50 rfl (Wt.plain rfl) rfl rfl (ithrough D g h n m k _ _ _ _ (nmI n m k p) _ _ _ _ J (ha.kept hH.keep) (hb.kept hH.keep) o1 hsec (by omega) (by omega)) ?_
      rintro _ wn ⟨rfl, hC⟩; replace hH := hH.call hC; clear hC
      refine WL.store2 ty77 rfl rfl rfl rfl (Wt.plain rfl) hH (fun wn hk hH => ?_)
      refine WL.next ?_
      refine WC.seq ?_
      refine WC.block ?_
      replace hH := hH.f2
      replace hH := hH.f2
      refine WC.loop (ι := Nat × (List (Nat × Nat))) (fun (y, L) => [(1, vptr b1 0), (3, vint n), (4, vint (m + k : Nat)), (5, vsl b23 (2 * n + 2 * (m + k)) (2 * n + 2 * (m + k))), (6, vint p), (7, vptr b7 0), (8, .bool (scd n m (D.nxt y))), (25, vint (2 * n + 2 * (m + k) : Nat)), (26, vint p)]) (fun (y, L) wn => Hp [] w wn [(b1, .cells #[vint n, vint m, vint k, .slice (some ⟨ba, oa, none⟩) (pairsI g).length cap, .slice (some ⟨bb, ob, none⟩) (pairsI h).length cap2] 57 (0, 0)), (b23, .cells cur23 3 (0, 0)), (b7, .cells #[vint (plc n m k (D.nxt y)).1, vint (plc n m k (D.nxt y)).2] 77 (0, 0))] ∧ D.FI (fun _ => true) (nmI n m k p) y L) (fun (y, L) => L.length) (((nmI n m k p), (way D.G (D.nm (nmI n m k p))).1)) (by exact ⟨rfl, rfl, rfl, rfl, rfl, rfl, congrArg (fun b => some (Value.bool b)) hsy, rfl, rfl, trivial⟩) ?_ ?_
      · exact ⟨hH, GD.FI.start hw o1 o2⟩
      rintro ⟨y, L⟩ wn ⟨hH, hF⟩
      have hyT := hF.yT
      obtain ⟨hx1, hx2, hx3⟩ := GD.nxt_ok hw y hyT
      have hpb := J.plc_bd hx1
      intro mu0 hmu; try dsimp only at hmu
      show WC _ _ _ _ [(1, vptr b1 0), (3, vint n), (4, vint (m + k : Nat)), (5, vsl b23 (2 * n + 2 * (m + k)) (2 * n + 2 * (m + k))), (6, vint p), (7, vptr b7 0), (8, .bool (scd n m (D.nxt y))), (25, vint (2 * n + 2 * (m + k) : Nat)), (26, vint p)] _
      refine WC.block ?_
      refine WC.seq ?_
      refine WC.region ?_
      refine WL.u rfl rfl (Wt.plain rfl) (Ex.move rfl) ?_
      replace hH := hH.f2
      refine WL.u rfl rfl (Wt.plain rfl) (Ex.loadHp2 Try.underlying77 ty77 rfl hH) ?_
      refine WL.call callable51 rfl (Wt.plain rfl) rfl rfl (icrosses D g h n m k (D.nxt y) _ _ _ _ J hx1 rfl rfl rfl) ?_
      rintro _ wn ⟨rfl, hC⟩; replace hH := hH.call hC; clear hC
      refine WL.u rfl rfl (Wt.plain rfl) (Ex.move rfl) ?_
      refine WL.u rfl rfl (Wt.plain rfl) (Ex.extract rfl rfl) ?_
      refine WL.u rfl rfl (Wt.plain rfl) (Ex.extract rfl rfl) ?_
      refine WL.alloc ty77 rfl rfl (Wt.plain rfl) hH (fun b10 wn hb10 hk10 hH => ?_)
      refine WL.u rfl rfl (Wt.plain rfl) (Ex.assign rfl) ?_
      refine WL.store2 ty77 rfl rfl rfl rfl (Wt.plain rfl) hH (fun wn hk hH => ?_)
      refine WL.next ?_
      refine WC.seq ?_
      refine WC.seq ?_
      refine WC.region ?_
      refine WL.u rfl rfl (Wt.plain rfl) (Ex.move rfl) ?_
      refine WL.u rfl rfl (Wt.plain rfl) (Ex.not rfl) ?_
      refine WL.next ?_
      refine WC.cond rfl (fun hc3 => ?_) (fun hc3 => ?_)
      · have hmx : D.isM (D.nxt y) = false := by simpa using hc3
        obtain ⟨hd1, _⟩ := hF.done hw hmx
        have hd2 : (way D.G p).2 = D.nm (D.nxt y) := by rw [o3] at hd1; exact hd1
        have hlv := J.leave hx1 hmx
        refine WC.exit ?_
        refine WN.exitThen ?_
        refine WN.exitOther rfl ?_
        refine WN.exitThen ?_
        refine WN.exitHere ?_
        refine WN.next ?_
        refine WC.seq ?_
        refine WC.seq ?_
        refine WC.region ?_
        refine WL.u rfl rfl (Wt.plain rfl) (Ex.move rfl) ?_
        refine WL.u rfl rfl (Wt.plain rfl) (Ex.move rfl) ?_
        refine WL.split (t := 79) rfl (fun hg15_1 => ?_) (fun hg15_1 => ?_)
        · have hg15_1' := hg15_1; try simp only [decide_eq_true_eq, decide_eq_false_iff_not, Bool.not_eq_true', Bool.not_eq_false', Bool.not_eq_true, Bool.not_eq_false] at hg15_1'
          refine WL.u rfl rfl (Wt.guard' rfl rfl rfl hg15_1 rfl) (Ex.fieldAddr fd77_0 rfl) ?_
          replace hH := hH.f1
          refine WL.u rfl rfl (Wt.guard' rfl rfl rfl hg15_1 rfl) (Ex.loadHp flat3 rfl hH rfl) ?_
          refine WL.u rfl rfl (Wt.guard' rfl rfl rfl hg15_1 rfl) (Ex.neq rfl rfl) ?_
          refine WL.u rfl rfl (Wt.plain rfl) (Ex.pickT rfl hg15_1 rfl) ?_
          refine WL.next ?_
          refine WC.cond rfl (fun hc4 => ?_) (fun hc4 => ?_)
          · have hc4' := hc4; try simp only [decide_eq_true_eq, decide_eq_false_iff_not, Bool.not_eq_true', Bool.not_eq_false', Bool.not_eq_true, Bool.not_eq_false] at hc4'
            rw [if_pos ⟨hg15_1, by omega⟩] at hlv
            refine WC.region ?_
            refine WL.u rfl rfl (Wt.plain rfl) (Ex.fieldAddr fd77_1 rfl) ?_
            refine WL.u rfl rfl (Wt.plain rfl) (Ex.loadHp flat3 rfl hH rfl) ?_
            refine WL.u rfl rfl (Wt.plain rfl) (Ex.fieldAddr fd57_1 rfl) ?_
            replace hH := hH.f2
            refine WL.u rfl rfl (Wt.plain rfl) (Ex.loadHp flat3 rfl hH rfl) ?_
            refine WL.u rfl rfl (Wt.plain rfl) (Ex.add rfl rfl (by omega)) ?_
            refine WL.u rfl rfl (Wt.plain rfl) (Ex.fieldAddr fd77_1 rfl) ?_
            replace hH := hH.f1
            refine WL.store1 ty3 rfl rfl rfl (Wt.plain rfl) hH (by first | decide | simp) rfl (fun wn hk hH => ?_)
            replace hH : Hp [] w wn ((b7, .cells #[vint (plc n m k (D.nxt y)).1, vint ((((plc n m k (D.nxt y)).2 : Nat) : Int) + (m : Int))] 77 (0, 0)) :: _) := hH
            refine WL.next ?_
            refine WC.region ?_
            refine WL.u rfl rfl (Wt.plain rfl) (Ex.move rfl) ?_
            refine WL.u rfl rfl (Wt.plain rfl) (Ex.move rfl) ?_
            refine WL.u rfl rfl (Wt.plain rfl) (Ex.move rfl) ?_
            refine WL.u rfl rfl (Wt.plain rfl) (Ex.move rfl) ?_
            refine WL.u rfl rfl (Wt.plain rfl) (Ex.loadHp2 Try.underlying77 ty77 rfl hH) ?_
            refine WL.call callable53 rfl (Wt.plain rfl) rfl rfl (iportOf n (m + k) _ _ _ hn5 (by omega) (by omega)) ?_
            rintro _ wn ⟨rfl, hC⟩; replace hH := hH.call hC; clear hC
            rw [hlv]
            refine WL.u rfl rfl (Wt.plain rfl) (Ex.indexAddr Try.underlying22 ty3 rfl rfl (by omega)) ?_
            replace hH := hH.f3
            refine WL.store1 ty3 rfl rfl rfl (Wt.plain rfl) hH (ho23.idx rfl (by omega)) (by simp) (fun wn hk hH => ?_)
            replace ho23 := ho23.set rfl p ((D.nm (D.nxt y) : Nat) : Int)
            refine WL.last ?_
            refine WN.normalBlock ?_
            refine WN.next ?_
            refine WC.region ?_
            refine WL.u rfl rfl (Wt.plain rfl) (Ex.add rfl rfl (by omega)) ?_
            refine WL.u rfl rfl (Wt.plain rfl) (Ex.move rfl) ?_
            refine WL.last ?_
            replace hH := hH.f2
            replace hH := hH.first2
            refine WN.round (p + 1, cur23.setIfInBounds (0 + (p : Int).toNat * 1) (rInt.val ((D.nm (D.nxt y) : Nat) : Int)), out.set p ((D.nm (D.nxt y) : Nat) : Int)) (by exact ⟨rfl, rfl, rfl, rfl, rfl, rfl, trivial⟩) ?_ ?_
            · exact ⟨hH, ho23, by rw [List.length_set]; exact hol, fun q hq => (by
                rw [gset _ _ _ _ (by omega)]
                by_cases e : q = p
                · rw [if_pos e, e, hd2]
                · rw [if_neg e]
                  exact hO q (by omega)), by omega⟩
            · (try dsimp only); omega
          have hc4' := hc4; try simp only [decide_eq_true_eq, decide_eq_false_iff_not, Bool.not_eq_true', Bool.not_eq_false', Bool.not_eq_true, Bool.not_eq_false] at hc4'
          rw [if_neg (fun q => by omega)] at hlv
          refine WC.skip ?_
          refine WN.next ?_
          refine WC.region ?_
          refine WL.u rfl rfl (Wt.plain rfl) (Ex.move rfl) ?_
          refine WL.u rfl rfl (Wt.plain rfl) (Ex.move rfl) ?_
          refine WL.u rfl rfl (Wt.plain rfl) (Ex.move rfl) ?_
          refine WL.u rfl rfl (Wt.plain rfl) (Ex.move rfl) ?_
          refine WL.u rfl rfl (Wt.plain rfl) (Ex.loadHp2 Try.underlying77 ty77 rfl hH) ?_
          refine WL.call callable53 rfl (Wt.plain rfl) rfl rfl (iportOf n (m + k) _ _ _ hn5 (by omega) (by omega)) ?_
          rintro _ wn ⟨rfl, hC⟩; replace hH := hH.call hC; clear hC
          rw [hlv]
          refine WL.u rfl rfl (Wt.plain rfl) (Ex.indexAddr Try.underlying22 ty3 rfl rfl (by omega)) ?_
          replace hH := hH.f3
          refine WL.store1 ty3 rfl rfl rfl (Wt.plain rfl) hH (ho23.idx rfl (by omega)) (by simp) (fun wn hk hH => ?_)
          replace ho23 := ho23.set rfl p ((D.nm (D.nxt y) : Nat) : Int)
          refine WL.last ?_
          refine WN.normalBlock ?_
          refine WN.next ?_
          refine WC.region ?_
          refine WL.u rfl rfl (Wt.plain rfl) (Ex.add rfl rfl (by omega)) ?_
          refine WL.u rfl rfl (Wt.plain rfl) (Ex.move rfl) ?_
          refine WL.last ?_
          replace hH := hH.f3
          replace hH := hH.first2
          refine WN.round (p + 1, cur23.setIfInBounds (0 + (p : Int).toNat * 1) (rInt.val ((D.nm (D.nxt y) : Nat) : Int)), out.set p ((D.nm (D.nxt y) : Nat) : Int)) (by exact ⟨rfl, rfl, rfl, rfl, rfl, rfl, trivial⟩) ?_ ?_
          · exact ⟨hH, ho23, by rw [List.length_set]; exact hol, fun q hq => (by
              rw [gset _ _ _ _ (by omega)]
              by_cases e : q = p
              · rw [if_pos e, e, hd2]
              · rw [if_neg e]
                exact hO q (by omega)), by omega⟩
          · (try dsimp only); omega
        have hs0 : scd n m (D.nxt y) = false := hg15_1
        rw [if_neg (fun q => by rw [hs0] at q; cases q.1)] at hlv
        refine WL.pass rfl rfl (Wt.guard' rfl rfl rfl hg15_1 rfl) ?_
        refine WL.pass rfl rfl (Wt.guard' rfl rfl rfl hg15_1 rfl) ?_
        refine WL.pass rfl rfl (Wt.guard' rfl rfl rfl hg15_1 rfl) ?_
        refine WL.u rfl rfl (Wt.plain rfl) (Ex.pickF rfl hg15_1 rfl) ?_
        refine WL.next ?_
        refine WC.condF rfl rfl ?_
        refine WC.skip ?_
        refine WN.next ?_
        refine WC.region ?_
        refine WL.u rfl rfl (Wt.plain rfl) (Ex.move rfl) ?_
        refine WL.u rfl rfl (Wt.plain rfl) (Ex.move rfl) ?_
        refine WL.u rfl rfl (Wt.plain rfl) (Ex.move rfl) ?_
        refine WL.u rfl rfl (Wt.plain rfl) (Ex.move rfl) ?_
        replace hH := hH.f1
        refine WL.u rfl rfl (Wt.plain rfl) (Ex.loadHp2 Try.underlying77 ty77 rfl hH) ?_
        refine WL.call callable53 rfl (Wt.plain rfl) rfl rfl (iportOf n (m + k) _ _ _ hn5 (by omega) (by omega)) ?_
        rintro _ wn ⟨rfl, hC⟩; replace hH := hH.call hC; clear hC
        rw [hlv]
        refine WL.u rfl rfl (Wt.plain rfl) (Ex.indexAddr Try.underlying22 ty3 rfl rfl (by omega)) ?_
        replace hH := hH.f3
        refine WL.store1 ty3 rfl rfl rfl (Wt.plain rfl) hH (ho23.idx rfl (by omega)) (by simp) (fun wn hk hH => ?_)
        replace ho23 := ho23.set rfl p ((D.nm (D.nxt y) : Nat) : Int)
        refine WL.last ?_
        refine WN.normalBlock ?_
        refine WN.next ?_
        refine WC.region ?_
        refine WL.u rfl rfl (Wt.plain rfl) (Ex.add rfl rfl (by omega)) ?_
        refine WL.u rfl rfl (Wt.plain rfl) (Ex.move rfl) ?_
        refine WL.last ?_
        replace hH := hH.f3
        replace hH := hH.first2
        refine WN.round (p + 1, cur23.setIfInBounds (0 + (p : Int).toNat * 1) (rInt.val ((D.nm (D.nxt y) : Nat) : Int)), out.set p ((D.nm (D.nxt y) : Nat) : Int)) (by exact ⟨rfl, rfl, rfl, rfl, rfl, rfl, trivial⟩) ?_ ?_
        · exact ⟨hH, ho23, by rw [List.length_set]; exact hol, fun q hq => (by
            rw [gset _ _ _ _ (by omega)]
            by_cases e : q = p
            · rw [if_pos e, e, hd2]
            · rw [if_neg e]
              exact hO q (by omega)), by omega⟩
        · (try dsimp only); omega
      have hmx : D.isM (D.nxt y) = true := by simpa using hc3
      obtain ⟨L2, hL2, hF2⟩ := hF.step hw hmx (S' := fun _ => true) (fun _ _ => rfl) rfl
      obtain ⟨ms1, ms2, ms3, ms4⟩ := J.mt_side hx1 hmx
      obtain ⟨mt1, mt2, _⟩ := hw.mtM _ hx1 hmx
      have hsy2 : (!scd n m (D.nxt y)) = scd n m (D.nxt (D.mt (D.nxt y))) := ms1.symm.trans (J.nxt_side mt1).symm
      rw [crp_M hmx] at hH ⊢
      refine WC.skip ?_
      refine WN.next ?_
      refine WC.seq ?_
      refine WC.region ?_
      refine WL.u rfl rfl (Wt.plain rfl) (Ex.move rfl) ?_
      refine WL.u rfl rfl (Wt.plain rfl) (Ex.not rfl) ?_
      refine WL.u rfl rfl (Wt.plain rfl) (Ex.assign rfl) ?_
      refine WL.next ?_
      refine WC.region ?_
      replace hH := hH.f2
      refine WL.u rfl rfl (Wt.plain rfl) (Ex.loadHp5 Try.underlying57 ty57 rfl hH) ?_
      refine WL.u rfl rfl (Wt.plain rfl) (Ex.move rfl) ?_
      replace hH := hH.f1
      refine WL.u rfl rfl (Wt.plain rfl) (Ex.loadHp2 Try.underlying77 ty77 rfl hH) ?_
      refine WL.call callable50 rfl (Wt.plain rfl) rfl rfl (ithrough D g h n m k _ _ _ _ (D.mt (D.nxt y)) _ _ _ _ J (ha.kept hH.keep) (hb.kept hH.keep) mt1 ms1.symm rfl rfl) ?_
      rintro _ wn ⟨rfl, hC⟩; replace hH := hH.call hC; clear hC
      replace hH := hH.f2
      refine WL.store2 ty77 rfl rfl rfl rfl (Wt.plain rfl) hH (fun wn hk hH => ?_)
      refine WL.last ?_
      refine WN.normalBlock ?_
      replace hH := hH.f3
      replace hH := hH.f3
      replace hH := hH.first3
      refine WN.round (D.mt (D.nxt y), L2) (by exact ⟨rfl, rfl, rfl, rfl, rfl, rfl, congrArg (fun b => some (Value.bool b)) hsy2, rfl, rfl, trivial⟩) ?_ ?_
      · exact ⟨hH, hF2⟩
      · (try dsimp only); omega
    have hg7_7' := hg7_7; try simp only [decide_eq_true_eq, decide_eq_false_iff_not, Bool.not_eq_true', Bool.not_eq_false', Bool.not_eq_true, Bool.not_eq_false] at hg7_7'
    obtain ⟨hsec, hat⟩ := J.side3 hlt (by omega)
    have hsy : _ = scd n m (D.nxt (nmI n m k p)) := hsec.trans (J.nxt_side o1).symm
    refine WL.pass rfl rfl (Wt.guard' rfl rfl rfl hg7_7 rfl) ?_
    refine WL.pass rfl rfl (Wt.guard' rfl rfl rfl hg7_7 rfl) ?_
    refine WL.pass rfl rfl (Wt.guard' rfl rfl rfl hg7_7 rfl) ?_
    refine WL.pass rfl rfl (Wt.guard' rfl rfl rfl hg7_7 rfl) ?_
    refine WL.pass rfl rfl (Wt.guard' rfl rfl rfl hg7_7 rfl) ?_
    refine WL.u rfl rfl (Wt.guard' rfl rfl rfl hg7_3 rfl) (Ex.pickF rfl hg7_7 rfl) ?_
    refine WL.u rfl rfl (Wt.plain rfl) (Ex.pickF rfl hg7_3 rfl) ?_
    refine WL.u rfl rfl (Wt.plain rfl) (Ex.assign rfl) ?_
    refine WL.next ?_
    refine WC.seq ?_
    refine WC.seq ?_
    refine WC.region ?_
    refine WL.u rfl rfl (Wt.plain rfl) (Ex.move rfl) ?_
    refine WL.u rfl rfl (Wt.plain rfl) (Ex.move rfl) ?_
    refine WL.pass rfl rfl (Wt.guard' rfl rfl rfl rfl rfl) ?_
    refine WL.pass rfl rfl (Wt.guard' rfl rfl rfl rfl rfl) ?_
    refine WL.pass rfl rfl (Wt.guard' rfl rfl rfl rfl rfl) ?_
    refine WL.u rfl rfl (Wt.plain rfl) (Ex.pickF rfl rfl rfl) ?_
    refine WL.next ?_
    refine WC.condF rfl rfl ?_
    refine WC.skip ?_
    refine WN.next ?_
    refine WC.seq ?_
    refine WC.region ?_
    replace hH := hH.f1
    refine WL.u rfl rfl (Wt.plain rfl) (Ex.loadHp5 Try.underlying57 ty57 rfl hH) ?_
    refine WL.u rfl rfl (Wt.plain rfl) (Ex.move rfl) ?_
    replace hH := hH.f1
    refine WL.u rfl rfl (Wt.plain rfl) (Ex.loadHp2 Try.underlying77 ty77 rfl hH) ?_
    refine WL.call callable50 rfl (Wt.plain rfl) rfl rfl (ithrough D g h n m k _ _ _ _ (nmI n m k p) _ _ _ _ J (ha.kept hH.keep) (hb.kept hH.keep) o1 hsec (by omega) (by omega)) ?_
    rintro _ wn ⟨rfl, hC⟩; replace hH := hH.call hC; clear hC
    refine WL.store2 ty77 rfl rfl rfl rfl (Wt.plain rfl) hH (fun wn hk hH => ?_)
    refine WL.next ?_
    refine WC.seq ?_
    refine WC.block ?_
    replace hH := hH.f2
    replace hH := hH.f2
    refine WC.loop (ι := Nat × (List (Nat × Nat))) (fun (y, L) => [(1, vptr b1 0), (3, vint n), (4, vint (m + k : Nat)), (5, vsl b23 (2 * n + 2 * (m + k)) (2 * n + 2 * (m + k))), (6, vint p), (7, vptr b7 0), (8, .bool (scd n m (D.nxt y))), (25, vint (2 * n + 2 * (m + k) : Nat)), (26, vint p)]) (fun (y, L) wn => Hp [] w wn [(b1, .cells #[vint n, vint m, vint k, .slice (some ⟨ba, oa, none⟩) (pairsI g).length cap, .slice (some ⟨bb, ob, none⟩) (pairsI h).length cap2] 57 (0, 0)), (b23, .cells cur23 3 (0, 0)), (b7, .cells #[vint (plc n m k (D.nxt y)).1, vint (plc n m k (D.nxt y)).2] 77 (0, 0))] ∧ D.FI (fun _ => true) (nmI n m k p) y L) (fun (y, L) => L.length) (((nmI n m k p), (way D.G (D.nm (nmI n m k p))).1)) (by exact ⟨rfl, rfl, rfl, rfl, rfl, rfl, congrArg (fun b => some (Value.bool b)) hsy, rfl, rfl, trivial⟩) ?_ ?_
    · exact ⟨hH, GD.FI.start hw o1 o2⟩
    rintro ⟨y, L⟩ wn ⟨hH, hF⟩
    have hyT := hF.yT
    obtain ⟨hx1, hx2, hx3⟩ := GD.nxt_ok hw y hyT
    have hpb := J.plc_bd hx1
    intro mu0 hmu; try dsimp only at hmu
    show WC _ _ _ _ [(1, vptr b1 0), (3, vint n), (4, vint (m + k : Nat)), (5, vsl b23 (2 * n + 2 * (m + k)) (2 * n + 2 * (m + k))), (6, vint p), (7, vptr b7 0), (8, .bool (scd n m (D.nxt y))), (25, vint (2 * n + 2 * (m + k) : Nat)), (26, vint p)] _
    refine WC.block ?_
    refine WC.seq ?_
    refine WC.region ?_
    refine WL.u rfl rfl (Wt.plain rfl) (Ex.move rfl) ?_
    replace hH := hH.f2
    refine WL.u rfl rfl (Wt.plain rfl) (Ex.loadHp2 Try.underlying77 ty77 rfl hH) ?_
    refine WL.call callable51 rfl (Wt.plain rfl) rfl rfl (icrosses D g h n m k (D.nxt y) _ _ _ _ J hx1 rfl rfl rfl) ?_
    rintro _ wn ⟨rfl, hC⟩; replace hH := hH.call hC; clear hC
    refine WL.u rfl rfl (Wt.plain rfl) (Ex.move rfl) ?_
    refine WL.u rfl rfl (Wt.plain rfl) (Ex.extract rfl rfl) ?_
    refine WL.u rfl rfl (Wt.plain rfl) (Ex.extract rfl rfl) ?_
    refine WL.alloc ty77 rfl rfl (Wt.plain rfl) hH (fun b10 wn hb10 hk10 hH => ?_)
    refine WL.u rfl rfl (Wt.plain rfl) (Ex.assign rfl) ?_
    refine WL.store2 ty77 rfl rfl rfl rfl (Wt.plain rfl) hH (fun wn hk hH => ?_)
    refine WL.next ?_
    refine WC.seq ?_
    refine WC.seq ?_
    refine WC.region ?_
    refine WL.u rfl rfl (Wt.plain rfl) (Ex.move rfl) ?_
    refine WL.u rfl rfl (Wt.plain rfl) (Ex.not rfl) ?_
    refine WL.next ?_
    refine WC.cond rfl (fun hc3 => ?_) (fun hc3 => ?_)
    · have hmx : D.isM (D.nxt y) = false := by simpa using hc3
      obtain ⟨hd1, _⟩ := hF.done hw hmx
      have hd2 : (way D.G p).2 = D.nm (D.nxt y) := by rw [o3] at hd1; exact hd1
      have hlv := J.leave hx1 hmx
      refine WC.exit ?_
      refine WN.exitThen ?_
      refine WN.exitOther rfl ?_
      refine WN.exitThen ?_
      refine WN.exitHere ?_
      refine WN.next ?_
      refine WC.seq ?_
      refine WC.seq ?_
      refine WC.region ?_
      refine WL.u rfl rfl (Wt.plain rfl) (Ex.move rfl) ?_
      refine WL.u rfl rfl (Wt.plain rfl) (Ex.move rfl) ?_
      refine WL.split (t := 79) rfl (fun hg15_1 => ?_) (fun hg15_1 => ?_)
      · have hg15_1' := hg15_1; try simp only [decide_eq_true_eq, decide_eq_false_iff_not, Bool.not_eq_true', Bool.not_eq_false', Bool.not_eq_true, Bool.not_eq_false] at hg15_1'
        refine WL.u rfl rfl (Wt.guard' rfl rfl rfl hg15_1 rfl) (Ex.fieldAddr fd77_0 rfl) ?_
        replace hH := hH.f1
        refine WL.u rfl rfl (Wt.guard' rfl rfl rfl hg15_1 rfl) (Ex.loadHp flat3 rfl hH rfl) ?_
        refine WL.u rfl rfl (Wt.guard' rfl rfl rfl hg15_1 rfl) (Ex.neq rfl rfl) ?_
        refine WL.u rfl rfl (Wt.plain rfl) (Ex.pickT rfl hg15_1 rfl) ?_
        refine WL.next ?_
        refine WC.cond rfl (fun hc4 => ?_) (fun hc4 => ?_)
        · have hc4' := hc4; try simp only [decide_eq_true_eq, decide_eq_false_iff_not, Bool.not_eq_true', Bool.not_eq_false', Bool.not_eq_true, Bool.not_eq_false] at hc4'
          rw [if_pos ⟨hg15_1, by omega⟩] at hlv
          refine WC.region ?_
          refine WL.u rfl rfl (Wt.plain rfl) (Ex.fieldAddr fd77_1 rfl) ?_
          refine WL.u rfl rfl (Wt.plain rfl) (Ex.loadHp flat3 rfl hH rfl) ?_
          refine WL.u rfl rfl (Wt.plain rfl) (Ex.fieldAddr fd57_1 rfl) ?_
          replace hH := hH.f2
          refine WL.u rfl rfl (Wt.plain rfl) (Ex.loadHp flat3 rfl hH rfl) ?_
          refine WL.u rfl rfl (Wt.plain rfl) (Ex.add rfl rfl (by omega)) ?_
          refine WL.u rfl rfl (Wt.plain rfl) (Ex.fieldAddr fd77_1 rfl) ?_
          replace hH := hH.f1
          refine WL.store1 ty3 rfl rfl rfl (Wt.plain rfl) hH (by first | decide | simp) rfl (fun wn hk hH => ?_)
          replace hH : Hp [] w wn ((b7, .cells #[vint (plc n m k (D.nxt y)).1, vint ((((plc n m k (D.nxt y)).2 : Nat) : Int) + (m : Int))] 77 (0, 0)) :: _) := hH
          refine WL.next ?_
          refine WC.region ?_
          refine WL.u rfl rfl (Wt.plain rfl) (Ex.move rfl) ?_
          refine WL.u rfl rfl (Wt.plain rfl) (Ex.move rfl) ?_
          refine WL.u rfl rfl (Wt.plain rfl) (Ex.move rfl) ?_
          refine WL.u rfl rfl (Wt.plain rfl) (Ex.move rfl) ?_
          refine WL.u rfl rfl (Wt.plain rfl) (Ex.loadHp2 Try.underlying77 ty77 rfl hH) ?_
          refine WL.call callable53 rfl (Wt.plain rfl) rfl rfl (iportOf n (m + k) _ _ _ hn5 (by omega) (by omega)) ?_
          rintro _ wn ⟨rfl, hC⟩; replace hH := hH.call hC; clear hC
          rw [hlv]
          refine WL.u rfl rfl (Wt.plain rfl) (Ex.indexAddr Try.underlying22 ty3 rfl rfl (by omega)) ?_
          replace hH := hH.f3
          refine WL.store1 ty3 rfl rfl rfl (Wt.plain rfl) hH (ho23.idx rfl (by omega)) (by simp) (fun wn hk hH => ?_)
          replace ho23 := ho23.set rfl p ((D.nm (D.nxt y) : Nat) : Int)
          refine WL.last ?_
          refine WN.normalBlock ?_
          refine WN.next ?_
          refine WC.region ?_
          refine WL.u rfl rfl (Wt.plain rfl) (Ex.add rfl rfl (by omega)) ?_
          refine WL.u rfl rfl (Wt.plain rfl) (Ex.move rfl) ?_
          refine WL.last ?_
          replace hH := hH.f2
          replace hH := hH.first2
          refine WN.round (p + 1, cur23.setIfInBounds (0 + (p : Int).toNat * 1) (rInt.val ((D.nm (D.nxt y) : Nat) : Int)), out.set p ((D.nm (D.nxt y) : Nat) : Int)) (by exact ⟨rfl, rfl, rfl, rfl, rfl, rfl, trivial⟩) ?_ ?_
          · exact ⟨hH, ho23, by rw [List.length_set]; exact hol, fun q hq => (by
              rw [gset _ _ _ _ (by omega)]
              by_cases e : q = p
              · rw [if_pos e, e, hd2]
              · rw [if_neg e]
                exact hO q (by omega)), by omega⟩
          · (try dsimp only); omega
        have hc4' := hc4; try simp only [decide_eq_true_eq, decide_eq_false_iff_not, Bool.not_eq_true', Bool.not_eq_false', Bool.not_eq_true, Bool.not_eq_false] at hc4'
        rw [if_neg (fun q => by omega)] at hlv
        refine WC.skip ?_
        refine WN.next ?_
        refine WC.region ?_
        refine WL.u rfl rfl (Wt.plain rfl) (Ex.move rfl) ?_
        refine WL.u rfl rfl (Wt.plain rfl) (Ex.move rfl) ?_
        refine WL.u rfl rfl (Wt.plain rfl) (Ex.move rfl) ?_
        refine WL.u rfl rfl (Wt.plain rfl) (Ex.move rfl) ?_
        refine WL.u rfl rfl (Wt.plain rfl) (Ex.loadHp2 Try.underlying77 ty77 rfl hH) ?_
        refine WL.call callable53 rfl (Wt.plain rfl) rfl rfl (iportOf n (m + k) _ _ _ hn5 (by omega) (by omega)) ?_
        rintro _ wn ⟨rfl, hC⟩; replace hH := hH.call hC; clear hC
        rw [hlv]
        refine WL.u rfl rfl (Wt.plain rfl) (Ex.indexAddr Try.underlying22 ty3 rfl rfl (by omega)) ?_
        replace hH := hH.f3
        refine WL.store1 ty3 rfl rfl rfl (Wt.plain rfl) hH (ho23.idx rfl (by omega)) (by simp) (fun wn hk hH => ?_)
        replace ho23 := ho23.set rfl p ((D.nm (D.nxt y) : Nat) : Int)
        refine WL.last ?_
        refine WN.normalBlock ?_
        refine WN.next ?_
        refine WC.region ?_
        refine WL.u rfl rfl (Wt.plain rfl) (Ex.add rfl rfl (by omega)) ?_
        refine WL.u rfl rfl (Wt.plain rfl) (Ex.move rfl) ?_
        refine WL.last ?_
        replace hH := hH.f3
        replace hH := hH.first2
        refine WN.round (p + 1, cur23.setIfInBounds (0 + (p : Int).toNat * 1) (rInt.val ((D.nm (D.nxt y) : Nat) : Int)), out.set p ((D.nm (D.nxt y) : Nat) : Int)) (by exact ⟨rfl, rfl, rfl, rfl, rfl, rfl, trivial⟩) ?_ ?_
        · exact ⟨hH, ho23, by rw [List.length_set]; exact hol, fun q hq => (by
            rw [gset _ _ _ _ (by omega)]
            by_cases e : q = p
            · rw [if_pos e, e, hd2]
            · rw [if_neg e]
              exact hO q (by omega)), by omega⟩
        · (try dsimp only); omega
      have hs0 : scd n m (D.nxt y) = false := hg15_1
      rw [if_neg (fun q => by rw [hs0] at q; cases q.1)] at hlv
      refine WL.pass rfl rfl (Wt.guard' rfl rfl rfl hg15_1 rfl) ?_
      refine WL.pass rfl rfl (Wt.guard' rfl rfl rfl hg15_1 rfl) ?_
      refine WL.pass rfl rfl (Wt.guard' rfl rfl rfl hg15_1 rfl) ?_
      refine WL.u rfl rfl (Wt.plain rfl) (Ex.pickF rfl hg15_1 rfl) ?_
      refine WL.next ?_
      refine WC.condF rfl rfl ?_
      refine WC.skip ?_
      refine WN.next ?_
      refine WC.region ?_
      refine WL.u rfl rfl (Wt.plain rfl) (Ex.move rfl) ?_
      refine WL.u rfl rfl (Wt.plain rfl) (Ex.move rfl) ?_
      refine WL.u rfl rfl (Wt.plain rfl) (Ex.move rfl) ?_
      refine WL.u rfl rfl (Wt.plain rfl) (Ex.move rfl) ?_
      replace hH := hH.f1
      refine WL.u rfl rfl (Wt.plain rfl) (Ex.loadHp2 Try.underlying77 ty77 rfl hH) ?_
      refine WL.call callable53 rfl (Wt.plain rfl) rfl rfl (iportOf n (m + k) _ _ _ hn5 (by omega) (by omega)) ?_
      rintro _ wn ⟨rfl, hC⟩; replace hH := hH.call hC; clear hC
      rw [hlv]
      refine WL.u rfl rfl (Wt.plain rfl) (Ex.indexAddr Try.underlying22 ty3 rfl rfl (by omega)) ?_
      replace hH := hH.f3
      refine WL.store1 ty3 rfl rfl rfl (Wt.plain rfl) hH (ho23.idx rfl (by omega)) (by simp) (fun wn hk hH => ?_)
      replace ho23 := ho23.set rfl p ((D.nm (D.nxt y) : Nat) : Int)
      refine WL.last ?_
      refine WN.normalBlock ?_
      refine WN.next ?_
      refine WC.region ?_
      refine WL.u rfl rfl (Wt.plain rfl) (Ex.add rfl rfl (by omega)) ?_
      refine WL.u rfl rfl (Wt.plain rfl) (Ex.move rfl) ?_
      refine WL.last ?_
      replace hH := hH.f3
      replace hH := hH.first2
      refine WN.round (p + 1, cur23.setIfInBounds (0 + (p : Int).toNat * 1) (rInt.val ((D.nm (D.nxt y) : Nat) : Int)), out.set p ((D.nm (D.nxt y) : Nat) : Int)) (by exact ⟨rfl, rfl, rfl, rfl, rfl, rfl, trivial⟩) ?_ ?_
      · exact ⟨hH, ho23, by rw [List.length_set]; exact hol, fun q hq => (by
          rw [gset _ _ _ _ (by omega)]
          by_cases e : q = p
          · rw [if_pos e, e, hd2]
          · rw [if_neg e]
            exact hO q (by omega)), by omega⟩
      · (try dsimp only); omega
    have hmx : D.isM (D.nxt y) = true := by simpa using hc3
    obtain ⟨L2, hL2, hF2⟩ := hF.step hw hmx (S' := fun _ => true) (fun _ _ => rfl) rfl
    obtain ⟨ms1, ms2, ms3, ms4⟩ := J.mt_side hx1 hmx
    obtain ⟨mt1, mt2, _⟩ := hw.mtM _ hx1 hmx
    have hsy2 : (!scd n m (D.nxt y)) = scd n m (D.nxt (D.mt (D.nxt y))) := ms1.symm.trans (J.nxt_side mt1).symm
    rw [crp_M hmx] at hH ⊢
    refine WC.skip ?_
    refine WN.next ?_
    refine WC.seq ?_
    refine WC.region ?_
    refine WL.u rfl rfl (Wt.plain rfl) (Ex.move rfl) ?_
    refine WL.u rfl rfl (Wt.plain rfl) (Ex.not rfl) ?_
    refine WL.u rfl rfl (Wt.plain rfl) (Ex.assign rfl) ?_
    refine WL.next ?_
    refine WC.region ?_
    replace hH := hH.f2
    refine WL.u rfl rfl (Wt.plain rfl) (Ex.loadHp5 Try.underlying57 ty57 rfl hH) ?_
    refine WL.u rfl rfl (Wt.plain rfl) (Ex.move rfl) ?_
    replace hH := hH.f1
    refine WL.u rfl rfl (Wt.plain rfl) (Ex.loadHp2 Try.underlying77 ty77 rfl hH) ?_
    refine WL.call callable50 rfl (Wt.plain rfl) rfl rfl (ithrough D g h n m k _ _ _ _ (D.mt (D.nxt y)) _ _ _ _ J (ha.kept hH.keep) (hb.kept hH.keep) mt1 ms1.symm rfl rfl) ?_
    rintro _ wn ⟨rfl, hC⟩; replace hH := hH.call hC; clear hC
    replace hH := hH.f2
    refine WL.store2 ty77 rfl rfl rfl rfl (Wt.plain rfl) hH (fun wn hk hH => ?_)
    refine WL.last ?_
    refine WN.normalBlock ?_
    replace hH := hH.f3
    replace hH := hH.f3
    replace hH := hH.first3
    refine WN.round (D.mt (D.nxt y), L2) (by exact ⟨rfl, rfl, rfl, rfl, rfl, rfl, congrArg (fun b => some (Value.bool b)) hsy2, rfl, rfl, trivial⟩) ?_ ?_
    · exact ⟨hH, hF2⟩
    · (try dsimp only); omega
  have hc1' := hc1; try simp only [decide_eq_true_eq, decide_eq_false_iff_not, Bool.not_eq_true', Bool.not_eq_false', Bool.not_eq_true, Bool.not_eq_false] at hc1'
  have hie : p = ports D.G := by omega
  have hout : out = pairsI D.G := ext_int (by rw [pairsI_len, hol, hpG]; omega) (fun q hq => by
    have hq2 : q < ports D.G := by omega
    rw [hO q (by omega), pairsI_get _ hq2])
  refine WC.exit ?_
  refine WN.exitThen ?_
  refine WN.exitThen ?_
  refine WN.exitHere ?_
  refine WN.next ?_
  refine WC.seq ?_
  refine WC.region ?_
  refine WL.u rfl rfl (Wt.plain rfl) (Ex.move rfl) ?_
  refine WL.u rfl rfl (Wt.plain rfl) (Ex.assign rfl) ?_
  refine WL.next ?_
  refine WC.ret ?_
  refine WN.body1 rfl rfl ?_
  have hN := New.of (hH.front 1 rfl) ho23 (hH.base 1 rfl)
  rw [hol, hout] at hN
  exact ⟨hH.keep, hN⟩

end Go.Proofs.Ytmlkabddhdkpaaa

/- The rounds that come when two pairings are joined: the program's; columns of a grid joined one by one. -/
namespace Go.Proofs.Ytmlkabddhdkpaaa
set_option maxRecDepth 100000
set_option linter.unusedSimpArgs false
set_option linter.unusedVariables false
open Go Go.RowKit

set_option maxHeartbeats 4000000 in
theorem ijrounds (D : GD) (g h : Grid) (n m k : Nat) (a a2 : Option Addr) (cap cap2 : Nat) (w : World) (J : JF D g h n m k) (ha : Sl rInt w a (pairsI g)) (hb : Sl rInt w a2 (pairsI h)) : Fn Try.prog 37 [.agg #[vint n, vint m, vint k, .slice a (pairsI g).length cap, .slice a2 (pairsI h).length cap2]] w (fun v w1 => ∃ q : Nat, v = vint q ∧ Keep [] w w1 ∧ (rounds D.G).length = (rounds g).length + (rounds h).length + q) := by
  refine Fn.enter (n := 71) Try.func37 rfl rfl rfl ?_
  show WC _ _ _ _ [(0, .agg #[vint n, vint m, vint k, .slice a (pairsI g).length cap, .slice a2 (pairsI h).length cap2])] _
  have hH := Hp.start [] w
  have hw := J.w
  have hT := J.T
  have hn1 := J.n1
  have hn5 := J.n5
  have hm1 := J.m1
  have hk1 := J.k1
  have hmk := J.mkk
  have hpg := J.pg
  have hph := J.ph
  have hpG := J.pG
  have hal : (pairsI g).length = 2 * n + 2 * m := by rw [pairsI_len, hpg]
  have hbl : (pairsI h).length = 2 * n + 2 * k := by rw [pairsI_len, hph]
  obtain ⟨ba, oa, rfl⟩ := ha.addr (by omega)
  obtain ⟨bb, ob, rfl⟩ := hb.addr (by omega)
  obtain ⟨S0, R0, hO0⟩ := OI.start J
  refine WC.seq ?_
  refine WC.region ?_
  refine WL.box rfl rfl rfl (Wt.plain rfl) hH (fun b1 wn hb1 hk1 hH => ?_)
  refine WL.u rfl rfl (Wt.plain rfl) (Ex.assign rfl) ?_
  refine WL.next ?_
  refine WC.seq ?_
  refine WC.region ?_
  refine WL.u rfl rfl (Wt.plain rfl) (Ex.assign rfl) ?_
  refine WL.next ?_
  refine WC.seq ?_
  refine WC.region ?_
  refine WL.u rfl rfl (Wt.plain rfl) (Ex.fieldAddr fd57_0 rfl) ?_
  refine WL.u rfl rfl (Wt.plain rfl) (Ex.loadHp flat3 rfl hH rfl) ?_
  refine WL.makeSlice Try.underlying51 ty4 rfl rfl (by omega) (by omega) rfl (Wt.plain rfl) hH (fun b15 wn hb15 hk15 hH => ?_)
  have ho15 := Own.made rBool (z := .bool false) false rfl rfl (k := n) (by omega)
  refine WL.u rfl rfl (Wt.plain rfl) (Ex.assign rfl) ?_
  refine WL.next ?_
  refine WC.seq ?_
  refine WC.seq ?_
  refine WC.region ?_
  refine WL.u rfl rfl (Wt.plain rfl) (Ex.move rfl) ?_
  refine WL.u rfl rfl (Wt.plain rfl) (Ex.lenSl Try.underlying51 rfl) ?_
  refine WL.u rfl rfl (Wt.plain rfl) (Ex.move rfl) ?_
  refine WL.next ?_
  refine WC.block ?_
  replace hH := hH.f1
  refine WC.loop (ι := Nat × (Array Value) × (List Bool) × Nat) (fun (i, cur15, sn, q) => [(1, vptr b1 0), (3, vint q), (4, vsl b15 n n), (17, vint n), (18, vint i)]) (fun (i, cur15, sn, q) wn => Hp [] w wn [(b1, .cells #[vint n, vint m, vint k, .slice (some ⟨ba, oa, none⟩) (pairsI g).length cap, .slice (some ⟨bb, ob, none⟩) (pairsI h).length cap2] 57 (0, 0)), (b15, .cells cur15 4 (0, 0))] ∧ Own rBool cur15 n sn ∧ (∃ S R, OI D n m k S R sn q i) ∧ i ≤ n) (fun (i, cur15, sn, q) => n - i) ((0, madeCells (.bool false : Value).cells (n * 1), List.replicate n false, 0)) (by exact ⟨rfl, rfl, rfl, rfl, rfl, trivial⟩) ?_ ?_
  · exact ⟨hH, ho15, ⟨S0, R0, hO0⟩, Nat.zero_le _⟩
  rintro ⟨i, cur15, sn, q⟩ wn ⟨hH, ho15, ⟨Sx, Rx, hO⟩, hi⟩
  have hsl := hO.len
  have hqi := hO.qi
  intro mu0 hmu; try dsimp only at hmu
  show WC _ _ _ _ [(1, vptr b1 0), (3, vint q), (4, vsl b15 n n), (17, vint n), (18, vint i)] _
  refine WC.seq ?_
  refine WC.region ?_
  refine WL.u rfl rfl (Wt.plain rfl) (Ex.lss rfl rfl) ?_
  refine WL.next ?_
  refine WC.seq ?_
  refine WC.cond rfl (fun hc1 => ?_) (fun hc1 => ?_)
  · have hc1' := hc1; try simp only [decide_eq_true_eq, decide_eq_false_iff_not, Bool.not_eq_true', Bool.not_eq_false', Bool.not_eq_true, Bool.not_eq_false] at hc1'
    have hlt : i < n := by omega
    obtain ⟨g1, g2, g3, g4, g5⟩ := J.rowM hlt
    refine WC.skip ?_
    refine WN.next ?_
    refine WC.seq ?_
    refine WC.block ?_
    refine WC.seq ?_
    refine WC.region ?_
    refine WL.u rfl rfl (Wt.plain rfl) (Ex.move rfl) ?_
    refine WL.u rfl rfl (Wt.plain rfl) (Ex.assign rfl) ?_
    refine WL.next ?_
    refine WC.seq ?_
    refine WC.seq ?_
    refine WC.region ?_
    refine WL.u rfl rfl (Wt.plain rfl) (Ex.move rfl) ?_
    refine WL.u rfl rfl (Wt.plain rfl) (Ex.move rfl) ?_
    refine WL.u rfl rfl (Wt.plain rfl) (Ex.indexAddr Try.underlying51 ty4 rfl rfl (by omega)) ?_
    replace hH := hH.f1
    refine WL.u rfl rfl (Wt.plain rfl) (Ex.loadHp flat4 rfl hH (ho15.get rfl (getD_get sn i false (by omega)))) ?_
    refine WL.next ?_
    refine WC.cond rfl (fun hc2 => ?_) (fun hc2 => ?_)
    · have hc2' := hc2; try simp only [decide_eq_true_eq, decide_eq_false_iff_not, Bool.not_eq_true', Bool.not_eq_false', Bool.not_eq_true, Bool.not_eq_false] at hc2'
      refine WC.exit ?_
      refine WN.exitThen ?_
      refine WN.exitHere ?_
      refine WN.next ?_
      refine WC.region ?_
      refine WL.u rfl rfl (Wt.plain rfl) (Ex.add rfl rfl (by omega)) ?_
      refine WL.u rfl rfl (Wt.plain rfl) (Ex.move rfl) ?_
      refine WL.last ?_
      replace hH := hH.f1
      refine WN.round (i + 1, cur15, sn, q) (by exact ⟨rfl, rfl, rfl, rfl, rfl, trivial⟩) ?_ ?_
      · exact ⟨hH, ho15, ⟨Sx, Rx, hO.skip J hlt (.inl hc2)⟩, by omega⟩
      · (try dsimp only); omega
    obtain ⟨f0, hf0, hR0⟩ := RL.start J hO hlt hc2
    have hp1 : (plc n m k (m + i)).1 = 1 := by rw [g5]
    have hp2 : (plc n m k (m + i)).2 = i := by rw [g5]
    refine WC.skip ?_
    refine WN.next ?_
    refine WC.seq ?_
    refine WC.region ?_
    refine WL.u rfl rfl (Wt.plain rfl) (Ex.move rfl) ?_
    refine WL.u rfl rfl (Wt.plain rfl) (Ex.buildS bd77 rfl rfl rfl rfl rfl) ?_
    refine WL.alloc ty77 rfl rfl (Wt.plain rfl) hH (fun b6 wn hb6 hk6 hH => ?_)
    refine WL.store2 ty77 rfl rfl rfl rfl (Wt.plain rfl) hH (fun wn hk hH => ?_)
    refine WL.u rfl rfl (Wt.plain rfl) (Ex.assign rfl) ?_
    refine WL.next ?_
    refine WC.seq ?_
    refine WC.region ?_
    refine WL.u rfl rfl (Wt.plain rfl) (Ex.move rfl) ?_
    refine WL.lit Try.underlying22 ty3 rfl rfl rfl rfl rfl rfl rfl (Wt.plain rfl) hH (fun b28 wn hb28 hk28 hH => ?_)
    have ho28 := Own.nats1 i
    refine WL.u rfl rfl (Wt.plain rfl) (Ex.assign rfl) ?_
    refine WL.next ?_
    refine WC.block ?_
    replace hH := hH.f1
    replace hH := hH.f2
    replace hH := hH.f3
    refine WC.loop (ι := Nat × Nat × Nat × Nat × (Array Value) × (List Nat)) (fun (x, f, b28, cap28, cur28, met) => [(1, vptr b1 0), (3, vint q), (4, vsl b15 n n), (5, vint i), (6, vptr b6 0), (7, .bool (scd n m x)), (8, vsl b28 met.length cap28), (17, vint n), (18, vint i)]) (fun (x, f, b28, cap28, cur28, met) wn => Hp [] w wn [(b1, .cells #[vint n, vint m, vint k, .slice (some ⟨ba, oa, none⟩) (pairsI g).length cap, .slice (some ⟨bb, ob, none⟩) (pairsI h).length cap2] 57 (0, 0)), (b15, .cells cur15 4 (0, 0)), (b6, .cells #[vint (plc n m k x).1, vint (plc n m k x).2] 77 (0, 0)), (b28, .cells cur28 3 (0, 0))] ∧ Own rNat cur28 cap28 met ∧ RL D n m k Sx (m + i) x f met ∧ met.length + f ≤ 401) (fun (x, f, b28, cap28, cur28, met) => f) ((m + i, f0, b28, 1, #[vint i], [i])) (by exact ⟨rfl, rfl, rfl, rfl, rfl, congrArg (fun b => some (Value.bool b)) g3.symm, rfl, rfl, rfl, trivial⟩) ?_ ?_
    · refine ⟨?_, ho28, hR0, by simp; omega⟩
      rw [g5]
      exact hH
    rintro ⟨x, f, b28, cap28, cur28, met⟩ wn ⟨hH, ho28, hRL, hlen⟩
    have hxT := hRL.xT
    obtain ⟨hx1, hx2, hx3⟩ := GD.nxt_ok hw x hxT
    have hns := J.nxt_side hxT
    have hpb := J.plc_bd hx1
    intro mu0 hmu; try dsimp only at hmu
    show WC _ _ _ _ [(1, vptr b1 0), (3, vint q), (4, vsl b15 n n), (5, vint i), (6, vptr b6 0), (7, .bool (scd n m x)), (8, vsl b28 met.length cap28), (17, vint n), (18, vint i)] _
    refine WC.block ?_
    refine WC.seq ?_
    refine WC.region ?_
    refine WL.u rfl rfl (Wt.plain rfl) (Ex.loadHp5 Try.underlying57 ty57 rfl hH) ?_
    refine WL.u rfl rfl (Wt.plain rfl) (Ex.move rfl) ?_
    replace hH := hH.f2
    refine WL.u rfl rfl (Wt.plain rfl) (Ex.loadHp2 Try.underlying77 ty77 rfl hH) ?_
    refine WL.call callable50 rfl (Wt.plain rfl) rfl rfl (ithrough D g h n m k _ _ _ _ x _ _ _ _ J (ha.kept hH.keep) (hb.kept hH.keep) hxT rfl rfl rfl) ?_
    rintro _ wn ⟨rfl, hC⟩; replace hH := hH.call hC; clear hC
    refine WL.store2 ty77 rfl rfl rfl rfl (Wt.plain rfl) hH (fun wn hk hH => ?_)
    refine WL.next ?_
    refine WC.seq ?_
    refine WC.region ?_
    refine WL.u rfl rfl (Wt.plain rfl) (Ex.move rfl) ?_
    refine WL.u rfl rfl (Wt.plain rfl) (Ex.loadHp2 Try.underlying77 ty77 rfl hH) ?_
    refine WL.call callable51 rfl (Wt.plain rfl) rfl rfl (icrosses D g h n m k (D.nxt x) _ _ _ _ J hx1 hns.symm rfl rfl) ?_
    rintro _ wn ⟨rfl, hC⟩; replace hH := hH.call hC; clear hC
    refine WL.u rfl rfl (Wt.plain rfl) (Ex.move rfl) ?_
    refine WL.u rfl rfl (Wt.plain rfl) (Ex.extract rfl rfl) ?_
    refine WL.u rfl rfl (Wt.plain rfl) (Ex.extract rfl rfl) ?_
    refine WL.alloc ty77 rfl rfl (Wt.plain rfl) hH (fun b10 wn hb10 hk10 hH => ?_)
    refine WL.u rfl rfl (Wt.plain rfl) (Ex.assign rfl) ?_
    refine WL.store2 ty77 rfl rfl rfl rfl (Wt.plain rfl) hH (fun wn hk hH => ?_)
    refine WL.next ?_
    refine WC.seq ?_
    refine WC.seq ?_
    refine WC.region ?_
    refine WL.u rfl rfl (Wt.plain rfl) (Ex.move rfl) ?_
    refine WL.u rfl rfl (Wt.plain rfl) (Ex.not rfl) ?_
    refine WL.next ?_
    refine WC.cond rfl (fun hc3 => ?_) (fun hc3 => ?_)
    · have hmx : D.isM (D.nxt x) = false := by simpa using hc3
      have hbeam := hRL.exit J hmx
      refine WC.exit ?_
      refine WN.exitThen ?_
      refine WN.exitOther rfl ?_
      refine WN.exitThen ?_
      refine WN.exitHere ?_
      refine WN.normalBlock ?_
      refine WN.next ?_
      refine WC.region ?_
      refine WL.u rfl rfl (Wt.plain rfl) (Ex.add rfl rfl (by omega)) ?_
      refine WL.u rfl rfl (Wt.plain rfl) (Ex.move rfl) ?_
      refine WL.last ?_
      replace hH := hH.f3
      replace hH := hH.f3
      replace hH := hH.first2
      refine WN.round (i + 1, cur15, sn, q) (by exact ⟨rfl, rfl, rfl, rfl, rfl, trivial⟩) ?_ ?_
      · exact ⟨hH, ho15, ⟨Sx, Rx, hO.skip J hlt (.inr hbeam)⟩, by omega⟩
      · (try dsimp only); omega
    have hmx : D.isM (D.nxt x) = true := by simpa using hc3
    obtain ⟨hst1, hst2⟩ := RL.step J hO hlt hc2 hRL hmx
    obtain ⟨ms1, ms2, ms3, ms4⟩ := J.mt_side hx1 hmx
    obtain ⟨mt1, mt2, _⟩ := hw.mtM _ hx1 hmx
    rw [hns] at ms1
    have hsy2 : (!scd n m x) = scd n m (D.mt (D.nxt x)) := ms1.symm
    have hrow := (J.row_plc mt1 mt2).1
    rw [crp_M hmx] at hH ⊢
    refine WC.skip ?_
    refine WN.next ?_
    refine WC.seq ?_
    refine WC.region ?_
    refine WL.u rfl rfl (Wt.plain rfl) (Ex.move rfl) ?_
    refine WL.u rfl rfl (Wt.plain rfl) (Ex.not rfl) ?_
    refine WL.u rfl rfl (Wt.plain rfl) (Ex.assign rfl) ?_
    refine WL.next ?_
    refine WC.seq ?_
    refine WC.region ?_
    refine WL.u rfl rfl (Wt.plain rfl) (Ex.loadHp2 Try.underlying77 ty77 rfl hH) ?_
    replace hH := hH.f1
    refine WL.store2 ty77 rfl rfl rfl rfl (Wt.plain rfl) hH (fun wn hk hH => ?_)
    refine WL.next ?_
    refine WC.seq ?_
    refine WC.seq ?_
    refine WC.region ?_
    refine WL.u rfl rfl (Wt.plain rfl) (Ex.move rfl) ?_
    refine WL.u rfl rfl (Wt.plain rfl) (Ex.not rfl) ?_
    refine WL.u rfl rfl (Wt.plain rfl) (Ex.move rfl) ?_
    refine WL.split (t := 46) rfl (fun hg14_2 => ?_) (fun hg14_2 => ?_)
    · have hsx : scd n m (D.mt (D.nxt x)) = false := by rw [← hsy2]; simpa using hg14_2
      refine WL.u rfl rfl (Wt.guard' rfl rfl rfl hg14_2 rfl) (Ex.fieldAddr fd77_1 rfl) ?_
      refine WL.u rfl rfl (Wt.guard' rfl rfl rfl hg14_2 rfl) (Ex.loadHp flat3 rfl hH rfl) ?_
      refine WL.u rfl rfl (Wt.guard' rfl rfl rfl hg14_2 rfl) (Ex.move rfl) ?_
      refine WL.u rfl rfl (Wt.guard' rfl rfl rfl hg14_2 rfl) (Ex.eql rfl rfl) ?_
      refine WL.u rfl rfl (Wt.plain rfl) (Ex.pickT rfl hg14_2 rfl) ?_
      refine WL.next ?_
      refine WC.cond rfl (fun hc4 => ?_) (fun hc4 => ?_)
      · have hc4' := hc4; try simp only [decide_eq_true_eq, decide_eq_false_iff_not, Bool.not_eq_true', Bool.not_eq_false', Bool.not_eq_true, Bool.not_eq_false] at hc4'
        have hx0 : D.mt (D.nxt x) = m + i := J.closed mt1 mt2 hsx (by omega)
        obtain ⟨hmlt, hdone⟩ := hst2 hx0
        refine WC.seq ?_
        refine WC.region ?_
        refine WL.u rfl rfl (Wt.plain rfl) (Ex.move rfl) ?_
        refine WL.u rfl rfl (Wt.plain rfl) ((Ex.add rfl rfl (by omega)).to (congrArg (Value.int IntKind.i64) (show _ = ((q + 1 : Nat) : Int) by omega))) ?_
        refine WL.u rfl rfl (Wt.plain rfl) (Ex.assign rfl) ?_
        refine WL.next ?_
        refine WC.seq ?_
        refine WC.seq ?_
        refine WC.region ?_
        refine WL.u rfl rfl (Wt.plain rfl) (Ex.move rfl) ?_
        refine WL.u rfl rfl (Wt.plain rfl) (Ex.lenSl Try.underlying22 rfl) ?_
        refine WL.u rfl rfl (Wt.plain rfl) (Ex.move rfl) ?_
        refine WL.next ?_
        refine WC.block ?_
        replace hH := hH.f4
        replace hH := hH.f4
        replace hH := hH.f4
        refine WC.loop (ι := Nat × (Array Value) × (List Bool)) (fun (j, cur15, sn2) => [(1, vptr b1 0), (3, vint (q + 1 : Nat)), (4, vsl b15 n n), (54, vsl b28 met.length cap28), (55, vint met.length), (56, vint j), (17, vint n), (18, vint i)]) (fun (j, cur15, sn2) wn => Hp [] w wn [(b1, .cells #[vint n, vint m, vint k, .slice (some ⟨ba, oa, none⟩) (pairsI g).length cap, .slice (some ⟨bb, ob, none⟩) (pairsI h).length cap2] 57 (0, 0)), (b15, .cells cur15 4 (0, 0)), (b28, .cells cur28 3 (0, 0))] ∧ Own rBool cur15 n sn2 ∧ sn2.length = n ∧ (∀ r, sn2.getD r false = true ↔ sn.getD r false = true ∨ r ∈ met.take j) ∧ j ≤ met.length) (fun (j, cur15, sn2) => met.length - j) ((0, cur15, sn)) (by exact ⟨rfl, rfl, rfl, rfl, rfl, rfl, rfl, rfl, trivial⟩) ?_ ?_
        · exact ⟨hH.first3, ho15, hsl, fun r => by rw [List.take_zero]; simp, Nat.zero_le _⟩
        rintro ⟨j, cur15, sn2⟩ wn ⟨hH, ho15, hs2, hM, hj⟩
        intro mu0 hmu; try dsimp only at hmu
        show WC _ _ _ _ [(1, vptr b1 0), (3, vint (q + 1 : Nat)), (4, vsl b15 n n), (54, vsl b28 met.length cap28), (55, vint met.length), (56, vint j), (17, vint n), (18, vint i)] _
        refine WC.seq ?_
        refine WC.region ?_
        refine WL.u rfl rfl (Wt.plain rfl) (Ex.lss rfl rfl) ?_
        refine WL.next ?_
        refine WC.seq ?_
        refine WC.cond rfl (fun hc5 => ?_) (fun hc5 => ?_)
        · have hc5' := hc5; try simp only [decide_eq_true_eq, decide_eq_false_iff_not, Bool.not_eq_true', Bool.not_eq_false', Bool.not_eq_true, Bool.not_eq_false] at hc5'
          have hjl : j < met.length := by omega
          have hgj := getD_get met j 0 hjl
          have hgn := hmlt _ (List.mem_of_getElem? hgj)
          refine WC.skip ?_
          refine WN.next ?_
          refine WC.seq ?_
          refine WC.block ?_
          refine WC.seq ?_
          refine WC.region ?_
          refine WL.u rfl rfl (Wt.plain rfl) (Ex.indexAddr Try.underlying22 ty3 rfl rfl (by omega)) ?_
          replace hH := hH.f2
          refine WL.u rfl rfl (Wt.plain rfl) (Ex.loadHp flat3 rfl hH (ho28.get rfl (getD_get met j 0 hjl))) ?_
          refine WL.u rfl rfl (Wt.plain rfl) (Ex.assign rfl) ?_
          refine WL.next ?_
          refine WC.region ?_
          refine WL.u rfl rfl (Wt.plain rfl) (Ex.move rfl) ?_
          refine WL.u rfl rfl (Wt.plain rfl) (Ex.move rfl) ?_
          refine WL.u rfl rfl (Wt.plain rfl) (Ex.indexAddr Try.underlying51 ty4 rfl rfl (by omega)) ?_
          replace hH := hH.f2
          refine WL.store1 ty4 rfl rfl rfl (Wt.plain rfl) hH (ho15.idx rfl (by omega)) (by simp) (fun wn hk hH => ?_)
          replace ho15 := ho15.set rfl (met.getD j 0) true
          refine WL.last ?_
          refine WN.normalBlock ?_
          refine WN.next ?_
          refine WC.region ?_
          refine WL.u rfl rfl (Wt.plain rfl) (Ex.add rfl rfl (by omega)) ?_
          refine WL.u rfl rfl (Wt.plain rfl) (Ex.move rfl) ?_
          refine WL.last ?_
          replace hH := hH.f1
          replace hH := hH.f1
          replace hH := hH.f2
          refine WN.round (j + 1, cur15.setIfInBounds (0 + ((met.getD j 0 : Nat) : Int).toNat * 1) (rBool.val true), sn2.set (met.getD j 0) true) (by exact ⟨rfl, rfl, rfl, rfl, rfl, rfl, rfl, rfl, trivial⟩) ?_ ?_
          · exact ⟨hH, ho15, by rw [List.length_set]; exact hs2, fun r => (by
              rw [bset sn2 _ _ (by omega), hM, take_snoc hgj, List.mem_append, List.mem_singleton, or_assoc]), by omega⟩
          · (try dsimp only); omega
        have hc5' := hc5; try simp only [decide_eq_true_eq, decide_eq_false_iff_not, Bool.not_eq_true', Bool.not_eq_false', Bool.not_eq_true, Bool.not_eq_false] at hc5'
        have hjl : j = met.length := by omega
        rw [hjl, List.take_length] at hM
        obtain ⟨S2, R2, hO2⟩ := hdone sn2 hs2 hM
        refine WC.exit ?_
        refine WN.exitThen ?_
        refine WN.exitThen ?_
        refine WN.exitHere ?_
        refine WN.next ?_
        refine WC.exit ?_
        refine WN.exitThen ?_
        refine WN.exitOther rfl ?_
        refine WN.exitThen ?_
        refine WN.exitHere ?_
        refine WN.normalBlock ?_
        refine WN.next ?_
        refine WC.region ?_
        refine WL.u rfl rfl (Wt.plain rfl) (Ex.add rfl rfl (by omega)) ?_
        refine WL.u rfl rfl (Wt.plain rfl) (Ex.move rfl) ?_
        refine WL.last ?_
        replace hH := hH.f1
        replace hH := hH.f1
        replace hH := hH.first2
        refine WN.round (i + 1, cur15, sn2, q + 1) (by exact ⟨rfl, rfl, rfl, rfl, rfl, trivial⟩) ?_ ?_
        · exact ⟨hH, ho15, ⟨S2, R2, hO2⟩, by omega⟩
        · clear hst1 hst2 hdone
          dsimp only
          omega
      have hc4' := hc4; try simp only [decide_eq_true_eq, decide_eq_false_iff_not, Bool.not_eq_true', Bool.not_eq_false', Bool.not_eq_true, Bool.not_eq_false] at hc4'
      have hne : D.mt (D.nxt x) ≠ m + i := fun e => by
        rw [e, g5] at hc4'
        exact hc4' rfl
      obtain ⟨f2, hf2, hRL2⟩ := hst1 hne
      rw [← hrow] at hRL2
      refine WC.skip ?_
      refine WN.next ?_
      refine WC.region ?_
      refine WL.u rfl rfl (Wt.plain rfl) (Ex.move rfl) ?_
      refine WL.u rfl rfl (Wt.plain rfl) (Ex.fieldAddr fd77_1 rfl) ?_
      refine WL.u rfl rfl (Wt.plain rfl) (Ex.loadHp flat3 rfl hH rfl) ?_
      replace hH := hH.f4
      refine WL.append1 (r := rNat) (u := (plc n m k (D.mt (D.nxt x))).2) Try.underlying22 ty3 rfl rfl (fun _ => rfl) (fun _ => rfl) rfl rfl (Wt.plain rfl) (fun _ => (Wt.plain rfl)) hH ho28 rfl (by omega) (by omega) (fun b28 cap28 cur28 wn x28 hb28 hk28 hH ho28 => ?_)
      refine WL.u rfl rfl (Wt.plain rfl) (Ex.assign rfl) ?_
      refine WL.last ?_
      refine WN.normalBlock ?_
      replace hH := hH.f1
      replace hH := hH.f4
      replace hH := hH.f4
      replace hH := hH.first4
      refine WN.round (D.mt (D.nxt x), f2, b28, cap28, cur28, met ++ [(plc n m k (D.mt (D.nxt x))).2]) (by exact ⟨rfl, rfl, rfl, rfl, rfl, congrArg (fun b => some (Value.bool b)) hsy2, rfl, rfl, rfl, trivial⟩) ?_ ?_
      · exact ⟨hH, ho28, hRL2, by simp; omega⟩
      · (try dsimp only); omega
    have hne : D.mt (D.nxt x) ≠ m + i := fun e => by
      have e2 := hsy2
      rw [e, g3] at e2
      rw [e2] at hg14_2
      cases hg14_2
    obtain ⟨f2, hf2, hRL2⟩ := hst1 hne
    rw [← hrow] at hRL2
    refine WL.pass rfl rfl (Wt.guard' rfl rfl rfl hg14_2 rfl) ?_
    refine WL.pass rfl rfl (Wt.guard' rfl rfl rfl hg14_2 rfl) ?_
    refine WL.pass rfl rfl (Wt.guard' rfl rfl rfl hg14_2 rfl) ?_
    refine WL.pass rfl rfl (Wt.guard' rfl rfl rfl hg14_2 rfl) ?_
    refine WL.u rfl rfl (Wt.plain rfl) (Ex.pickF rfl hg14_2 rfl) ?_
    refine WL.next ?_
    refine WC.condF rfl rfl ?_
    refine WC.skip ?_
    refine WN.next ?_
    refine WC.region ?_
    refine WL.u rfl rfl (Wt.plain rfl) (Ex.move rfl) ?_
    refine WL.u rfl rfl (Wt.plain rfl) (Ex.fieldAddr fd77_1 rfl) ?_
    refine WL.u rfl rfl (Wt.plain rfl) (Ex.loadHp flat3 rfl hH rfl) ?_
    replace hH := hH.f4
    refine WL.append1 (r := rNat) (u := (plc n m k (D.mt (D.nxt x))).2) Try.underlying22 ty3 rfl rfl (fun _ => rfl) (fun _ => rfl) rfl rfl (Wt.plain rfl) (fun _ => (Wt.plain rfl)) hH ho28 rfl (by omega) (by omega) (fun b28 cap28 cur28 wn x28 hb28 hk28 hH ho28 => ?_)
    refine WL.u rfl rfl (Wt.plain rfl) (Ex.assign rfl) ?_
    refine WL.last ?_
    refine WN.normalBlock ?_
    replace hH := hH.f1
    replace hH := hH.f4
    replace hH := hH.f4
    replace hH := hH.first4
    refine WN.round (D.mt (D.nxt x), f2, b28, cap28, cur28, met ++ [(plc n m k (D.mt (D.nxt x))).2]) (by exact ⟨rfl, rfl, rfl, rfl, rfl, congrArg (fun b => some (Value.bool b)) hsy2, rfl, rfl, rfl, trivial⟩) ?_ ?_
    · exact ⟨hH, ho28, hRL2, by simp; omega⟩
    · (try dsimp only); omega
  have hc1' := hc1; try simp only [decide_eq_true_eq, decide_eq_false_iff_not, Bool.not_eq_true', Bool.not_eq_false', Bool.not_eq_true, Bool.not_eq_false] at hc1'
  have hie : i = n := by omega
  rw [hie] at hO
  have hgl := hO.done J
  refine WC.exit ?_
  refine WN.exitThen ?_
  refine WN.exitThen ?_
  refine WN.exitHere ?_
  refine WN.next ?_
  refine WC.seq ?_
  refine WC.region ?_
  refine WL.u rfl rfl (Wt.plain rfl) (Ex.move rfl) ?_
  refine WL.u rfl rfl (Wt.plain rfl) (Ex.assign rfl) ?_
  refine WL.next ?_
  refine WC.ret ?_
  refine WN.body1 rfl rfl ?_
  exact ⟨q, rfl, hH.keep, hgl⟩

end Go.Proofs.Ytmlkabddhdkpaaa
