/- The law: few mirrors are enough for empty grids. -/
import Derived.Test.YtjejdebmlgjdeaaAimE
import Derived.Test.YtjejdebmlgjdeaaLawAM
namespace Go.Proofs.Ytjejdebmlgjdeaa
set_option maxRecDepth 100000
set_option linter.unusedSimpArgs false
set_option linter.unusedVariables false
open Go Go.RowKit
theorem results_tmp4 {fn : Func} {t u s q : Tmp} (h : fn.results = #[.tmp t, .tmp u, .tmp s, .tmp q]) (tmps : Array Value) (P : Program) (w : World) :
    (results fn tmps).run P w = .ok (.tuple #[tmps.getD t undef, tmps.getD u undef, tmps.getD s undef, tmps.getD q undef]) w := by
  simp [results, h]
theorem WN.body4 {P : Program} {n : Nat} {σ : Env} {w : World} {fn : Func} {S : Value → World → Prop} {t u s q : Nat} {v v' v'' v3 : Value} (hr : fn.results = #[.tmp t, .tmp u, .tmp s, .tmp q]) (hv : look σ t = some v) (hv' : look σ u = some v') (hv'' : look σ s = some v'') (hv3 : look σ q = some v3) (h : S (.tuple #[v, v', v'', v3]) w) : WN n (bodyPost P fn (Ret S) .ret) σ w :=
  fun a ha => ⟨ha.defers, _, by rw [results_tmp4 hr, ha.val t v hv, ha.val u v' hv', ha.val s v'' hv'', ha.val q v3 hv3], h⟩
theorem row_fin {X Y a b : Bool} (h : a ≠ b) (hx : X = a) (hy : Y = b) : (X != Y) = true := by rw [hx, hy]; simpa using h

theorem sDrawAimEmpty (a : Option Addr) (l : List UInt8) (cap : Nat) (w : World) (hc : Sl rByte w a l) (hcap : l.length ≤ cap) : Fn Try.prog 24 [.slice a l.length cap] w (fun v w1 => ∃ (n m : Nat) (p q : Int), v = .tuple #[vint n, vint m, vint p, vint q] ∧ Keep [] w w1 ∧ 1 ≤ n ∧ n ≤ 3 ∧ 1 ≤ m ∧ m ≤ 3) := by
  refine Fn.enter (n := 42) Try.func24 rfl rfl rfl ?_
  show WC _ _ _ _ [(0, .slice a l.length cap)] _
  have hH := Hp.start [] w
  replace hc := hc.take 2000
  have hl := List.length_take_le 2000 l
  refine WC.seq ?_
  refine WC.region ?_
  refine WL.u rfl rfl (Wt.plain rfl) (Ex.assign rfl) ?_
  refine WL.u rfl rfl (Wt.plain rfl) (Ex.assign rfl) ?_
  refine WL.u rfl rfl (Wt.plain rfl) (Ex.assign rfl) ?_
  refine WL.u rfl rfl (Wt.plain rfl) (Ex.assign rfl) ?_
  refine WL.next ?_
  refine WC.seq ?_
  refine WC.region ?_
  refine WL.u rfl rfl (Wt.plain rfl) (Ex.move rfl) ?_
  refine WL.call callable59 rfl (Wt.plain rfl) rfl rfl (sl6Open _ _ _ _ hcap) ?_
  rintro _ wn ⟨r, rfl, hrn, hC, hro⟩; have hca := (hc.kept hH.keep).offNew hrn; replace hH := hH.push hC hrn hro; clear hC hro
  refine WL.u rfl rfl (Wt.plain rfl) (Ex.assign rfl) ?_
  refine WL.next ?_
  refine WC.seq ?_
  refine WC.region ?_
  refine WL.u rfl rfl (Wt.plain rfl) (Ex.move rfl) ?_
  refine WL.call callable60 rfl (Wt.plain rfl) rfl rfl (spick _ _ _ _ _ 3 _ (hH.at 0 rfl) (hc.kept hH.keep) hca hl (by omega) (by omega)) ?_
  rintro _ wn ⟨k14, rfl, hk14, hKK, ho⟩; replace hH := hH.turn hKK ho; clear hKK ho
  refine WL.u rfl rfl (Wt.plain rfl) ((Ex.add rfl rfl (by omega)).to (congrArg (Value.int IntKind.i64) (show _ = ((1 + k14 : Nat) : Int) by omega))) ?_
  refine WL.u rfl rfl (Wt.plain rfl) (Ex.assign rfl) ?_
  refine WL.next ?_
  refine WC.seq ?_
  refine WC.region ?_
  refine WL.u rfl rfl (Wt.plain rfl) (Ex.move rfl) ?_
  refine WL.call callable60 rfl (Wt.plain rfl) rfl rfl (spick _ _ _ _ _ 3 _ (hH.at 0 rfl) (hc.kept hH.keep) hca hl (by omega) (by omega)) ?_
  rintro _ wn ⟨k17, rfl, hk17, hKK, ho⟩; replace hH := hH.turn hKK ho; clear hKK ho
  refine WL.u rfl rfl (Wt.plain rfl) ((Ex.add rfl rfl (by omega)).to (congrArg (Value.int IntKind.i64) (show _ = ((1 + k17 : Nat) : Int) by omega))) ?_
  refine WL.u rfl rfl (Wt.plain rfl) (Ex.assign rfl) ?_
  refine WL.next ?_
  refine WC.seq ?_
  refine WC.region ?_
  refine WL.u rfl rfl (Wt.plain rfl) (Ex.move rfl) ?_
  refine WL.u rfl rfl (Wt.plain rfl) (Ex.move rfl) ?_
  refine WL.call callable61 rfl (Wt.plain rfl) rfl rfl (sl2Ports (1 + k14) (1 + k17) _ (by omega) (by omega)) ?_
  rintro _ _ ⟨rfl, hw⟩; obtain rfl := hw.symm
  refine WL.u rfl rfl (Wt.plain rfl) (Ex.assign rfl) ?_
  refine WL.next ?_
  refine WC.seq ?_
  refine WC.region ?_
  refine WL.u rfl rfl (Wt.plain rfl) (Ex.move rfl) ?_
  refine WL.u rfl rfl (Wt.plain rfl) (Ex.move rfl) ?_
  refine WL.call callable60 rfl (Wt.plain rfl) rfl rfl (spick _ _ _ _ _ (2 * ((1 + k14) + (1 + k17))) _ (hH.at 0 rfl) (hc.kept hH.keep) hca hl (by omega) (by omega)) ?_
  rintro _ wn ⟨k24, rfl, hk24, hKK, ho⟩; replace hH := hH.turn hKK ho; clear hKK ho
  refine WL.u rfl rfl (Wt.plain rfl) (Ex.assign rfl) ?_
  refine WL.next ?_
  refine WC.seq ?_
  have hQ := hH
  refine WC.plan (Keep [r] _) [(0, true), (1, true), (2, true), (3, true), (4, true), (5, true), (6, true), (7, true), (10, true), (12, true), (8, false), (9, true), (11, true), (13, false), (14, true), (15, true), (16, true), (17, true), (18, true), (19, true), (20, true)] rfl (by kernel_rfl) (Keep.drew _ _) (fun hR => ?_)
  replace hH := hH.drew
  refine WPl.q rfl rfl rfl (Wt.plain rfl) (fun w hC => Ex.move rfl) ?_
  refine WPl.q rfl rfl rfl (Wt.plain rfl) (fun w hC => Ex.move rfl) ?_
  refine WPl.q rfl rfl rfl (Wt.plain rfl) (fun w hC => Ex.move rfl) ?_
  refine WPl.q rfl rfl rfl (Wt.plain rfl) (fun w hC => Ex.move rfl) ?_
  refine WPl.q rfl rfl rfl (Wt.plain rfl) (fun w hC => Ex.add rfl rfl (by omega)) ?_
  refine WPl.q rfl rfl rfl (Wt.plain rfl) (fun w hC => Ex.move rfl) ?_
  refine WPl.q rfl rfl rfl (Wt.plain rfl) (fun w hC => Ex.move rfl) ?_
  refine WPl.q rfl rfl rfl (Wt.plain rfl) (fun w hC => (Ex.sub rfl rfl (by omega)).to (congrArg (Value.int IntKind.i64) (show _ = ((2 * ((1 + k14) + (1 + k17)) - 1 : Nat) : Int) by omega))) ?_
  refine WPl.q rfl rfl rfl (Wt.plain rfl) (fun w hC => Ex.move rfl) ?_
  refine WPl.q rfl rfl rfl (Wt.plain rfl) (fun w hC => Ex.move rfl) ?_
  refine WPl.f rfl ?_
  refine WL.call callable60 rfl (Wt.plain rfl) rfl rfl (spick _ _ _ _ _ (2 * ((1 + k14) + (1 + k17)) - 1) _ (hH.at 0 rfl) (hc.kept hH.keep) hca hl (by omega) (by omega)) ?_
  rintro _ wn ⟨k33, rfl, hk33, hKK, ho⟩; replace hH := hH.turn hKK ho; replace hR := hR.trans hKK; clear hKK ho
  refine WPl.b hR ?_
  refine WPl.q rfl rfl rfl (Wt.plain rfl) (fun w hC => Ex.add rfl rfl (by omega)) ?_
  obtain ⟨km, hkm, hkm2⟩ := remN ((k24 : Int) + 1 + (k33 : Int)) (2 * ((1 + k14) + (1 + k17))) (by omega)
  refine WPl.q rfl rfl rfl (Wt.plain rfl) (fun w hC => (Ex.rem rfl rfl (by omega) (by omega)).to (congrArg (Value.int IntKind.i64) hkm)) ?_
  refine WPl.f rfl ?_
  refine WL.call callable60 rfl (Wt.plain rfl) rfl rfl (spick _ _ _ _ _ 40 _ (hH.at 0 rfl) (hc.kept hH.keep) hca hl (by omega) (by omega)) ?_
  rintro _ wn ⟨k38, rfl, hk38, hKK, ho⟩; replace hH := hH.turn hKK ho; replace hR := hR.trans hKK; clear hKK ho
  refine WPl.b hR ?_
  refine WPl.q rfl rfl rfl (Wt.plain rfl) (fun w hC => Ex.quo rfl rfl (by omega) (by omega)) ?_
  refine WPl.q rfl rfl rfl (Wt.plain rfl) (fun w hC => Ex.mul rfl rfl (by omega)) ?_
  refine WPl.q rfl rfl rfl (Wt.plain rfl) (fun w hC => Ex.sub rfl rfl (by omega)) ?_
  refine WPl.q rfl rfl rfl (Wt.plain rfl) (fun w hC => Ex.assign rfl) ?_
  refine WPl.q rfl rfl rfl (Wt.plain rfl) (fun w hC => Ex.assign rfl) ?_
  refine WPl.q rfl rfl rfl (Wt.plain rfl) (fun w hC => Ex.assign rfl) ?_
  refine WPl.q rfl rfl rfl (Wt.plain rfl) (fun w hC => Ex.assign rfl) ?_
  refine WPl.nil (fun hC => ?_); clear hC
  refine WN.next ?_
  refine WC.ret ?_
  refine WN.body4 rfl rfl rfl rfl rfl ?_
  exact ⟨1 + k14, 1 + k17, _, _, rfl, hH.keep, by omega, by omega, by omega, by omega⟩

set_option maxHeartbeats 2000000 in
theorem lawAimEmpty (a : Option Addr) (l : List UInt8) (cap : Nat) (w : World) (hc : Sl rByte w a l) (hcap : l.length ≤ cap) : Fn Try.prog 6 [.slice a l.length cap] w (fun v w1 => v = .bool true ∧ Keep [] w w1) := by
  refine Fn.enter (n := 124) Try.func6 rfl rfl rfl ?_
  show WC _ _ _ _ [(0, .slice a l.length cap)] _
  have hH := Hp.start [] w
  refine WC.seq ?_
  refine WC.region ?_
  refine WL.u rfl rfl (Wt.plain rfl) (Ex.assign rfl) ?_
  refine WL.next ?_
  refine WC.seq ?_
  refine WC.seq ?_
  refine WC.region ?_
  refine WL.u rfl rfl (Wt.plain rfl) (Ex.move rfl) ?_
  refine WL.u rfl rfl (Wt.plain rfl) (Ex.lenSl Try.underlying31 rfl) ?_
  refine WL.u rfl rfl (Wt.plain rfl) (Ex.gtr rfl rfl) ?_
  refine WL.next ?_
  refine WC.cond rfl (fun hc1 => ?_) (fun hc1 => ?_)
  · have hc1' := hc1; try simp only [decide_eq_true_eq, decide_eq_false_iff_not, Bool.not_eq_true', Bool.not_eq_false', Bool.not_eq_true, Bool.not_eq_false] at hc1'
    refine WC.seq ?_
    refine WC.region ?_
    refine WL.u rfl rfl (Wt.plain rfl) (Ex.assign rfl) ?_
    refine WL.next ?_
    refine WC.ret ?_
    refine WN.retThen ?_
    refine WN.body1 rfl rfl ?_
    exact ⟨rfl, hH.keep⟩
  have hc1' := hc1; try simp only [decide_eq_true_eq, decide_eq_false_iff_not, Bool.not_eq_true', Bool.not_eq_false', Bool.not_eq_true, Bool.not_eq_false] at hc1'
  refine WC.skip ?_
  refine WN.next ?_
  refine WC.seq ?_
  refine WC.region ?_
  refine WL.u rfl rfl (Wt.plain rfl) (Ex.move rfl) ?_
  refine WL.call callable24 rfl (Wt.plain rfl) rfl rfl (sDrawAimEmpty _ _ _ _ (hc.kept hH.keep) hcap) ?_
  rintro _ wn ⟨n, m, p, q, rfl, hC, hn1, hn3, hm1, hm3⟩; replace hH := hH.call hC; clear hC
  refine WL.u rfl rfl (Wt.plain rfl) (Ex.move rfl) ?_
  refine WL.u rfl rfl (Wt.plain rfl) (Ex.extract rfl rfl) ?_
  refine WL.u rfl rfl (Wt.plain rfl) (Ex.extract rfl rfl) ?_
  refine WL.u rfl rfl (Wt.plain rfl) (Ex.extract rfl rfl) ?_
  refine WL.u rfl rfl (Wt.plain rfl) (Ex.extract rfl rfl) ?_
  refine WL.u rfl rfl (Wt.plain rfl) (Ex.assign rfl) ?_
  refine WL.u rfl rfl (Wt.plain rfl) (Ex.assign rfl) ?_
  refine WL.u rfl rfl (Wt.plain rfl) (Ex.assign rfl) ?_
  refine WL.u rfl rfl (Wt.plain rfl) (Ex.assign rfl) ?_
  refine WL.next ?_
  refine WC.seq ?_
  rcases hx : aimEmpty n m p q with ⟨out, ok⟩
  refine WC.region ?_
  refine WL.u rfl rfl (Wt.plain rfl) (Ex.move rfl) ?_
  refine WL.u rfl rfl (Wt.plain rfl) (Ex.move rfl) ?_
  refine WL.u rfl rfl (Wt.plain rfl) (Ex.move rfl) ?_
  refine WL.u rfl rfl (Wt.plain rfl) (Ex.move rfl) ?_
  refine WL.call callable21 rfl (Wt.plain rfl) rfl rfl (iAimEmpty n m p q _) ?_
  rintro _ wn ⟨hv, hC⟩; rw [hx] at hv; dsimp only at hv; subst hv; replace hH := hH.call hC; clear hC
  refine WL.u rfl rfl (Wt.plain rfl) (Ex.move rfl) ?_
  refine WL.u rfl rfl (Wt.plain rfl) (Ex.extract rfl rfl) ?_
  refine WL.u rfl rfl (Wt.plain rfl) (Ex.extract rfl rfl) ?_
  refine WL.u rfl rfl (Wt.plain rfl) (Ex.assign rfl) ?_
  refine WL.u rfl rfl (Wt.plain rfl) (Ex.assign rfl) ?_
  refine WL.next ?_
  refine WC.seq ?_
  refine WC.region ?_
  refine WL.u rfl rfl (Wt.plain rfl) (Ex.move rfl) ?_
  refine WL.u rfl rfl (Wt.plain rfl) (Ex.move rfl) ?_
  refine WL.u rfl rfl (Wt.plain rfl) (Ex.move rfl) ?_
  refine WL.u rfl rfl (Wt.plain rfl) (Ex.move rfl) ?_
  refine WL.call callable20 rfl (Wt.plain rfl) rfl rfl (sAimEmpty n m p q _) ?_
  rintro _ wn ⟨hv, hC⟩; rw [hx] at hv; dsimp only at hv; subst hv; replace hH := hH.call hC; clear hC
  refine WL.u rfl rfl (Wt.plain rfl) (Ex.move rfl) ?_
  refine WL.u rfl rfl (Wt.plain rfl) (Ex.extract rfl rfl) ?_
  refine WL.u rfl rfl (Wt.plain rfl) (Ex.extract rfl rfl) ?_
  refine WL.u rfl rfl (Wt.plain rfl) (Ex.assign rfl) ?_
  refine WL.u rfl rfl (Wt.plain rfl) (Ex.assign rfl) ?_
  refine WL.next ?_
  refine WC.seq ?_
  refine WC.seq ?_
  refine WC.region ?_
  refine WL.u rfl rfl (Wt.plain rfl) (Ex.move rfl) ?_
  refine WL.u rfl rfl (Wt.plain rfl) (Ex.move rfl) ?_
  refine WL.u rfl rfl (Wt.plain rfl) (Ex.neqB Try.underlying4 rfl rfl) ?_
  refine WL.u rfl rfl (Wt.plain rfl) (Ex.move rfl) ?_
  refine WL.split (t := 44) rfl (fun hg6_3 => ?_) (fun hg6_3 => ?_)
  · exfalso; simp at hg6_3
  have hg6_3' := hg6_3; try simp only [decide_eq_true_eq, decide_eq_false_iff_not, Bool.not_eq_true', Bool.not_eq_false', Bool.not_eq_true, Bool.not_eq_false] at hg6_3'
  refine WL.u rfl rfl (Wt.guard' rfl rfl rfl hg6_3 rfl) (Ex.move rfl) ?_
  refine WL.u rfl rfl (Wt.guard' rfl rfl rfl hg6_3 rfl) (Ex.move rfl) ?_
  refine WL.u rfl rfl (Wt.guard' rfl rfl rfl hg6_3 rfl) (Ex.neq rfl rfl) ?_
  refine WL.u rfl rfl (Wt.plain rfl) (Ex.pickF rfl hg6_3 rfl) ?_
  refine WL.u rfl rfl (Wt.plain rfl) (Ex.move rfl) ?_
  refine WL.split (t := 49) rfl (fun hg6_8 => ?_) (fun hg6_8 => ?_)
  · exfalso; simp at hg6_8
  have hg6_8' := hg6_8; try simp only [decide_eq_true_eq, decide_eq_false_iff_not, Bool.not_eq_true', Bool.not_eq_false', Bool.not_eq_true, Bool.not_eq_false] at hg6_8'
  refine WL.u rfl rfl (Wt.guard' rfl rfl rfl hg6_8 rfl) (Ex.move rfl) ?_
  refine WL.u rfl rfl (Wt.guard' rfl rfl rfl hg6_8 rfl) (Ex.not rfl) ?_
  refine WL.u rfl rfl (Wt.plain rfl) (Ex.pickF rfl hg6_8 rfl) ?_
  refine WL.next ?_
  refine WC.cond rfl (fun hc2 => ?_) (fun hc2 => ?_)
  · have hc2' := hc2; try simp only [decide_eq_true_eq, decide_eq_false_iff_not, Bool.not_eq_true', Bool.not_eq_false', Bool.not_eq_true, Bool.not_eq_false] at hc2'
    refine WC.seq ?_
    refine WC.region ?_
    refine WL.u rfl rfl (Wt.plain rfl) (Ex.move rfl) ?_
    refine WL.u rfl rfl (Wt.plain rfl) (Ex.move rfl) ?_
    refine WL.u rfl rfl (Wt.plain rfl) (Ex.eqlB Try.underlying4 rfl rfl) ?_
    refine WL.u rfl rfl (Wt.plain rfl) (Ex.move rfl) ?_
    refine WL.split (t := 56) rfl (fun hg7_3 => ?_) (fun hg7_3 => ?_)
    · have hg7_3' := hg7_3; try simp only [decide_eq_true_eq, decide_eq_false_iff_not, Bool.not_eq_true', Bool.not_eq_false', Bool.not_eq_true, Bool.not_eq_false] at hg7_3'
      refine WL.u rfl rfl (Wt.guard' rfl rfl rfl hg7_3 rfl) (Ex.move rfl) ?_
      refine WL.u rfl rfl (Wt.guard' rfl rfl rfl hg7_3 rfl) (Ex.move rfl) ?_
      refine WL.u rfl rfl (Wt.guard' rfl rfl rfl hg7_3 rfl) (Ex.eql rfl rfl) ?_
      refine WL.u rfl rfl (Wt.plain rfl) (Ex.pickT rfl hg7_3 rfl) ?_
      refine WL.u rfl rfl (Wt.plain rfl) (Ex.assign rfl) ?_
      refine WL.next ?_
      refine WC.ret ?_
      refine WN.retThen ?_
      refine WN.body1 rfl rfl ?_
      exact ⟨congrArg Value.bool (decide_eq_true rfl), hH.keep⟩
    exfalso; simp at hg7_3
  have hc2' := hc2; try simp only [decide_eq_true_eq, decide_eq_false_iff_not, Bool.not_eq_true', Bool.not_eq_false', Bool.not_eq_true, Bool.not_eq_false] at hc2'
  have hok : ok = true := by simpa using hc2
  subst hok
  have hmb := Nat.mul_le_mul hn3 hm3
  have hmI : (n : Int) * (m : Int) = ((n * m : Nat) : Int) := (Int.natCast_mul n m).symm
  have hfw : fewB n m 9 = true := decide_eq_true (by omega)
  rw [aimEmpty_at hfw] at hx
  obtain ⟨p, q, rfl, rfl, hG, hp, hq, hpq, h9, rfl⟩ := aimGo_true hx
  rw [numG_ports m 0 hn1] at hp hq
  have hpp : p < ports (numG n m 0) := by rw [numG_ports m 0 hn1]; exact hp
  have hz := least_zero (q := q) hG hpp
  have hew := empty_way n (by omega) m (by omega) hn1 hm1 p hp
  rw [hew] at hz
  have hor := fun e => one_rows (q := q) hn1 (by omega) hm1 (by omega) (by omega) hp e
  refine WC.skip ?_
  refine WN.next ?_
  refine WC.seq ?_
  refine WC.region ?_
  refine WL.u rfl rfl (Wt.plain rfl) (Ex.move rfl) ?_
  refine WL.u rfl rfl (Wt.plain rfl) (Ex.move rfl) ?_
  refine WL.call callable25 rfl (Wt.plain rfl) rfl rfl (iJoinUnit n m _ hn1 (by omega) hm1 (by omega)) ?_
  rintro _ wn ⟨x, l2, rfl, hC, hN, hll, hl⟩; obtain ⟨b64, cap64, cur64, rfl, hge64, hbb64, ho64⟩ := hN.own; replace hH := hH.push hC hge64 hbb64; clear hC hN
  refine WL.u rfl rfl (Wt.plain rfl) (Ex.move rfl) ?_
  refine WL.u rfl rfl (Wt.plain rfl) (Ex.extract rfl rfl) ?_
  refine WL.u rfl rfl (Wt.plain rfl) (Ex.extract rfl rfl) ?_
  refine WL.u rfl rfl (Wt.plain rfl) (Ex.assign rfl) ?_
  refine WL.u rfl rfl (Wt.plain rfl) (Ex.assign rfl) ?_
  refine WL.next ?_
  refine WC.seq ?_
  refine WC.region ?_
  refine WL.u rfl rfl (Wt.plain rfl) (Ex.move rfl) ?_
  refine WL.u rfl rfl (Wt.plain rfl) (Ex.move rfl) ?_
  refine WL.u rfl rfl (Wt.plain rfl) (Ex.geq rfl rfl) ?_
  refine WL.u rfl rfl (Wt.plain rfl) (Ex.move rfl) ?_
  refine WL.split (t := 70) rfl (fun hg9_3 => ?_) (fun hg9_3 => ?_)
  · have hg9_3' := hg9_3; try simp only [decide_eq_true_eq, decide_eq_false_iff_not, Bool.not_eq_true', Bool.not_eq_false', Bool.not_eq_true, Bool.not_eq_false] at hg9_3'
    refine WL.u rfl rfl (Wt.guard' rfl rfl rfl hg9_3 rfl) (Ex.move rfl) ?_
    refine WL.u rfl rfl (Wt.guard' rfl rfl rfl hg9_3 rfl) (Ex.move rfl) ?_
    refine WL.u rfl rfl (Wt.guard' rfl rfl rfl hg9_3 rfl) (Ex.move rfl) ?_
    refine WL.u rfl rfl (Wt.guard' rfl rfl rfl hg9_3 rfl) (Ex.add rfl rfl (by omega)) ?_
    refine WL.u rfl rfl (Wt.guard' rfl rfl rfl hg9_3 rfl) (Ex.lss rfl rfl) ?_
    refine WL.u rfl rfl (Wt.plain rfl) (Ex.pickT rfl hg9_3 rfl) ?_
    refine WL.u rfl rfl (Wt.plain rfl) (Ex.move rfl) ?_
    refine WL.split (t := 77) rfl (fun hg9_10 => ?_) (fun hg9_10 => ?_)
    · have hg9_10' := hg9_10; try simp only [decide_eq_true_eq, decide_eq_false_iff_not, Bool.not_eq_true', Bool.not_eq_false', Bool.not_eq_true, Bool.not_eq_false] at hg9_10'
      refine WL.pass rfl rfl (Wt.guard' rfl rfl rfl hg9_10 rfl) ?_
      refine WL.pass rfl rfl (Wt.guard' rfl rfl rfl hg9_10 rfl) ?_
      refine WL.pass rfl rfl (Wt.guard' rfl rfl rfl hg9_10 rfl) ?_
      refine WL.pass rfl rfl (Wt.guard' rfl rfl rfl hg9_10 rfl) ?_
      refine WL.pass rfl rfl (Wt.guard' rfl rfl rfl hg9_10 rfl) ?_
      refine WL.pass rfl rfl (Wt.guard' rfl rfl rfl hg9_10 rfl) ?_
      refine WL.u rfl rfl (Wt.plain rfl) (Ex.pickT rfl hg9_10 rfl) ?_
      refine WL.u rfl rfl (Wt.plain rfl) (Ex.assign rfl) ?_
      refine WL.next ?_
      refine WC.seq ?_
      refine WC.region ?_
      refine WL.u rfl rfl (Wt.plain rfl) (Ex.move rfl) ?_
      refine WL.u rfl rfl (Wt.plain rfl) (Ex.move rfl) ?_
      refine WL.u rfl rfl (Wt.plain rfl) (Ex.geq rfl rfl) ?_
      refine WL.u rfl rfl (Wt.plain rfl) (Ex.move rfl) ?_
      refine WL.split (t := 88) rfl (fun hg10_3 => ?_) (fun hg10_3 => ?_)
      · have hg10_3' := hg10_3; try simp only [decide_eq_true_eq, decide_eq_false_iff_not, Bool.not_eq_true', Bool.not_eq_false', Bool.not_eq_true, Bool.not_eq_false] at hg10_3'
        refine WL.u rfl rfl (Wt.guard' rfl rfl rfl hg10_3 rfl) (Ex.move rfl) ?_
        refine WL.u rfl rfl (Wt.guard' rfl rfl rfl hg10_3 rfl) (Ex.move rfl) ?_
        refine WL.u rfl rfl (Wt.guard' rfl rfl rfl hg10_3 rfl) (Ex.move rfl) ?_
        refine WL.u rfl rfl (Wt.guard' rfl rfl rfl hg10_3 rfl) (Ex.add rfl rfl (by omega)) ?_
        refine WL.u rfl rfl (Wt.guard' rfl rfl rfl hg10_3 rfl) (Ex.lss rfl rfl) ?_
        refine WL.u rfl rfl (Wt.plain rfl) (Ex.pickT rfl hg10_3 rfl) ?_
        refine WL.u rfl rfl (Wt.plain rfl) (Ex.move rfl) ?_
        refine WL.split (t := 95) rfl (fun hg10_10 => ?_) (fun hg10_10 => ?_)
        · have hg10_10' := hg10_10; try simp only [decide_eq_true_eq, decide_eq_false_iff_not, Bool.not_eq_true', Bool.not_eq_false', Bool.not_eq_true, Bool.not_eq_false] at hg10_10'
          refine WL.pass rfl rfl (Wt.guard' rfl rfl rfl hg10_10 rfl) ?_
          refine WL.pass rfl rfl (Wt.guard' rfl rfl rfl hg10_10 rfl) ?_
          refine WL.pass rfl rfl (Wt.guard' rfl rfl rfl hg10_10 rfl) ?_
          refine WL.pass rfl rfl (Wt.guard' rfl rfl rfl hg10_10 rfl) ?_
          refine WL.pass rfl rfl (Wt.guard' rfl rfl rfl hg10_10 rfl) ?_
          refine WL.pass rfl rfl (Wt.guard' rfl rfl rfl hg10_10 rfl) ?_
          refine WL.u rfl rfl (Wt.plain rfl) (Ex.pickT rfl hg10_10 rfl) ?_
          refine WL.u rfl rfl (Wt.plain rfl) (Ex.assign rfl) ?_
          refine WL.next ?_
          refine WC.seq ?_
          refine WC.region ?_
          refine WL.u rfl rfl (Wt.plain rfl) (Ex.move rfl) ?_
          refine WL.u rfl rfl (Wt.plain rfl) (Ex.move rfl) ?_
          refine WL.u rfl rfl (Wt.guard' rfl rfl rfl (rfl) rfl) (Ex.move rfl) ?_
          refine WL.u rfl rfl (Wt.guard' rfl rfl rfl (rfl) rfl) (Ex.eql rfl rfl) ?_
          refine WL.u rfl rfl (Wt.guard' rfl rfl rfl (rfl) rfl) (Ex.move rfl) ?_
          refine WL.u rfl rfl (Wt.guard' rfl rfl rfl (rfl) rfl) (Ex.move rfl) ?_
          refine WL.u rfl rfl (Wt.guard' rfl rfl rfl (rfl) rfl) (Ex.indexAddr Try.underlying38 ty3 rfl rfl (by omega)) ?_
          refine WL.u rfl rfl (Wt.guard' rfl rfl rfl (rfl) rfl) (Ex.loadHp flat3 rfl hH (ho64.get rfl (getD_get l2 p 0 (by omega)))) ?_
          refine WL.u rfl rfl (Wt.guard' rfl rfl rfl (rfl) rfl) (Ex.move rfl) ?_
          refine WL.u rfl rfl (Wt.guard' rfl rfl rfl (rfl) rfl) (Ex.eql rfl rfl) ?_
          refine WL.u rfl rfl (Wt.guard' rfl rfl rfl (rfl) rfl) (Ex.eqlB Try.underlying4 rfl rfl) ?_
          refine WL.u rfl rfl (Wt.plain rfl) (Ex.pickT rfl (rfl) rfl) ?_
          refine WL.u rfl rfl (Wt.plain rfl) (Ex.move rfl) ?_
          refine WL.u rfl rfl (Wt.guard' rfl rfl rfl (by
            rw [beq_iff_eq]
            refine decide_eq_decide.2 ?_
            have := hl p hp
            omega) rfl) (Ex.move rfl) ?_
          refine WL.u rfl rfl (Wt.guard' rfl rfl rfl (by
            rw [beq_iff_eq]
            refine decide_eq_decide.2 ?_
            have := hl p hp
            omega) rfl) (Ex.neq rfl rfl) ?_
          refine WL.u rfl rfl (Wt.guard' rfl rfl rfl (by
            rw [beq_iff_eq]
            refine decide_eq_decide.2 ?_
            have := hl p hp
            omega) rfl) (Ex.move rfl) ?_
          refine WL.split (t := 118) rfl (fun hg11_15 => ?_) (fun hg11_15 => ?_)
          · have hg11_15' := hg11_15; try simp only [decide_eq_true_eq, decide_eq_false_iff_not, Bool.not_eq_true', Bool.not_eq_false', Bool.not_eq_true, Bool.not_eq_false] at hg11_15'
            refine WL.pass rfl rfl (Wt.guard' rfl rfl rfl hg11_15 rfl) ?_
            refine WL.pass rfl rfl (Wt.guard' rfl rfl rfl hg11_15 rfl) ?_
            refine WL.pass rfl rfl (Wt.guard' rfl rfl rfl hg11_15 rfl) ?_
            refine WL.u rfl rfl (Wt.guard' rfl rfl rfl (by
              rw [beq_iff_eq]
              refine decide_eq_decide.2 ?_
              have := hl p hp
              omega) rfl) (Ex.pickT rfl hg11_15 rfl) ?_
            refine WL.u rfl rfl (Wt.plain rfl) (Ex.pickT rfl (by
              rw [beq_iff_eq]
              refine decide_eq_decide.2 ?_
              have := hl p hp
              omega) rfl) ?_
            refine WL.u rfl rfl (Wt.plain rfl) (Ex.assign rfl) ?_
            refine WL.next ?_
            refine WC.ret ?_
            refine WN.body1 rfl rfl ?_
            exact ⟨rfl, hH.keep⟩
          have hg11_15' := hg11_15; try simp only [decide_eq_true_eq, decide_eq_false_iff_not, Bool.not_eq_true', Bool.not_eq_false', Bool.not_eq_true, Bool.not_eq_false] at hg11_15'
          refine WL.u rfl rfl (Wt.guard' rfl rfl rfl hg11_15 rfl) (Ex.move rfl) ?_
          refine WL.u rfl rfl (Wt.guard' rfl rfl rfl hg11_15 rfl) (Ex.move rfl) ?_
          refine WL.u rfl rfl (Wt.guard' rfl rfl rfl hg11_15 rfl) (Ex.neqB Try.underlying4 rfl rfl) ?_
          refine WL.u rfl rfl (Wt.guard' rfl rfl rfl (by
            rw [beq_iff_eq]
            refine decide_eq_decide.2 ?_
            have := hl p hp
            omega) rfl) (Ex.pickF rfl hg11_15 rfl) ?_
          refine WL.u rfl rfl (Wt.plain rfl) (Ex.pickT rfl (by
            rw [beq_iff_eq]
            refine decide_eq_decide.2 ?_
            have := hl p hp
            omega) rfl) ?_
          refine WL.u rfl rfl (Wt.plain rfl) (Ex.assign rfl) ?_
          refine WL.next ?_
          refine WC.ret ?_
          refine WN.body1 rfl rfl ?_
          exact ⟨congrArg Value.bool (row_fin (hor (by omega)) (by unfold onRow; rw [Bool.eq_iff_iff]; simp only [Bool.or_eq_true, decide_eq_true_eq, true_iff]; omega) (by unfold onRow; rw [Bool.eq_iff_iff]; simp only [Bool.or_eq_true, decide_eq_true_eq, true_iff]; omega)), hH.keep⟩
        have hg10_10' := hg10_10; try simp only [decide_eq_true_eq, decide_eq_false_iff_not, Bool.not_eq_true', Bool.not_eq_false', Bool.not_eq_true, Bool.not_eq_false] at hg10_10'
        refine WL.u rfl rfl (Wt.guard' rfl rfl rfl hg10_10 rfl) (Ex.move rfl) ?_
        refine WL.u rfl rfl (Wt.guard' rfl rfl rfl hg10_10 rfl) (Ex.move rfl) ?_
        refine WL.u rfl rfl (Wt.guard' rfl rfl rfl hg10_10 rfl) (Ex.mul rfl rfl (by omega)) ?_
        refine WL.u rfl rfl (Wt.guard' rfl rfl rfl hg10_10 rfl) (Ex.move rfl) ?_
        refine WL.u rfl rfl (Wt.guard' rfl rfl rfl hg10_10 rfl) (Ex.add rfl rfl (by omega)) ?_
        refine WL.u rfl rfl (Wt.guard' rfl rfl rfl hg10_10 rfl) (Ex.geq rfl rfl) ?_
        refine WL.u rfl rfl (Wt.plain rfl) (Ex.pickF rfl hg10_10 rfl) ?_
        refine WL.u rfl rfl (Wt.plain rfl) (Ex.assign rfl) ?_
        refine WL.next ?_
        refine WC.seq ?_
        refine WC.region ?_
        refine WL.u rfl rfl (Wt.plain rfl) (Ex.move rfl) ?_
        refine WL.u rfl rfl (Wt.plain rfl) (Ex.move rfl) ?_
        refine WL.u rfl rfl (Wt.guard' rfl rfl rfl (rfl) rfl) (Ex.move rfl) ?_
        refine WL.u rfl rfl (Wt.guard' rfl rfl rfl (rfl) rfl) (Ex.eql rfl rfl) ?_
        refine WL.u rfl rfl (Wt.guard' rfl rfl rfl (rfl) rfl) (Ex.move rfl) ?_
        refine WL.u rfl rfl (Wt.guard' rfl rfl rfl (rfl) rfl) (Ex.move rfl) ?_
        refine WL.u rfl rfl (Wt.guard' rfl rfl rfl (rfl) rfl) (Ex.indexAddr Try.underlying38 ty3 rfl rfl (by omega)) ?_
        refine WL.u rfl rfl (Wt.guard' rfl rfl rfl (rfl) rfl) (Ex.loadHp flat3 rfl hH (ho64.get rfl (getD_get l2 p 0 (by omega)))) ?_
        refine WL.u rfl rfl (Wt.guard' rfl rfl rfl (rfl) rfl) (Ex.move rfl) ?_
        refine WL.u rfl rfl (Wt.guard' rfl rfl rfl (rfl) rfl) (Ex.eql rfl rfl) ?_
        refine WL.u rfl rfl (Wt.guard' rfl rfl rfl (rfl) rfl) (Ex.eqlB Try.underlying4 rfl rfl) ?_
        refine WL.u rfl rfl (Wt.plain rfl) (Ex.pickT rfl (rfl) rfl) ?_
        refine WL.u rfl rfl (Wt.plain rfl) (Ex.move rfl) ?_
        refine WL.u rfl rfl (Wt.guard' rfl rfl rfl (by
          rw [beq_iff_eq]
          refine decide_eq_decide.2 ?_
          have := hl p hp
          omega) rfl) (Ex.move rfl) ?_
        refine WL.u rfl rfl (Wt.guard' rfl rfl rfl (by
          rw [beq_iff_eq]
          refine decide_eq_decide.2 ?_
          have := hl p hp
          omega) rfl) (Ex.neq rfl rfl) ?_
        refine WL.u rfl rfl (Wt.guard' rfl rfl rfl (by
          rw [beq_iff_eq]
          refine decide_eq_decide.2 ?_
          have := hl p hp
          omega) rfl) (Ex.move rfl) ?_
        refine WL.split (t := 118) rfl (fun hg11_15 => ?_) (fun hg11_15 => ?_)
        · have hg11_15' := hg11_15; try simp only [decide_eq_true_eq, decide_eq_false_iff_not, Bool.not_eq_true', Bool.not_eq_false', Bool.not_eq_true, Bool.not_eq_false] at hg11_15'
          refine WL.pass rfl rfl (Wt.guard' rfl rfl rfl hg11_15 rfl) ?_
          refine WL.pass rfl rfl (Wt.guard' rfl rfl rfl hg11_15 rfl) ?_
          refine WL.pass rfl rfl (Wt.guard' rfl rfl rfl hg11_15 rfl) ?_
          refine WL.u rfl rfl (Wt.guard' rfl rfl rfl (by
            rw [beq_iff_eq]
            refine decide_eq_decide.2 ?_
            have := hl p hp
            omega) rfl) (Ex.pickT rfl hg11_15 rfl) ?_
          refine WL.u rfl rfl (Wt.plain rfl) (Ex.pickT rfl (by
            rw [beq_iff_eq]
            refine decide_eq_decide.2 ?_
            have := hl p hp
            omega) rfl) ?_
          refine WL.u rfl rfl (Wt.plain rfl) (Ex.assign rfl) ?_
          refine WL.next ?_
          refine WC.ret ?_
          refine WN.body1 rfl rfl ?_
          exact ⟨rfl, hH.keep⟩
        have hg11_15' := hg11_15; try simp only [decide_eq_true_eq, decide_eq_false_iff_not, Bool.not_eq_true', Bool.not_eq_false', Bool.not_eq_true, Bool.not_eq_false] at hg11_15'
        refine WL.u rfl rfl (Wt.guard' rfl rfl rfl hg11_15 rfl) (Ex.move rfl) ?_
        refine WL.u rfl rfl (Wt.guard' rfl rfl rfl hg11_15 rfl) (Ex.move rfl) ?_
        refine WL.u rfl rfl (Wt.guard' rfl rfl rfl hg11_15 rfl) (Ex.neqB Try.underlying4 rfl rfl) ?_
        refine WL.u rfl rfl (Wt.guard' rfl rfl rfl (by
          rw [beq_iff_eq]
          refine decide_eq_decide.2 ?_
          have := hl p hp
          omega) rfl) (Ex.pickF rfl hg11_15 rfl) ?_
        refine WL.u rfl rfl (Wt.plain rfl) (Ex.pickT rfl (by
          rw [beq_iff_eq]
          refine decide_eq_decide.2 ?_
          have := hl p hp
          omega) rfl) ?_
        refine WL.u rfl rfl (Wt.plain rfl) (Ex.assign rfl) ?_
        refine WL.next ?_
        refine WC.ret ?_
        refine WN.body1 rfl rfl ?_
        exact ⟨congrArg Value.bool (row_fin (hor (by omega)) (by unfold onRow; rw [Bool.eq_iff_iff]; simp only [Bool.or_eq_true, decide_eq_true_eq, true_iff]; omega) (by unfold onRow; rw [Bool.eq_iff_iff]; simp only [Bool.or_eq_true, decide_eq_true_eq, true_iff]; omega)), hH.keep⟩
      have hg10_3' := hg10_3; try simp only [decide_eq_true_eq, decide_eq_false_iff_not, Bool.not_eq_true', Bool.not_eq_false', Bool.not_eq_true, Bool.not_eq_false] at hg10_3'
      refine WL.pass rfl rfl (Wt.guard' rfl rfl rfl hg10_3 rfl) ?_
      refine WL.pass rfl rfl (Wt.guard' rfl rfl rfl hg10_3 rfl) ?_
      refine WL.pass rfl rfl (Wt.guard' rfl rfl rfl hg10_3 rfl) ?_
      refine WL.pass rfl rfl (Wt.guard' rfl rfl rfl hg10_3 rfl) ?_
      refine WL.pass rfl rfl (Wt.guard' rfl rfl rfl hg10_3 rfl) ?_
      refine WL.u rfl rfl (Wt.plain rfl) (Ex.pickF rfl hg10_3 rfl) ?_
      refine WL.u rfl rfl (Wt.plain rfl) (Ex.move rfl) ?_
      refine WL.u rfl rfl (Wt.guard' rfl rfl rfl rfl rfl) (Ex.move rfl) ?_
      refine WL.u rfl rfl (Wt.guard' rfl rfl rfl rfl rfl) (Ex.move rfl) ?_
      refine WL.u rfl rfl (Wt.guard' rfl rfl rfl rfl rfl) (Ex.mul rfl rfl (by omega)) ?_
      refine WL.u rfl rfl (Wt.guard' rfl rfl rfl rfl rfl) (Ex.move rfl) ?_
      refine WL.u rfl rfl (Wt.guard' rfl rfl rfl rfl rfl) (Ex.add rfl rfl (by omega)) ?_
      refine WL.u rfl rfl (Wt.guard' rfl rfl rfl rfl rfl) (Ex.geq rfl rfl) ?_
      refine WL.u rfl rfl (Wt.plain rfl) (Ex.pickF rfl rfl rfl) ?_
      refine WL.u rfl rfl (Wt.plain rfl) (Ex.assign rfl) ?_
      refine WL.next ?_
      refine WC.seq ?_
      refine WC.region ?_
      refine WL.u rfl rfl (Wt.plain rfl) (Ex.move rfl) ?_
      refine WL.u rfl rfl (Wt.plain rfl) (Ex.move rfl) ?_
      refine WL.u rfl rfl (Wt.guard' rfl rfl rfl (rfl) rfl) (Ex.move rfl) ?_
      refine WL.u rfl rfl (Wt.guard' rfl rfl rfl (rfl) rfl) (Ex.eql rfl rfl) ?_
      refine WL.u rfl rfl (Wt.guard' rfl rfl rfl (rfl) rfl) (Ex.move rfl) ?_
      refine WL.u rfl rfl (Wt.guard' rfl rfl rfl (rfl) rfl) (Ex.move rfl) ?_
      refine WL.u rfl rfl (Wt.guard' rfl rfl rfl (rfl) rfl) (Ex.indexAddr Try.underlying38 ty3 rfl rfl (by omega)) ?_
      refine WL.u rfl rfl (Wt.guard' rfl rfl rfl (rfl) rfl) (Ex.loadHp flat3 rfl hH (ho64.get rfl (getD_get l2 p 0 (by omega)))) ?_
      refine WL.u rfl rfl (Wt.guard' rfl rfl rfl (rfl) rfl) (Ex.move rfl) ?_
      refine WL.u rfl rfl (Wt.guard' rfl rfl rfl (rfl) rfl) (Ex.eql rfl rfl) ?_
      refine WL.u rfl rfl (Wt.guard' rfl rfl rfl (rfl) rfl) (Ex.eqlB Try.underlying4 rfl rfl) ?_
      refine WL.u rfl rfl (Wt.plain rfl) (Ex.pickT rfl (rfl) rfl) ?_
      refine WL.u rfl rfl (Wt.plain rfl) (Ex.move rfl) ?_
      refine WL.u rfl rfl (Wt.guard' rfl rfl rfl (by
        rw [beq_iff_eq]
        refine decide_eq_decide.2 ?_
        have := hl p hp
        omega) rfl) (Ex.move rfl) ?_
      refine WL.u rfl rfl (Wt.guard' rfl rfl rfl (by
        rw [beq_iff_eq]
        refine decide_eq_decide.2 ?_
        have := hl p hp
        omega) rfl) (Ex.neq rfl rfl) ?_
      refine WL.u rfl rfl (Wt.guard' rfl rfl rfl (by
        rw [beq_iff_eq]
        refine decide_eq_decide.2 ?_
        have := hl p hp
        omega) rfl) (Ex.move rfl) ?_
      refine WL.split (t := 118) rfl (fun hg11_15 => ?_) (fun hg11_15 => ?_)
      · have hg11_15' := hg11_15; try simp only [decide_eq_true_eq, decide_eq_false_iff_not, Bool.not_eq_true', Bool.not_eq_false', Bool.not_eq_true, Bool.not_eq_false] at hg11_15'
        refine WL.pass rfl rfl (Wt.guard' rfl rfl rfl hg11_15 rfl) ?_
        refine WL.pass rfl rfl (Wt.guard' rfl rfl rfl hg11_15 rfl) ?_
        refine WL.pass rfl rfl (Wt.guard' rfl rfl rfl hg11_15 rfl) ?_
        refine WL.u rfl rfl (Wt.guard' rfl rfl rfl (by
          rw [beq_iff_eq]
          refine decide_eq_decide.2 ?_
          have := hl p hp
          omega) rfl) (Ex.pickT rfl hg11_15 rfl) ?_
        refine WL.u rfl rfl (Wt.plain rfl) (Ex.pickT rfl (by
          rw [beq_iff_eq]
          refine decide_eq_decide.2 ?_
          have := hl p hp
          omega) rfl) ?_
        refine WL.u rfl rfl (Wt.plain rfl) (Ex.assign rfl) ?_
        refine WL.next ?_
        refine WC.ret ?_
        refine WN.body1 rfl rfl ?_
        exact ⟨rfl, hH.keep⟩
      have hg11_15' := hg11_15; try simp only [decide_eq_true_eq, decide_eq_false_iff_not, Bool.not_eq_true', Bool.not_eq_false', Bool.not_eq_true, Bool.not_eq_false] at hg11_15'
      refine WL.u rfl rfl (Wt.guard' rfl rfl rfl hg11_15 rfl) (Ex.move rfl) ?_
      refine WL.u rfl rfl (Wt.guard' rfl rfl rfl hg11_15 rfl) (Ex.move rfl) ?_
      refine WL.u rfl rfl (Wt.guard' rfl rfl rfl hg11_15 rfl) (Ex.neqB Try.underlying4 rfl rfl) ?_
      refine WL.u rfl rfl (Wt.guard' rfl rfl rfl (by
        rw [beq_iff_eq]
        refine decide_eq_decide.2 ?_
        have := hl p hp
        omega) rfl) (Ex.pickF rfl hg11_15 rfl) ?_
      refine WL.u rfl rfl (Wt.plain rfl) (Ex.pickT rfl (by
        rw [beq_iff_eq]
        refine decide_eq_decide.2 ?_
        have := hl p hp
        omega) rfl) ?_
      refine WL.u rfl rfl (Wt.plain rfl) (Ex.assign rfl) ?_
      refine WL.next ?_
      refine WC.ret ?_
      refine WN.body1 rfl rfl ?_
      exact ⟨congrArg Value.bool (row_fin (hor (by omega)) (by unfold onRow; rw [Bool.eq_iff_iff]; simp only [Bool.or_eq_true, decide_eq_true_eq, true_iff]; omega) (by unfold onRow; rw [Bool.eq_iff_iff]; simp only [Bool.or_eq_true, decide_eq_true_eq, true_iff]; omega)), hH.keep⟩
    have hg9_10' := hg9_10; try simp only [decide_eq_true_eq, decide_eq_false_iff_not, Bool.not_eq_true', Bool.not_eq_false', Bool.not_eq_true, Bool.not_eq_false] at hg9_10'
    refine WL.u rfl rfl (Wt.guard' rfl rfl rfl hg9_10 rfl) (Ex.move rfl) ?_
    refine WL.u rfl rfl (Wt.guard' rfl rfl rfl hg9_10 rfl) (Ex.move rfl) ?_
    refine WL.u rfl rfl (Wt.guard' rfl rfl rfl hg9_10 rfl) (Ex.mul rfl rfl (by omega)) ?_
    refine WL.u rfl rfl (Wt.guard' rfl rfl rfl hg9_10 rfl) (Ex.move rfl) ?_
    refine WL.u rfl rfl (Wt.guard' rfl rfl rfl hg9_10 rfl) (Ex.add rfl rfl (by omega)) ?_
    refine WL.u rfl rfl (Wt.guard' rfl rfl rfl hg9_10 rfl) (Ex.geq rfl rfl) ?_
    refine WL.u rfl rfl (Wt.plain rfl) (Ex.pickF rfl hg9_10 rfl) ?_
    refine WL.u rfl rfl (Wt.plain rfl) (Ex.assign rfl) ?_
    refine WL.next ?_
    refine WC.seq ?_
    refine WC.region ?_
    refine WL.u rfl rfl (Wt.plain rfl) (Ex.move rfl) ?_
    refine WL.u rfl rfl (Wt.plain rfl) (Ex.move rfl) ?_
    refine WL.u rfl rfl (Wt.plain rfl) (Ex.geq rfl rfl) ?_
    refine WL.u rfl rfl (Wt.plain rfl) (Ex.move rfl) ?_
    refine WL.split (t := 88) rfl (fun hg10_3 => ?_) (fun hg10_3 => ?_)
    · have hg10_3' := hg10_3; try simp only [decide_eq_true_eq, decide_eq_false_iff_not, Bool.not_eq_true', Bool.not_eq_false', Bool.not_eq_true, Bool.not_eq_false] at hg10_3'
      refine WL.u rfl rfl (Wt.guard' rfl rfl rfl hg10_3 rfl) (Ex.move rfl) ?_
      refine WL.u rfl rfl (Wt.guard' rfl rfl rfl hg10_3 rfl) (Ex.move rfl) ?_
      refine WL.u rfl rfl (Wt.guard' rfl rfl rfl hg10_3 rfl) (Ex.move rfl) ?_
      refine WL.u rfl rfl (Wt.guard' rfl rfl rfl hg10_3 rfl) (Ex.add rfl rfl (by omega)) ?_
      refine WL.u rfl rfl (Wt.guard' rfl rfl rfl hg10_3 rfl) (Ex.lss rfl rfl) ?_
      refine WL.u rfl rfl (Wt.plain rfl) (Ex.pickT rfl hg10_3 rfl) ?_
      refine WL.u rfl rfl (Wt.plain rfl) (Ex.move rfl) ?_
      refine WL.split (t := 95) rfl (fun hg10_10 => ?_) (fun hg10_10 => ?_)
      · have hg10_10' := hg10_10; try simp only [decide_eq_true_eq, decide_eq_false_iff_not, Bool.not_eq_true', Bool.not_eq_false', Bool.not_eq_true, Bool.not_eq_false] at hg10_10'
        refine WL.pass rfl rfl (Wt.guard' rfl rfl rfl hg10_10 rfl) ?_
        refine WL.pass rfl rfl (Wt.guard' rfl rfl rfl hg10_10 rfl) ?_
        refine WL.pass rfl rfl (Wt.guard' rfl rfl rfl hg10_10 rfl) ?_
        refine WL.pass rfl rfl (Wt.guard' rfl rfl rfl hg10_10 rfl) ?_
        refine WL.pass rfl rfl (Wt.guard' rfl rfl rfl hg10_10 rfl) ?_
        refine WL.pass rfl rfl (Wt.guard' rfl rfl rfl hg10_10 rfl) ?_
        refine WL.u rfl rfl (Wt.plain rfl) (Ex.pickT rfl hg10_10 rfl) ?_
        refine WL.u rfl rfl (Wt.plain rfl) (Ex.assign rfl) ?_
        refine WL.next ?_
        refine WC.seq ?_
        refine WC.region ?_
        refine WL.u rfl rfl (Wt.plain rfl) (Ex.move rfl) ?_
        refine WL.u rfl rfl (Wt.plain rfl) (Ex.move rfl) ?_
        refine WL.u rfl rfl (Wt.guard' rfl rfl rfl (rfl) rfl) (Ex.move rfl) ?_
        refine WL.u rfl rfl (Wt.guard' rfl rfl rfl (rfl) rfl) (Ex.eql rfl rfl) ?_
        refine WL.u rfl rfl (Wt.guard' rfl rfl rfl (rfl) rfl) (Ex.move rfl) ?_
        refine WL.u rfl rfl (Wt.guard' rfl rfl rfl (rfl) rfl) (Ex.move rfl) ?_
        refine WL.u rfl rfl (Wt.guard' rfl rfl rfl (rfl) rfl) (Ex.indexAddr Try.underlying38 ty3 rfl rfl (by omega)) ?_
        refine WL.u rfl rfl (Wt.guard' rfl rfl rfl (rfl) rfl) (Ex.loadHp flat3 rfl hH (ho64.get rfl (getD_get l2 p 0 (by omega)))) ?_
        refine WL.u rfl rfl (Wt.guard' rfl rfl rfl (rfl) rfl) (Ex.move rfl) ?_
        refine WL.u rfl rfl (Wt.guard' rfl rfl rfl (rfl) rfl) (Ex.eql rfl rfl) ?_
        refine WL.u rfl rfl (Wt.guard' rfl rfl rfl (rfl) rfl) (Ex.eqlB Try.underlying4 rfl rfl) ?_
        refine WL.u rfl rfl (Wt.plain rfl) (Ex.pickT rfl (rfl) rfl) ?_
        refine WL.u rfl rfl (Wt.plain rfl) (Ex.move rfl) ?_
        refine WL.u rfl rfl (Wt.guard' rfl rfl rfl (by
          rw [beq_iff_eq]
          refine decide_eq_decide.2 ?_
          have := hl p hp
          omega) rfl) (Ex.move rfl) ?_
        refine WL.u rfl rfl (Wt.guard' rfl rfl rfl (by
          rw [beq_iff_eq]
          refine decide_eq_decide.2 ?_
          have := hl p hp
          omega) rfl) (Ex.neq rfl rfl) ?_
        refine WL.u rfl rfl (Wt.guard' rfl rfl rfl (by
          rw [beq_iff_eq]
          refine decide_eq_decide.2 ?_
          have := hl p hp
          omega) rfl) (Ex.move rfl) ?_
        refine WL.split (t := 118) rfl (fun hg11_15 => ?_) (fun hg11_15 => ?_)
        · have hg11_15' := hg11_15; try simp only [decide_eq_true_eq, decide_eq_false_iff_not, Bool.not_eq_true', Bool.not_eq_false', Bool.not_eq_true, Bool.not_eq_false] at hg11_15'
          refine WL.pass rfl rfl (Wt.guard' rfl rfl rfl hg11_15 rfl) ?_
          refine WL.pass rfl rfl (Wt.guard' rfl rfl rfl hg11_15 rfl) ?_
          refine WL.pass rfl rfl (Wt.guard' rfl rfl rfl hg11_15 rfl) ?_
          refine WL.u rfl rfl (Wt.guard' rfl rfl rfl (by
            rw [beq_iff_eq]
            refine decide_eq_decide.2 ?_
            have := hl p hp
            omega) rfl) (Ex.pickT rfl hg11_15 rfl) ?_
          refine WL.u rfl rfl (Wt.plain rfl) (Ex.pickT rfl (by
            rw [beq_iff_eq]
            refine decide_eq_decide.2 ?_
            have := hl p hp
            omega) rfl) ?_
          refine WL.u rfl rfl (Wt.plain rfl) (Ex.assign rfl) ?_
          refine WL.next ?_
          refine WC.ret ?_
          refine WN.body1 rfl rfl ?_
          exact ⟨rfl, hH.keep⟩
        have hg11_15' := hg11_15; try simp only [decide_eq_true_eq, decide_eq_false_iff_not, Bool.not_eq_true', Bool.not_eq_false', Bool.not_eq_true, Bool.not_eq_false] at hg11_15'
        refine WL.u rfl rfl (Wt.guard' rfl rfl rfl hg11_15 rfl) (Ex.move rfl) ?_
        refine WL.u rfl rfl (Wt.guard' rfl rfl rfl hg11_15 rfl) (Ex.move rfl) ?_
        refine WL.u rfl rfl (Wt.guard' rfl rfl rfl hg11_15 rfl) (Ex.neqB Try.underlying4 rfl rfl) ?_
        refine WL.u rfl rfl (Wt.guard' rfl rfl rfl (by
          rw [beq_iff_eq]
          refine decide_eq_decide.2 ?_
          have := hl p hp
          omega) rfl) (Ex.pickF rfl hg11_15 rfl) ?_
        refine WL.u rfl rfl (Wt.plain rfl) (Ex.pickT rfl (by
          rw [beq_iff_eq]
          refine decide_eq_decide.2 ?_
          have := hl p hp
          omega) rfl) ?_
        refine WL.u rfl rfl (Wt.plain rfl) (Ex.assign rfl) ?_
        refine WL.next ?_
        refine WC.ret ?_
        refine WN.body1 rfl rfl ?_
        exact ⟨congrArg Value.bool (row_fin (hor (by omega)) (by unfold onRow; rw [Bool.eq_iff_iff]; simp only [Bool.or_eq_true, decide_eq_true_eq, true_iff]; omega) (by unfold onRow; rw [Bool.eq_iff_iff]; simp only [Bool.or_eq_true, decide_eq_true_eq, true_iff]; omega)), hH.keep⟩
      have hg10_10' := hg10_10; try simp only [decide_eq_true_eq, decide_eq_false_iff_not, Bool.not_eq_true', Bool.not_eq_false', Bool.not_eq_true, Bool.not_eq_false] at hg10_10'
      refine WL.u rfl rfl (Wt.guard' rfl rfl rfl hg10_10 rfl) (Ex.move rfl) ?_
      refine WL.u rfl rfl (Wt.guard' rfl rfl rfl hg10_10 rfl) (Ex.move rfl) ?_
      refine WL.u rfl rfl (Wt.guard' rfl rfl rfl hg10_10 rfl) (Ex.mul rfl rfl (by omega)) ?_
      refine WL.u rfl rfl (Wt.guard' rfl rfl rfl hg10_10 rfl) (Ex.move rfl) ?_
      refine WL.u rfl rfl (Wt.guard' rfl rfl rfl hg10_10 rfl) (Ex.add rfl rfl (by omega)) ?_
      refine WL.u rfl rfl (Wt.guard' rfl rfl rfl hg10_10 rfl) (Ex.geq rfl rfl) ?_
      refine WL.u rfl rfl (Wt.plain rfl) (Ex.pickF rfl hg10_10 rfl) ?_
      refine WL.u rfl rfl (Wt.plain rfl) (Ex.assign rfl) ?_
      refine WL.next ?_
      refine WC.seq ?_
      refine WC.region ?_
      refine WL.u rfl rfl (Wt.plain rfl) (Ex.move rfl) ?_
      refine WL.u rfl rfl (Wt.plain rfl) (Ex.move rfl) ?_
      refine WL.u rfl rfl (Wt.guard' rfl rfl rfl (rfl) rfl) (Ex.move rfl) ?_
      refine WL.u rfl rfl (Wt.guard' rfl rfl rfl (rfl) rfl) (Ex.eql rfl rfl) ?_
      refine WL.u rfl rfl (Wt.guard' rfl rfl rfl (rfl) rfl) (Ex.move rfl) ?_
      refine WL.u rfl rfl (Wt.guard' rfl rfl rfl (rfl) rfl) (Ex.move rfl) ?_
      refine WL.u rfl rfl (Wt.guard' rfl rfl rfl (rfl) rfl) (Ex.indexAddr Try.underlying38 ty3 rfl rfl (by omega)) ?_
      refine WL.u rfl rfl (Wt.guard' rfl rfl rfl (rfl) rfl) (Ex.loadHp flat3 rfl hH (ho64.get rfl (getD_get l2 p 0 (by omega)))) ?_
      refine WL.u rfl rfl (Wt.guard' rfl rfl rfl (rfl) rfl) (Ex.move rfl) ?_
      refine WL.u rfl rfl (Wt.guard' rfl rfl rfl (rfl) rfl) (Ex.eql rfl rfl) ?_
      refine WL.u rfl rfl (Wt.guard' rfl rfl rfl (rfl) rfl) (Ex.eqlB Try.underlying4 rfl rfl) ?_
      refine WL.u rfl rfl (Wt.plain rfl) (Ex.pickT rfl (rfl) rfl) ?_
      refine WL.u rfl rfl (Wt.plain rfl) (Ex.move rfl) ?_
      refine WL.u rfl rfl (Wt.guard' rfl rfl rfl (by
        rw [beq_iff_eq]
        refine decide_eq_decide.2 ?_
        have := hl p hp
        omega) rfl) (Ex.move rfl) ?_
      refine WL.u rfl rfl (Wt.guard' rfl rfl rfl (by
        rw [beq_iff_eq]
        refine decide_eq_decide.2 ?_
        have := hl p hp
        omega) rfl) (Ex.neq rfl rfl) ?_
      refine WL.u rfl rfl (Wt.guard' rfl rfl rfl (by
        rw [beq_iff_eq]
        refine decide_eq_decide.2 ?_
        have := hl p hp
        omega) rfl) (Ex.move rfl) ?_
      refine WL.split (t := 118) rfl (fun hg11_15 => ?_) (fun hg11_15 => ?_)
      · have hg11_15' := hg11_15; try simp only [decide_eq_true_eq, decide_eq_false_iff_not, Bool.not_eq_true', Bool.not_eq_false', Bool.not_eq_true, Bool.not_eq_false] at hg11_15'
        refine WL.pass rfl rfl (Wt.guard' rfl rfl rfl hg11_15 rfl) ?_
        refine WL.pass rfl rfl (Wt.guard' rfl rfl rfl hg11_15 rfl) ?_
        refine WL.pass rfl rfl (Wt.guard' rfl rfl rfl hg11_15 rfl) ?_
        refine WL.u rfl rfl (Wt.guard' rfl rfl rfl (by
          rw [beq_iff_eq]
          refine decide_eq_decide.2 ?_
          have := hl p hp
          omega) rfl) (Ex.pickT rfl hg11_15 rfl) ?_
        refine WL.u rfl rfl (Wt.plain rfl) (Ex.pickT rfl (by
          rw [beq_iff_eq]
          refine decide_eq_decide.2 ?_
          have := hl p hp
          omega) rfl) ?_
        refine WL.u rfl rfl (Wt.plain rfl) (Ex.assign rfl) ?_
        refine WL.next ?_
        refine WC.ret ?_
        refine WN.body1 rfl rfl ?_
        exact ⟨rfl, hH.keep⟩
      have hg11_15' := hg11_15; try simp only [decide_eq_true_eq, decide_eq_false_iff_not, Bool.not_eq_true', Bool.not_eq_false', Bool.not_eq_true, Bool.not_eq_false] at hg11_15'
      refine WL.u rfl rfl (Wt.guard' rfl rfl rfl hg11_15 rfl) (Ex.move rfl) ?_
      refine WL.u rfl rfl (Wt.guard' rfl rfl rfl hg11_15 rfl) (Ex.move rfl) ?_
      refine WL.u rfl rfl (Wt.guard' rfl rfl rfl hg11_15 rfl) (Ex.neqB Try.underlying4 rfl rfl) ?_
      refine WL.u rfl rfl (Wt.guard' rfl rfl rfl (by
        rw [beq_iff_eq]
        refine decide_eq_decide.2 ?_
        have := hl p hp
        omega) rfl) (Ex.pickF rfl hg11_15 rfl) ?_
      refine WL.u rfl rfl (Wt.plain rfl) (Ex.pickT rfl (by
        rw [beq_iff_eq]
        refine decide_eq_decide.2 ?_
        have := hl p hp
        omega) rfl) ?_
      refine WL.u rfl rfl (Wt.plain rfl) (Ex.assign rfl) ?_
      refine WL.next ?_
      refine WC.ret ?_
      refine WN.body1 rfl rfl ?_
      exact ⟨congrArg Value.bool (row_fin (hor (by omega)) (by unfold onRow; rw [Bool.eq_iff_iff]; simp only [Bool.or_eq_true, decide_eq_true_eq, true_iff]; omega) (by unfold onRow; rw [Bool.eq_iff_iff]; simp only [Bool.or_eq_true, decide_eq_true_eq, true_iff]; omega)), hH.keep⟩
    have hg10_3' := hg10_3; try simp only [decide_eq_true_eq, decide_eq_false_iff_not, Bool.not_eq_true', Bool.not_eq_false', Bool.not_eq_true, Bool.not_eq_false] at hg10_3'
    refine WL.pass rfl rfl (Wt.guard' rfl rfl rfl hg10_3 rfl) ?_
    refine WL.pass rfl rfl (Wt.guard' rfl rfl rfl hg10_3 rfl) ?_
    refine WL.pass rfl rfl (Wt.guard' rfl rfl rfl hg10_3 rfl) ?_
    refine WL.pass rfl rfl (Wt.guard' rfl rfl rfl hg10_3 rfl) ?_
    refine WL.pass rfl rfl (Wt.guard' rfl rfl rfl hg10_3 rfl) ?_
    refine WL.u rfl rfl (Wt.plain rfl) (Ex.pickF rfl hg10_3 rfl) ?_
    refine WL.u rfl rfl (Wt.plain rfl) (Ex.move rfl) ?_
    refine WL.u rfl rfl (Wt.guard' rfl rfl rfl rfl rfl) (Ex.move rfl) ?_
    refine WL.u rfl rfl (Wt.guard' rfl rfl rfl rfl rfl) (Ex.move rfl) ?_
    refine WL.u rfl rfl (Wt.guard' rfl rfl rfl rfl rfl) (Ex.mul rfl rfl (by omega)) ?_
    refine WL.u rfl rfl (Wt.guard' rfl rfl rfl rfl rfl) (Ex.move rfl) ?_
    refine WL.u rfl rfl (Wt.guard' rfl rfl rfl rfl rfl) (Ex.add rfl rfl (by omega)) ?_
    refine WL.u rfl rfl (Wt.guard' rfl rfl rfl rfl rfl) (Ex.geq rfl rfl) ?_
    refine WL.u rfl rfl (Wt.plain rfl) (Ex.pickF rfl rfl rfl) ?_
    refine WL.u rfl rfl (Wt.plain rfl) (Ex.assign rfl) ?_
    refine WL.next ?_
    refine WC.seq ?_
    refine WC.region ?_
    refine WL.u rfl rfl (Wt.plain rfl) (Ex.move rfl) ?_
    refine WL.u rfl rfl (Wt.plain rfl) (Ex.move rfl) ?_
    refine WL.u rfl rfl (Wt.guard' rfl rfl rfl (rfl) rfl) (Ex.move rfl) ?_
    refine WL.u rfl rfl (Wt.guard' rfl rfl rfl (rfl) rfl) (Ex.eql rfl rfl) ?_
    refine WL.u rfl rfl (Wt.guard' rfl rfl rfl (rfl) rfl) (Ex.move rfl) ?_
    refine WL.u rfl rfl (Wt.guard' rfl rfl rfl (rfl) rfl) (Ex.move rfl) ?_
    refine WL.u rfl rfl (Wt.guard' rfl rfl rfl (rfl) rfl) (Ex.indexAddr Try.underlying38 ty3 rfl rfl (by omega)) ?_
    refine WL.u rfl rfl (Wt.guard' rfl rfl rfl (rfl) rfl) (Ex.loadHp flat3 rfl hH (ho64.get rfl (getD_get l2 p 0 (by omega)))) ?_
    refine WL.u rfl rfl (Wt.guard' rfl rfl rfl (rfl) rfl) (Ex.move rfl) ?_
    refine WL.u rfl rfl (Wt.guard' rfl rfl rfl (rfl) rfl) (Ex.eql rfl rfl) ?_
    refine WL.u rfl rfl (Wt.guard' rfl rfl rfl (rfl) rfl) (Ex.eqlB Try.underlying4 rfl rfl) ?_
    refine WL.u rfl rfl (Wt.plain rfl) (Ex.pickT rfl (rfl) rfl) ?_
    refine WL.u rfl rfl (Wt.plain rfl) (Ex.move rfl) ?_
    refine WL.u rfl rfl (Wt.guard' rfl rfl rfl (by
      rw [beq_iff_eq]
      refine decide_eq_decide.2 ?_
      have := hl p hp
      omega) rfl) (Ex.move rfl) ?_
    refine WL.u rfl rfl (Wt.guard' rfl rfl rfl (by
      rw [beq_iff_eq]
      refine decide_eq_decide.2 ?_
      have := hl p hp
      omega) rfl) (Ex.neq rfl rfl) ?_
    refine WL.u rfl rfl (Wt.guard' rfl rfl rfl (by
      rw [beq_iff_eq]
      refine decide_eq_decide.2 ?_
      have := hl p hp
      omega) rfl) (Ex.move rfl) ?_
    refine WL.split (t := 118) rfl (fun hg11_15 => ?_) (fun hg11_15 => ?_)
    · have hg11_15' := hg11_15; try simp only [decide_eq_true_eq, decide_eq_false_iff_not, Bool.not_eq_true', Bool.not_eq_false', Bool.not_eq_true, Bool.not_eq_false] at hg11_15'
      refine WL.pass rfl rfl (Wt.guard' rfl rfl rfl hg11_15 rfl) ?_
      refine WL.pass rfl rfl (Wt.guard' rfl rfl rfl hg11_15 rfl) ?_
      refine WL.pass rfl rfl (Wt.guard' rfl rfl rfl hg11_15 rfl) ?_
      refine WL.u rfl rfl (Wt.guard' rfl rfl rfl (by
        rw [beq_iff_eq]
        refine decide_eq_decide.2 ?_
        have := hl p hp
        omega) rfl) (Ex.pickT rfl hg11_15 rfl) ?_
      refine WL.u rfl rfl (Wt.plain rfl) (Ex.pickT rfl (by
        rw [beq_iff_eq]
        refine decide_eq_decide.2 ?_
        have := hl p hp
        omega) rfl) ?_
      refine WL.u rfl rfl (Wt.plain rfl) (Ex.assign rfl) ?_
      refine WL.next ?_
      refine WC.ret ?_
      refine WN.body1 rfl rfl ?_
      exact ⟨rfl, hH.keep⟩
    have hg11_15' := hg11_15; try simp only [decide_eq_true_eq, decide_eq_false_iff_not, Bool.not_eq_true', Bool.not_eq_false', Bool.not_eq_true, Bool.not_eq_false] at hg11_15'
    refine WL.u rfl rfl (Wt.guard' rfl rfl rfl hg11_15 rfl) (Ex.move rfl) ?_
    refine WL.u rfl rfl (Wt.guard' rfl rfl rfl hg11_15 rfl) (Ex.move rfl) ?_
    refine WL.u rfl rfl (Wt.guard' rfl rfl rfl hg11_15 rfl) (Ex.neqB Try.underlying4 rfl rfl) ?_
    refine WL.u rfl rfl (Wt.guard' rfl rfl rfl (by
      rw [beq_iff_eq]
      refine decide_eq_decide.2 ?_
      have := hl p hp
      omega) rfl) (Ex.pickF rfl hg11_15 rfl) ?_
    refine WL.u rfl rfl (Wt.plain rfl) (Ex.pickT rfl (by
      rw [beq_iff_eq]
      refine decide_eq_decide.2 ?_
      have := hl p hp
      omega) rfl) ?_
    refine WL.u rfl rfl (Wt.plain rfl) (Ex.assign rfl) ?_
    refine WL.next ?_
    refine WC.ret ?_
    refine WN.body1 rfl rfl ?_
    exact ⟨congrArg Value.bool (row_fin (hor (by omega)) (by unfold onRow; rw [Bool.eq_iff_iff]; simp only [Bool.or_eq_true, decide_eq_true_eq, true_iff]; omega) (by unfold onRow; rw [Bool.eq_iff_iff]; simp only [Bool.or_eq_true, decide_eq_true_eq, true_iff]; omega)), hH.keep⟩
  have hg9_3' := hg9_3; try simp only [decide_eq_true_eq, decide_eq_false_iff_not, Bool.not_eq_true', Bool.not_eq_false', Bool.not_eq_true, Bool.not_eq_false] at hg9_3'
  refine WL.pass rfl rfl (Wt.guard' rfl rfl rfl hg9_3 rfl) ?_
  refine WL.pass rfl rfl (Wt.guard' rfl rfl rfl hg9_3 rfl) ?_
  refine WL.pass rfl rfl (Wt.guard' rfl rfl rfl hg9_3 rfl) ?_
  refine WL.pass rfl rfl (Wt.guard' rfl rfl rfl hg9_3 rfl) ?_
  refine WL.pass rfl rfl (Wt.guard' rfl rfl rfl hg9_3 rfl) ?_
  refine WL.u rfl rfl (Wt.plain rfl) (Ex.pickF rfl hg9_3 rfl) ?_
  refine WL.u rfl rfl (Wt.plain rfl) (Ex.move rfl) ?_
  refine WL.u rfl rfl (Wt.guard' rfl rfl rfl rfl rfl) (Ex.move rfl) ?_
  refine WL.u rfl rfl (Wt.guard' rfl rfl rfl rfl rfl) (Ex.move rfl) ?_
  refine WL.u rfl rfl (Wt.guard' rfl rfl rfl rfl rfl) (Ex.mul rfl rfl (by omega)) ?_
  refine WL.u rfl rfl (Wt.guard' rfl rfl rfl rfl rfl) (Ex.move rfl) ?_
  refine WL.u rfl rfl (Wt.guard' rfl rfl rfl rfl rfl) (Ex.add rfl rfl (by omega)) ?_
  refine WL.u rfl rfl (Wt.guard' rfl rfl rfl rfl rfl) (Ex.geq rfl rfl) ?_
  refine WL.u rfl rfl (Wt.plain rfl) (Ex.pickF rfl rfl rfl) ?_
  refine WL.u rfl rfl (Wt.plain rfl) (Ex.assign rfl) ?_
  refine WL.next ?_
  refine WC.seq ?_
  refine WC.region ?_
  refine WL.u rfl rfl (Wt.plain rfl) (Ex.move rfl) ?_
  refine WL.u rfl rfl (Wt.plain rfl) (Ex.move rfl) ?_
  refine WL.u rfl rfl (Wt.plain rfl) (Ex.geq rfl rfl) ?_
  refine WL.u rfl rfl (Wt.plain rfl) (Ex.move rfl) ?_
  refine WL.split (t := 88) rfl (fun hg10_3 => ?_) (fun hg10_3 => ?_)
  · have hg10_3' := hg10_3; try simp only [decide_eq_true_eq, decide_eq_false_iff_not, Bool.not_eq_true', Bool.not_eq_false', Bool.not_eq_true, Bool.not_eq_false] at hg10_3'
    refine WL.u rfl rfl (Wt.guard' rfl rfl rfl hg10_3 rfl) (Ex.move rfl) ?_
    refine WL.u rfl rfl (Wt.guard' rfl rfl rfl hg10_3 rfl) (Ex.move rfl) ?_
    refine WL.u rfl rfl (Wt.guard' rfl rfl rfl hg10_3 rfl) (Ex.move rfl) ?_
    refine WL.u rfl rfl (Wt.guard' rfl rfl rfl hg10_3 rfl) (Ex.add rfl rfl (by omega)) ?_
    refine WL.u rfl rfl (Wt.guard' rfl rfl rfl hg10_3 rfl) (Ex.lss rfl rfl) ?_
    refine WL.u rfl rfl (Wt.plain rfl) (Ex.pickT rfl hg10_3 rfl) ?_
    refine WL.u rfl rfl (Wt.plain rfl) (Ex.move rfl) ?_
    refine WL.split (t := 95) rfl (fun hg10_10 => ?_) (fun hg10_10 => ?_)
    · have hg10_10' := hg10_10; try simp only [decide_eq_true_eq, decide_eq_false_iff_not, Bool.not_eq_true', Bool.not_eq_false', Bool.not_eq_true, Bool.not_eq_false] at hg10_10'
      refine WL.pass rfl rfl (Wt.guard' rfl rfl rfl hg10_10 rfl) ?_
      refine WL.pass rfl rfl (Wt.guard' rfl rfl rfl hg10_10 rfl) ?_
      refine WL.pass rfl rfl (Wt.guard' rfl rfl rfl hg10_10 rfl) ?_
      refine WL.pass rfl rfl (Wt.guard' rfl rfl rfl hg10_10 rfl) ?_
      refine WL.pass rfl rfl (Wt.guard' rfl rfl rfl hg10_10 rfl) ?_
      refine WL.pass rfl rfl (Wt.guard' rfl rfl rfl hg10_10 rfl) ?_
      refine WL.u rfl rfl (Wt.plain rfl) (Ex.pickT rfl hg10_10 rfl) ?_
      refine WL.u rfl rfl (Wt.plain rfl) (Ex.assign rfl) ?_
      refine WL.next ?_
      refine WC.seq ?_
      refine WC.region ?_
      refine WL.u rfl rfl (Wt.plain rfl) (Ex.move rfl) ?_
      refine WL.u rfl rfl (Wt.plain rfl) (Ex.move rfl) ?_
      refine WL.u rfl rfl (Wt.guard' rfl rfl rfl (rfl) rfl) (Ex.move rfl) ?_
      refine WL.u rfl rfl (Wt.guard' rfl rfl rfl (rfl) rfl) (Ex.eql rfl rfl) ?_
      refine WL.u rfl rfl (Wt.guard' rfl rfl rfl (rfl) rfl) (Ex.move rfl) ?_
      refine WL.u rfl rfl (Wt.guard' rfl rfl rfl (rfl) rfl) (Ex.move rfl) ?_
      refine WL.u rfl rfl (Wt.guard' rfl rfl rfl (rfl) rfl) (Ex.indexAddr Try.underlying38 ty3 rfl rfl (by omega)) ?_
      refine WL.u rfl rfl (Wt.guard' rfl rfl rfl (rfl) rfl) (Ex.loadHp flat3 rfl hH (ho64.get rfl (getD_get l2 p 0 (by omega)))) ?_
      refine WL.u rfl rfl (Wt.guard' rfl rfl rfl (rfl) rfl) (Ex.move rfl) ?_
      refine WL.u rfl rfl (Wt.guard' rfl rfl rfl (rfl) rfl) (Ex.eql rfl rfl) ?_
      refine WL.u rfl rfl (Wt.guard' rfl rfl rfl (rfl) rfl) (Ex.eqlB Try.underlying4 rfl rfl) ?_
      refine WL.u rfl rfl (Wt.plain rfl) (Ex.pickT rfl (rfl) rfl) ?_
      refine WL.u rfl rfl (Wt.plain rfl) (Ex.move rfl) ?_
      refine WL.u rfl rfl (Wt.guard' rfl rfl rfl (by
        rw [beq_iff_eq]
        refine decide_eq_decide.2 ?_
        have := hl p hp
        omega) rfl) (Ex.move rfl) ?_
      refine WL.u rfl rfl (Wt.guard' rfl rfl rfl (by
        rw [beq_iff_eq]
        refine decide_eq_decide.2 ?_
        have := hl p hp
        omega) rfl) (Ex.neq rfl rfl) ?_
      refine WL.u rfl rfl (Wt.guard' rfl rfl rfl (by
        rw [beq_iff_eq]
        refine decide_eq_decide.2 ?_
        have := hl p hp
        omega) rfl) (Ex.move rfl) ?_
      refine WL.split (t := 118) rfl (fun hg11_15 => ?_) (fun hg11_15 => ?_)
      · have hg11_15' := hg11_15; try simp only [decide_eq_true_eq, decide_eq_false_iff_not, Bool.not_eq_true', Bool.not_eq_false', Bool.not_eq_true, Bool.not_eq_false] at hg11_15'
        refine WL.pass rfl rfl (Wt.guard' rfl rfl rfl hg11_15 rfl) ?_
        refine WL.pass rfl rfl (Wt.guard' rfl rfl rfl hg11_15 rfl) ?_
        refine WL.pass rfl rfl (Wt.guard' rfl rfl rfl hg11_15 rfl) ?_
        refine WL.u rfl rfl (Wt.guard' rfl rfl rfl (by
          rw [beq_iff_eq]
          refine decide_eq_decide.2 ?_
          have := hl p hp
          omega) rfl) (Ex.pickT rfl hg11_15 rfl) ?_
        refine WL.u rfl rfl (Wt.plain rfl) (Ex.pickT rfl (by
          rw [beq_iff_eq]
          refine decide_eq_decide.2 ?_
          have := hl p hp
          omega) rfl) ?_
        refine WL.u rfl rfl (Wt.plain rfl) (Ex.assign rfl) ?_
        refine WL.next ?_
        refine WC.ret ?_
        refine WN.body1 rfl rfl ?_
        exact ⟨rfl, hH.keep⟩
      have hg11_15' := hg11_15; try simp only [decide_eq_true_eq, decide_eq_false_iff_not, Bool.not_eq_true', Bool.not_eq_false', Bool.not_eq_true, Bool.not_eq_false] at hg11_15'
      refine WL.u rfl rfl (Wt.guard' rfl rfl rfl hg11_15 rfl) (Ex.move rfl) ?_
      refine WL.u rfl rfl (Wt.guard' rfl rfl rfl hg11_15 rfl) (Ex.move rfl) ?_
      refine WL.u rfl rfl (Wt.guard' rfl rfl rfl hg11_15 rfl) (Ex.neqB Try.underlying4 rfl rfl) ?_
      refine WL.u rfl rfl (Wt.guard' rfl rfl rfl (by
        rw [beq_iff_eq]
        refine decide_eq_decide.2 ?_
        have := hl p hp
        omega) rfl) (Ex.pickF rfl hg11_15 rfl) ?_
      refine WL.u rfl rfl (Wt.plain rfl) (Ex.pickT rfl (by
        rw [beq_iff_eq]
        refine decide_eq_decide.2 ?_
        have := hl p hp
        omega) rfl) ?_
      refine WL.u rfl rfl (Wt.plain rfl) (Ex.assign rfl) ?_
      refine WL.next ?_
      refine WC.ret ?_
      refine WN.body1 rfl rfl ?_
      exact ⟨congrArg Value.bool (row_fin (hor (by omega)) (by unfold onRow; rw [Bool.eq_iff_iff]; simp only [Bool.or_eq_true, decide_eq_true_eq, true_iff]; omega) (by unfold onRow; rw [Bool.eq_iff_iff]; simp only [Bool.or_eq_true, decide_eq_true_eq, true_iff]; omega)), hH.keep⟩
    have hg10_10' := hg10_10; try simp only [decide_eq_true_eq, decide_eq_false_iff_not, Bool.not_eq_true', Bool.not_eq_false', Bool.not_eq_true, Bool.not_eq_false] at hg10_10'
    refine WL.u rfl rfl (Wt.guard' rfl rfl rfl hg10_10 rfl) (Ex.move rfl) ?_
    refine WL.u rfl rfl (Wt.guard' rfl rfl rfl hg10_10 rfl) (Ex.move rfl) ?_
    refine WL.u rfl rfl (Wt.guard' rfl rfl rfl hg10_10 rfl) (Ex.mul rfl rfl (by omega)) ?_
    refine WL.u rfl rfl (Wt.guard' rfl rfl rfl hg10_10 rfl) (Ex.move rfl) ?_
    refine WL.u rfl rfl (Wt.guard' rfl rfl rfl hg10_10 rfl) (Ex.add rfl rfl (by omega)) ?_
    refine WL.u rfl rfl (Wt.guard' rfl rfl rfl hg10_10 rfl) (Ex.geq rfl rfl) ?_
    refine WL.u rfl rfl (Wt.plain rfl) (Ex.pickF rfl hg10_10 rfl) ?_
    refine WL.u rfl rfl (Wt.plain rfl) (Ex.assign rfl) ?_
    refine WL.next ?_
    refine WC.seq ?_
    refine WC.region ?_
    refine WL.u rfl rfl (Wt.plain rfl) (Ex.move rfl) ?_
    refine WL.u rfl rfl (Wt.plain rfl) (Ex.move rfl) ?_
    refine WL.u rfl rfl (Wt.guard' rfl rfl rfl (rfl) rfl) (Ex.move rfl) ?_
    refine WL.u rfl rfl (Wt.guard' rfl rfl rfl (rfl) rfl) (Ex.eql rfl rfl) ?_
    refine WL.u rfl rfl (Wt.guard' rfl rfl rfl (rfl) rfl) (Ex.move rfl) ?_
    refine WL.u rfl rfl (Wt.guard' rfl rfl rfl (rfl) rfl) (Ex.move rfl) ?_
    refine WL.u rfl rfl (Wt.guard' rfl rfl rfl (rfl) rfl) (Ex.indexAddr Try.underlying38 ty3 rfl rfl (by omega)) ?_
    refine WL.u rfl rfl (Wt.guard' rfl rfl rfl (rfl) rfl) (Ex.loadHp flat3 rfl hH (ho64.get rfl (getD_get l2 p 0 (by omega)))) ?_
    refine WL.u rfl rfl (Wt.guard' rfl rfl rfl (rfl) rfl) (Ex.move rfl) ?_
    refine WL.u rfl rfl (Wt.guard' rfl rfl rfl (rfl) rfl) (Ex.eql rfl rfl) ?_
    refine WL.u rfl rfl (Wt.guard' rfl rfl rfl (rfl) rfl) (Ex.eqlB Try.underlying4 rfl rfl) ?_
    refine WL.u rfl rfl (Wt.plain rfl) (Ex.pickT rfl (rfl) rfl) ?_
    refine WL.u rfl rfl (Wt.plain rfl) (Ex.move rfl) ?_
    refine WL.u rfl rfl (Wt.guard' rfl rfl rfl (by
      rw [beq_iff_eq]
      refine decide_eq_decide.2 ?_
      have := hl p hp
      omega) rfl) (Ex.move rfl) ?_
    refine WL.u rfl rfl (Wt.guard' rfl rfl rfl (by
      rw [beq_iff_eq]
      refine decide_eq_decide.2 ?_
      have := hl p hp
      omega) rfl) (Ex.neq rfl rfl) ?_
    refine WL.u rfl rfl (Wt.guard' rfl rfl rfl (by
      rw [beq_iff_eq]
      refine decide_eq_decide.2 ?_
      have := hl p hp
      omega) rfl) (Ex.move rfl) ?_
    refine WL.split (t := 118) rfl (fun hg11_15 => ?_) (fun hg11_15 => ?_)
    · have hg11_15' := hg11_15; try simp only [decide_eq_true_eq, decide_eq_false_iff_not, Bool.not_eq_true', Bool.not_eq_false', Bool.not_eq_true, Bool.not_eq_false] at hg11_15'
      refine WL.pass rfl rfl (Wt.guard' rfl rfl rfl hg11_15 rfl) ?_
      refine WL.pass rfl rfl (Wt.guard' rfl rfl rfl hg11_15 rfl) ?_
      refine WL.pass rfl rfl (Wt.guard' rfl rfl rfl hg11_15 rfl) ?_
      refine WL.u rfl rfl (Wt.guard' rfl rfl rfl (by
        rw [beq_iff_eq]
        refine decide_eq_decide.2 ?_
        have := hl p hp
        omega) rfl) (Ex.pickT rfl hg11_15 rfl) ?_
      refine WL.u rfl rfl (Wt.plain rfl) (Ex.pickT rfl (by
        rw [beq_iff_eq]
        refine decide_eq_decide.2 ?_
        have := hl p hp
        omega) rfl) ?_
      refine WL.u rfl rfl (Wt.plain rfl) (Ex.assign rfl) ?_
      refine WL.next ?_
      refine WC.ret ?_
      refine WN.body1 rfl rfl ?_
      exact ⟨rfl, hH.keep⟩
    have hg11_15' := hg11_15; try simp only [decide_eq_true_eq, decide_eq_false_iff_not, Bool.not_eq_true', Bool.not_eq_false', Bool.not_eq_true, Bool.not_eq_false] at hg11_15'
    refine WL.u rfl rfl (Wt.guard' rfl rfl rfl hg11_15 rfl) (Ex.move rfl) ?_
    refine WL.u rfl rfl (Wt.guard' rfl rfl rfl hg11_15 rfl) (Ex.move rfl) ?_
    refine WL.u rfl rfl (Wt.guard' rfl rfl rfl hg11_15 rfl) (Ex.neqB Try.underlying4 rfl rfl) ?_
    refine WL.u rfl rfl (Wt.guard' rfl rfl rfl (by
      rw [beq_iff_eq]
      refine decide_eq_decide.2 ?_
      have := hl p hp
      omega) rfl) (Ex.pickF rfl hg11_15 rfl) ?_
    refine WL.u rfl rfl (Wt.plain rfl) (Ex.pickT rfl (by
      rw [beq_iff_eq]
      refine decide_eq_decide.2 ?_
      have := hl p hp
      omega) rfl) ?_
    refine WL.u rfl rfl (Wt.plain rfl) (Ex.assign rfl) ?_
    refine WL.next ?_
    refine WC.ret ?_
    refine WN.body1 rfl rfl ?_
    exact ⟨congrArg Value.bool (row_fin (hor (by omega)) (by unfold onRow; rw [Bool.eq_iff_iff]; simp only [Bool.or_eq_true, decide_eq_true_eq, true_iff]; omega) (by unfold onRow; rw [Bool.eq_iff_iff]; simp only [Bool.or_eq_true, decide_eq_true_eq, true_iff]; omega)), hH.keep⟩
  have hg10_3' := hg10_3; try simp only [decide_eq_true_eq, decide_eq_false_iff_not, Bool.not_eq_true', Bool.not_eq_false', Bool.not_eq_true, Bool.not_eq_false] at hg10_3'
  refine WL.pass rfl rfl (Wt.guard' rfl rfl rfl hg10_3 rfl) ?_
  refine WL.pass rfl rfl (Wt.guard' rfl rfl rfl hg10_3 rfl) ?_
  refine WL.pass rfl rfl (Wt.guard' rfl rfl rfl hg10_3 rfl) ?_
  refine WL.pass rfl rfl (Wt.guard' rfl rfl rfl hg10_3 rfl) ?_
  refine WL.pass rfl rfl (Wt.guard' rfl rfl rfl hg10_3 rfl) ?_
  refine WL.u rfl rfl (Wt.plain rfl) (Ex.pickF rfl hg10_3 rfl) ?_
  refine WL.u rfl rfl (Wt.plain rfl) (Ex.move rfl) ?_
  refine WL.u rfl rfl (Wt.guard' rfl rfl rfl rfl rfl) (Ex.move rfl) ?_
  refine WL.u rfl rfl (Wt.guard' rfl rfl rfl rfl rfl) (Ex.move rfl) ?_
  refine WL.u rfl rfl (Wt.guard' rfl rfl rfl rfl rfl) (Ex.mul rfl rfl (by omega)) ?_
  refine WL.u rfl rfl (Wt.guard' rfl rfl rfl rfl rfl) (Ex.move rfl) ?_
  refine WL.u rfl rfl (Wt.guard' rfl rfl rfl rfl rfl) (Ex.add rfl rfl (by omega)) ?_
  refine WL.u rfl rfl (Wt.guard' rfl rfl rfl rfl rfl) (Ex.geq rfl rfl) ?_
  refine WL.u rfl rfl (Wt.plain rfl) (Ex.pickF rfl rfl rfl) ?_
  refine WL.u rfl rfl (Wt.plain rfl) (Ex.assign rfl) ?_
  refine WL.next ?_
  refine WC.seq ?_
  refine WC.region ?_
  refine WL.u rfl rfl (Wt.plain rfl) (Ex.move rfl) ?_
  refine WL.u rfl rfl (Wt.plain rfl) (Ex.move rfl) ?_
  refine WL.u rfl rfl (Wt.guard' rfl rfl rfl (rfl) rfl) (Ex.move rfl) ?_
  refine WL.u rfl rfl (Wt.guard' rfl rfl rfl (rfl) rfl) (Ex.eql rfl rfl) ?_
  refine WL.u rfl rfl (Wt.guard' rfl rfl rfl (rfl) rfl) (Ex.move rfl) ?_
  refine WL.u rfl rfl (Wt.guard' rfl rfl rfl (rfl) rfl) (Ex.move rfl) ?_
  refine WL.u rfl rfl (Wt.guard' rfl rfl rfl (rfl) rfl) (Ex.indexAddr Try.underlying38 ty3 rfl rfl (by omega)) ?_
  refine WL.u rfl rfl (Wt.guard' rfl rfl rfl (rfl) rfl) (Ex.loadHp flat3 rfl hH (ho64.get rfl (getD_get l2 p 0 (by omega)))) ?_
  refine WL.u rfl rfl (Wt.guard' rfl rfl rfl (rfl) rfl) (Ex.move rfl) ?_
  refine WL.u rfl rfl (Wt.guard' rfl rfl rfl (rfl) rfl) (Ex.eql rfl rfl) ?_
  refine WL.u rfl rfl (Wt.guard' rfl rfl rfl (rfl) rfl) (Ex.eqlB Try.underlying4 rfl rfl) ?_
  refine WL.u rfl rfl (Wt.plain rfl) (Ex.pickT rfl (rfl) rfl) ?_
  refine WL.u rfl rfl (Wt.plain rfl) (Ex.move rfl) ?_
  refine WL.u rfl rfl (Wt.guard' rfl rfl rfl (by
    rw [beq_iff_eq]
    refine decide_eq_decide.2 ?_
    have := hl p hp
    omega) rfl) (Ex.move rfl) ?_
  refine WL.u rfl rfl (Wt.guard' rfl rfl rfl (by
    rw [beq_iff_eq]
    refine decide_eq_decide.2 ?_
    have := hl p hp
    omega) rfl) (Ex.neq rfl rfl) ?_
  refine WL.u rfl rfl (Wt.guard' rfl rfl rfl (by
    rw [beq_iff_eq]
    refine decide_eq_decide.2 ?_
    have := hl p hp
    omega) rfl) (Ex.move rfl) ?_
  refine WL.split (t := 118) rfl (fun hg11_15 => ?_) (fun hg11_15 => ?_)
  · have hg11_15' := hg11_15; try simp only [decide_eq_true_eq, decide_eq_false_iff_not, Bool.not_eq_true', Bool.not_eq_false', Bool.not_eq_true, Bool.not_eq_false] at hg11_15'
    refine WL.pass rfl rfl (Wt.guard' rfl rfl rfl hg11_15 rfl) ?_
    refine WL.pass rfl rfl (Wt.guard' rfl rfl rfl hg11_15 rfl) ?_
    refine WL.pass rfl rfl (Wt.guard' rfl rfl rfl hg11_15 rfl) ?_
    refine WL.u rfl rfl (Wt.guard' rfl rfl rfl (by
      rw [beq_iff_eq]
      refine decide_eq_decide.2 ?_
      have := hl p hp
      omega) rfl) (Ex.pickT rfl hg11_15 rfl) ?_
    refine WL.u rfl rfl (Wt.plain rfl) (Ex.pickT rfl (by
      rw [beq_iff_eq]
      refine decide_eq_decide.2 ?_
      have := hl p hp
      omega) rfl) ?_
    refine WL.u rfl rfl (Wt.plain rfl) (Ex.assign rfl) ?_
    refine WL.next ?_
    refine WC.ret ?_
    refine WN.body1 rfl rfl ?_
    exact ⟨rfl, hH.keep⟩
  have hg11_15' := hg11_15; try simp only [decide_eq_true_eq, decide_eq_false_iff_not, Bool.not_eq_true', Bool.not_eq_false', Bool.not_eq_true, Bool.not_eq_false] at hg11_15'
  refine WL.u rfl rfl (Wt.guard' rfl rfl rfl hg11_15 rfl) (Ex.move rfl) ?_
  refine WL.u rfl rfl (Wt.guard' rfl rfl rfl hg11_15 rfl) (Ex.move rfl) ?_
  refine WL.u rfl rfl (Wt.guard' rfl rfl rfl hg11_15 rfl) (Ex.neqB Try.underlying4 rfl rfl) ?_
  refine WL.u rfl rfl (Wt.guard' rfl rfl rfl (by
    rw [beq_iff_eq]
    refine decide_eq_decide.2 ?_
    have := hl p hp
    omega) rfl) (Ex.pickF rfl hg11_15 rfl) ?_
  refine WL.u rfl rfl (Wt.plain rfl) (Ex.pickT rfl (by
    rw [beq_iff_eq]
    refine decide_eq_decide.2 ?_
    have := hl p hp
    omega) rfl) ?_
  refine WL.u rfl rfl (Wt.plain rfl) (Ex.assign rfl) ?_
  refine WL.next ?_
  refine WC.ret ?_
  refine WN.body1 rfl rfl ?_
  exact ⟨congrArg Value.bool (row_fin (hor (by omega)) (by unfold onRow; rw [Bool.eq_iff_iff]; simp only [Bool.or_eq_true, decide_eq_true_eq, true_iff]; omega) (by unfold onRow; rw [Bool.eq_iff_iff]; simp only [Bool.or_eq_true, decide_eq_true_eq, true_iff]; omega)), hH.keep⟩

end Go.Proofs.Ytjejdebmlgjdeaa
