/- The draw of a grid and two ports; grids lead each beam somewhere. -/
import Derived.Test.YtjejdebmlgjdeaaAim
import Derived.Test.YtjejdebmlgjdeaaAimP
import Derived.Test.YtjejdebmlgjdeaaLawCP
namespace Go.Proofs.Ytjejdebmlgjdeaa
set_option maxRecDepth 100000
set_option linter.unusedSimpArgs false
set_option linter.unusedVariables false
open Go Go.RowKit

theorem sl92Small (r : Nat) (a : Option Addr) (l : List UInt8) (cap p : Nat) (w : World) (hr : w.heap[r]? = some (rdo a l.length cap p)) (hc : Sl rByte w a l) (hca : Off [r] a l) (hl : l.length ≤ 2000) (hp : p ≤ 900000) : Fn Try.prog 89 [vptr r 0] w (fun v w1 => ∃ n m q : Nat, v = .tuple #[vint n, vint m] ∧ 1 ≤ n ∧ n ≤ 3 ∧ 1 ≤ m ∧ m ≤ 3 ∧ Keep [r] w w1 ∧ w1.heap[r]? = some (rdo a l.length cap q) ∧ q ≤ p + 10) := by
  refine Fn.enter (n := 26) Try.func89 rfl rfl rfl ?_
  show WC _ _ _ _ [(0, vptr r 0)] _
  have hH := Hp.at1 hr
  refine WC.seq ?_
  refine WC.region ?_
  refine WL.u rfl rfl (Wt.plain rfl) (Ex.assign rfl) ?_
  refine WL.u rfl rfl (Wt.plain rfl) (Ex.assign rfl) ?_
  refine WL.next ?_
  refine WC.seq ?_
  refine WC.region ?_
  refine WL.u rfl rfl (Wt.plain rfl) (Ex.move rfl) ?_
  refine WL.call callable60 rfl (Wt.plain rfl) rfl rfl (spick _ _ _ _ _ 3 _ (hH.at 0 rfl) (hc.keepO hH.keep hca) hca hl (by omega) (by omega)) ?_
  rintro _ wn ⟨k7, rfl, hk7, hKK, ho⟩; replace hH := hH.turn hKK ho; clear hKK ho
  refine WL.u rfl rfl (Wt.plain rfl) (Ex.add rfl rfl (by omega)) ?_
  refine WL.u rfl rfl (Wt.plain rfl) (Ex.assign rfl) ?_
  refine WL.next ?_
  refine WC.seq ?_
  refine WC.region ?_
  refine WL.u rfl rfl (Wt.plain rfl) (Ex.move rfl) ?_
  refine WL.call callable60 rfl (Wt.plain rfl) rfl rfl (spick _ _ _ _ _ 3 _ (hH.at 0 rfl) (hc.keepO hH.keep hca) hca hl (by omega) (by omega)) ?_
  rintro _ wn ⟨k10, rfl, hk10, hKK, ho⟩; replace hH := hH.turn hKK ho; clear hKK ho
  refine WL.u rfl rfl (Wt.plain rfl) (Ex.add rfl rfl (by omega)) ?_
  refine WL.u rfl rfl (Wt.plain rfl) (Ex.assign rfl) ?_
  refine WL.next ?_
  refine WC.seq ?_
  refine WC.seq ?_
  refine WC.region ?_
  refine WL.u rfl rfl (Wt.plain rfl) (Ex.move rfl) ?_
  refine WL.u rfl rfl (Wt.plain rfl) (Ex.eql rfl rfl) ?_
  refine WL.u rfl rfl (Wt.plain rfl) (Ex.move rfl) ?_
  refine WL.split (t := 14) rfl (fun hg3_2 => ?_) (fun hg3_2 => ?_)
  · have hg3_2' := hg3_2; try simp only [decide_eq_true_eq, decide_eq_false_iff_not, Bool.not_eq_true', Bool.not_eq_false', Bool.not_eq_true, Bool.not_eq_false] at hg3_2'
    refine WL.u rfl rfl (Wt.guard' rfl rfl rfl hg3_2 rfl) (Ex.move rfl) ?_
    refine WL.u rfl rfl (Wt.guard' rfl rfl rfl hg3_2 rfl) (Ex.eql rfl rfl) ?_
    refine WL.u rfl rfl (Wt.plain rfl) (Ex.pickT rfl hg3_2 rfl) ?_
    refine WL.next ?_
    refine WC.cond rfl (fun hc1 => ?_) (fun hc1 => ?_)
    · have hc1' := hc1; try simp only [decide_eq_true_eq, decide_eq_false_iff_not, Bool.not_eq_true', Bool.not_eq_false', Bool.not_eq_true, Bool.not_eq_false] at hc1'
      refine WC.seq ?_
      refine WC.region ?_
      refine WL.u rfl rfl (Wt.plain rfl) (Ex.move rfl) ?_
      refine WL.call callable60 rfl (Wt.plain rfl) rfl rfl (spick _ _ _ _ _ 2 _ (hH.at 0 rfl) (hc.keepO hH.keep hca) hca hl (by omega) (by omega)) ?_
      rintro _ wn ⟨k19, rfl, hk19, hKK, ho⟩; replace hH := hH.turn hKK ho; clear hKK ho
      refine WL.u rfl rfl (Wt.plain rfl) (Ex.sub rfl rfl (by omega)) ?_
      refine WL.u rfl rfl (Wt.plain rfl) (Ex.assign rfl) ?_
      refine WL.next ?_
      refine WC.seq ?_
      refine WC.region ?_
      refine WL.u rfl rfl (Wt.plain rfl) (Ex.move rfl) ?_
      refine WL.call callable60 rfl (Wt.plain rfl) rfl rfl (spick _ _ _ _ _ 8 _ (hH.at 0 rfl) (hc.keepO hH.keep hca) hca hl (by omega) (by omega)) ?_
      rintro _ wn ⟨k22, rfl, hk22, hKK, ho⟩; replace hH := hH.turn hKK ho; clear hKK ho
      refine WL.u rfl rfl (Wt.plain rfl) (Ex.eql rfl rfl) ?_
      refine WL.next ?_
      refine WC.cond rfl (fun hc2 => ?_) (fun hc2 => ?_)
      · have hc2' := hc2; try simp only [decide_eq_true_eq, decide_eq_false_iff_not, Bool.not_eq_true', Bool.not_eq_false', Bool.not_eq_true, Bool.not_eq_false] at hc2'
        refine WC.region ?_
        refine WL.u rfl rfl (Wt.plain rfl) (Ex.assign rfl) ?_
        refine WL.next ?_
        refine WC.seq ?_
        refine WC.region ?_
        refine WL.u rfl rfl (Wt.plain rfl) (Ex.move rfl) ?_
        refine WL.u rfl rfl (Wt.plain rfl) (Ex.move rfl) ?_
        refine WL.u rfl rfl (Wt.plain rfl) (Ex.assign rfl) ?_
        refine WL.u rfl rfl (Wt.plain rfl) (Ex.assign rfl) ?_
        refine WL.next ?_
        refine WC.ret ?_
        refine WN.body2 rfl rfl rfl ?_
        exact ⟨1 + k7, 3, _, rfl, by omega, by omega, by omega, by omega, hH.keep, hH.at 0 rfl, by omega⟩
      have hc2' := hc2; try simp only [decide_eq_true_eq, decide_eq_false_iff_not, Bool.not_eq_true', Bool.not_eq_false', Bool.not_eq_true, Bool.not_eq_false] at hc2'
      refine WC.skip ?_
      refine WN.next ?_
      refine WC.seq ?_
      refine WC.region ?_
      refine WL.u rfl rfl (Wt.plain rfl) (Ex.move rfl) ?_
      refine WL.u rfl rfl (Wt.plain rfl) (Ex.move rfl) ?_
      refine WL.u rfl rfl (Wt.plain rfl) (Ex.assign rfl) ?_
      refine WL.u rfl rfl (Wt.plain rfl) (Ex.assign rfl) ?_
      refine WL.next ?_
      refine WC.ret ?_
      refine WN.body2 rfl rfl rfl ?_
      exact ⟨1 + k7, 2 - k19, _, congrArg (fun x : Int => Value.tuple #[_, vint x]) (show (2 : Int) - (k19 : Int) = ((2 - k19 : Nat) : Int) by omega), by omega, by omega, by omega, by omega, hH.keep, hH.at 0 rfl, by omega⟩
    have hc1' := hc1; try simp only [decide_eq_true_eq, decide_eq_false_iff_not, Bool.not_eq_true', Bool.not_eq_false', Bool.not_eq_true, Bool.not_eq_false] at hc1'
    refine WC.skip ?_
    refine WN.next ?_
    refine WC.seq ?_
    refine WC.region ?_
    refine WL.u rfl rfl (Wt.plain rfl) (Ex.move rfl) ?_
    refine WL.u rfl rfl (Wt.plain rfl) (Ex.move rfl) ?_
    refine WL.u rfl rfl (Wt.plain rfl) (Ex.assign rfl) ?_
    refine WL.u rfl rfl (Wt.plain rfl) (Ex.assign rfl) ?_
    refine WL.next ?_
    refine WC.ret ?_
    refine WN.body2 rfl rfl rfl ?_
    exact ⟨1 + k7, 1 + k10, _, rfl, by omega, by omega, by omega, by omega, hH.keep, hH.at 0 rfl, by omega⟩
  have hg3_2' := hg3_2; try simp only [decide_eq_true_eq, decide_eq_false_iff_not, Bool.not_eq_true', Bool.not_eq_false', Bool.not_eq_true, Bool.not_eq_false] at hg3_2'
  refine WL.pass rfl rfl (Wt.guard' rfl rfl rfl hg3_2 rfl) ?_
  refine WL.pass rfl rfl (Wt.guard' rfl rfl rfl hg3_2 rfl) ?_
  refine WL.u rfl rfl (Wt.plain rfl) (Ex.pickF rfl hg3_2 rfl) ?_
  refine WL.next ?_
  refine WC.condF rfl rfl ?_
  refine WC.skip ?_
  refine WN.next ?_
  refine WC.seq ?_
  refine WC.region ?_
  refine WL.u rfl rfl (Wt.plain rfl) (Ex.move rfl) ?_
  refine WL.u rfl rfl (Wt.plain rfl) (Ex.move rfl) ?_
  refine WL.u rfl rfl (Wt.plain rfl) (Ex.assign rfl) ?_
  refine WL.u rfl rfl (Wt.plain rfl) (Ex.assign rfl) ?_
  refine WL.next ?_
  refine WC.ret ?_
  refine WN.body2 rfl rfl rfl ?_
  exact ⟨1 + k7, 1 + k10, _, rfl, by omega, by omega, by omega, by omega, hH.keep, hH.at 0 rfl, by omega⟩

theorem sl92Aim (a : Option Addr) (l : List UInt8) (cap : Nat) (most : Int) (w : World) (hc : Sl rByte w a l) (hcap : l.length ≤ cap) : Fn Try.prog 56 [.slice a l.length cap, vint most] w (fun v w1 => ∃ (g : Grid) (p q : Int) (x : Value), v = .tuple #[x, vint p, vint q] ∧ Keep [] w w1 ∧ New rStr 9 w w1 x g ∧ (1 ≤ g.length ∧ g.length ≤ 3) ∧ (∀ s ∈ g, s.length ≤ 3) ∧ (-300 ≤ p ∧ p ≤ 300) ∧ (-300 ≤ q ∧ q ≤ 300)) := by
  refine Fn.enter (n := 59) Try.func56 rfl rfl rfl ?_
  show WC _ _ _ _ [(0, .slice a l.length cap), (1, vint most)] _
  have hH := Hp.start [] w
  replace hc := hc.take 2000
  have hl := List.length_take_le 2000 l
  refine WC.seq ?_
  refine WC.region ?_
  refine WL.u rfl rfl (Wt.plain rfl) (Ex.assign rfl) ?_
  refine WL.u rfl rfl (Wt.plain rfl) (Ex.assign rfl) ?_
  refine WL.u rfl rfl (Wt.plain rfl) (Ex.assign rfl) ?_
  refine WL.next ?_
  refine WC.seq ?_
  refine WC.region ?_
  refine WL.u rfl rfl (Wt.plain rfl) (Ex.move rfl) ?_
  refine WL.call callable59 rfl (Wt.plain rfl) rfl rfl (sl6Open _ _ _ _ hcap) ?_
  rintro _ wn ⟨r, rfl, hrn, hC, hro⟩; have hca := (hc.kept hH.keep).offNew hrn; replace hH := hH.push hC hrn hro; clear hC hro
  refine WL.u rfl rfl (Wt.plain rfl) (Ex.assign rfl) ?_
  refine WL.next ?_
  refine WC.seq ?_
  refine WC.region ?_
  refine WL.u rfl rfl (Wt.plain rfl) (Ex.move rfl) ?_
  refine WL.call callable89 rfl (Wt.plain rfl) rfl rfl (sl92Small _ _ _ _ _  _ (hH.at 0 rfl) (hc.kept hH.keep) hca hl (by omega) ) ?_
  rintro _ wn ⟨n, m, q, rfl, hn1, hn3, hm1, hm3, hKK, ho, hq⟩; replace hH := hH.turn hKK ho; clear hKK ho
  refine WL.u rfl rfl (Wt.plain rfl) (Ex.move rfl) ?_
  refine WL.u rfl rfl (Wt.plain rfl) (Ex.extract rfl rfl) ?_
  refine WL.u rfl rfl (Wt.plain rfl) (Ex.extract rfl rfl) ?_
  refine WL.u rfl rfl (Wt.plain rfl) (Ex.assign rfl) ?_
  refine WL.u rfl rfl (Wt.plain rfl) (Ex.assign rfl) ?_
  refine WL.next ?_
  refine WC.seq ?_
  refine WC.region ?_
  refine WL.u rfl rfl (Wt.plain rfl) (Ex.move rfl) ?_
  refine WL.u rfl rfl (Wt.plain rfl) (Ex.move rfl) ?_
  refine WL.u rfl rfl (Wt.plain rfl) (Ex.move rfl) ?_
  refine WL.call callable90 rfl (Wt.plain rfl) rfl rfl (sl91Of _ _ _ _ _ n m _ (hH.at 0 rfl) (hc.kept hH.keep) hca hl (by omega) (by omega) (by omega)) ?_
  rintro _ wn ⟨g, q2, hN, hgl, hgr, hKK, ho, hq2⟩; obtain ⟨b23, cap23, cur23, rfl, hge23, hbb23, ho23⟩ := hN.own; replace hH := hH.turnPush hKK ho hge23 hbb23; clear hKK ho hN
  refine WL.u rfl rfl (Wt.plain rfl) (Ex.assign rfl) ?_
  refine WL.next ?_
  refine WC.seq ?_
  refine WC.seq ?_
  refine WC.region ?_
  refine WL.u rfl rfl (Wt.plain rfl) (Ex.move rfl) ?_
  refine WL.u rfl rfl (Wt.plain rfl) (Ex.gtr rfl rfl) ?_
  refine WL.u rfl rfl (Wt.plain rfl) (Ex.move rfl) ?_
  refine WL.split (t := 26) rfl (fun hg4_2 => ?_) (fun hg4_2 => ?_)
  · have hg4_2' := hg4_2; try simp only [decide_eq_true_eq, decide_eq_false_iff_not, Bool.not_eq_true', Bool.not_eq_false', Bool.not_eq_true, Bool.not_eq_false] at hg4_2'
    refine WL.u rfl rfl (Wt.guard' rfl rfl rfl hg4_2 rfl) (Ex.move rfl) ?_
    replace hH := hH.f1
    refine WL.call callable60 rfl (Wt.guard' rfl rfl rfl hg4_2 rfl) rfl rfl (spick _ _ _ _ _ 4 _ (hH.at 0 rfl) (hc.kept hH.keep) hca hl (by omega) (by omega)) ?_
    rintro _ wn ⟨k28, rfl, hk28, hKK, ho⟩; replace hH := hH.turn hKK ho; clear hKK ho
    refine WL.u rfl rfl (Wt.guard' rfl rfl rfl hg4_2 rfl) (Ex.eql rfl rfl) ?_
    refine WL.u rfl rfl (Wt.plain rfl) (Ex.pickT rfl hg4_2 rfl) ?_
    refine WL.next ?_
    refine WC.cond rfl (fun hc1 => ?_) (fun hc1 => ?_)
    · have hc1' := hc1; try simp only [decide_eq_true_eq, decide_eq_false_iff_not, Bool.not_eq_true', Bool.not_eq_false', Bool.not_eq_true, Bool.not_eq_false] at hc1'
      refine WC.region ?_
      refine WL.u rfl rfl (Wt.plain rfl) (Ex.move rfl) ?_
      refine WL.call callable90 rfl (Wt.plain rfl) rfl rfl (sl91Of _ _ _ _ _ 3 3 _ (hH.at 0 rfl) (hc.kept hH.keep) hca hl (by omega) (by omega) (by omega)) ?_
      rintro _ wn ⟨g, q3, hN, hgl, hgr, hKK, ho, hq3⟩; obtain ⟨b32, cap32, cur32, rfl, hge32, hbb32, ho32⟩ := hN.own; replace hH := hH.turnPush hKK ho hge32 hbb32; clear hKK ho hN
      refine WL.u rfl rfl (Wt.plain rfl) (Ex.assign rfl) ?_
      refine WL.next ?_
      refine WC.seq ?_
      have hg0 := getD_get g 0 [] (by omega)
      have hr0 := hgr _ (List.mem_of_getElem? hg0)
      refine WC.region ?_
      refine WL.u rfl rfl (Wt.plain rfl) (Ex.move rfl) ?_
      refine WL.u rfl rfl (Wt.plain rfl) (Ex.lenSl Try.underlying22 rfl) ?_
      refine WL.u rfl rfl (Wt.plain rfl) (Ex.move rfl) ?_
      refine WL.u rfl rfl (Wt.plain rfl) (Ex.indexAddr Try.underlying22 ty9 rfl rfl (by omega)) ?_
      refine WL.u rfl rfl (Wt.plain rfl) (Ex.loadHp flat9 rfl hH (ho32.get rfl (hg0))) ?_
      refine WL.u rfl rfl (Wt.plain rfl) (Ex.lenStr Try.underlying9 rfl) ?_
      refine WL.call callable61 rfl (Wt.plain rfl) rfl rfl (sl2Ports _ _ _ (by omega) (by omega)) ?_
      rintro _ _ ⟨rfl, hw⟩; obtain rfl := hw.symm
      refine WL.u rfl rfl (Wt.plain rfl) (Ex.assign rfl) ?_
      refine WL.next ?_
      refine WC.seq ?_
      refine WC.region ?_
      refine WL.u rfl rfl (Wt.plain rfl) (Ex.move rfl) ?_
      refine WL.u rfl rfl (Wt.plain rfl) (Ex.move rfl) ?_
      replace hH := hH.f1
      refine WL.call callable60 rfl (Wt.plain rfl) rfl rfl (spick _ _ _ _ _ (2 * (g.length + (g.getD 0 []).length)) _ (hH.at 0 rfl) (hc.kept hH.keep) hca hl (by omega) (by omega)) ?_
      rintro _ wn ⟨k42, rfl, hk42, hKK, ho⟩; replace hH := hH.turn hKK ho; clear hKK ho
      refine WL.u rfl rfl (Wt.plain rfl) (Ex.assign rfl) ?_
      refine WL.next ?_
      refine WC.seq ?_
      have hQ := hH
      refine WC.plan (Keep [r] _) [(0, true), (1, true), (2, true), (3, true), (4, true), (5, true), (6, true), (9, true), (11, true), (7, false), (8, true), (10, true), (12, false), (13, true), (14, true), (15, true), (16, true), (17, true), (18, true)] rfl (by kernel_rfl) (Keep.drew _ _) (fun hR => ?_)
      replace hH := hH.drew
      refine WPl.q rfl rfl rfl (Wt.plain rfl) (fun w hC => Ex.move rfl) ?_
      refine WPl.q rfl rfl rfl (Wt.plain rfl) (fun w hC => Ex.move rfl) ?_
      refine WPl.q rfl rfl rfl (Wt.plain rfl) (fun w hC => Ex.move rfl) ?_
      refine WPl.q rfl rfl rfl (Wt.plain rfl) (fun w hC => Ex.add rfl rfl (by omega)) ?_
      refine WPl.q rfl rfl rfl (Wt.plain rfl) (fun w hC => Ex.move rfl) ?_
      refine WPl.q rfl rfl rfl (Wt.plain rfl) (fun w hC => Ex.move rfl) ?_
      refine WPl.q rfl rfl rfl (Wt.plain rfl) (fun w hC => (Ex.sub rfl rfl (by omega)).to (congrArg (Value.int IntKind.i64) (show _ = ((2 * (g.length + (g.getD 0 []).length) - 1 : Nat) : Int) by omega))) ?_
      refine WPl.q rfl rfl rfl (Wt.plain rfl) (fun w hC => Ex.move rfl) ?_
      refine WPl.q rfl rfl rfl (Wt.plain rfl) (fun w hC => Ex.move rfl) ?_
      refine WPl.f rfl ?_
      refine WL.call callable60 rfl (Wt.plain rfl) rfl rfl (spick _ _ _ _ _ (2 * (g.length + (g.getD 0 []).length) - 1) _ (hH.at 0 rfl) (hc.kept hH.keep) hca hl (by omega) (by omega)) ?_
      rintro _ wn ⟨k50, rfl, hk50, hKK, ho⟩; replace hH := hH.turn hKK ho; replace hR := hR.trans hKK; clear hKK ho
      refine WPl.b hR ?_
      refine WPl.q rfl rfl rfl (Wt.plain rfl) (fun w hC => Ex.add rfl rfl (by omega)) ?_
      obtain ⟨km, hkm, hkm2⟩ := remN ((k42 : Int) + 1 + (k50 : Int)) (2 * (g.length + (g.getD 0 []).length)) (by omega)
      refine WPl.q rfl rfl rfl (Wt.plain rfl) (fun w hC => (Ex.rem rfl rfl (by omega) (by omega)).to (congrArg (Value.int IntKind.i64) hkm)) ?_
      refine WPl.f rfl ?_
      refine WL.call callable60 rfl (Wt.plain rfl) rfl rfl (spick _ _ _ _ _ 40 _ (hH.at 0 rfl) (hc.kept hH.keep) hca hl (by omega) (by omega)) ?_
      rintro _ wn ⟨k55, rfl, hk55, hKK, ho⟩; replace hH := hH.turn hKK ho; replace hR := hR.trans hKK; clear hKK ho
      refine WPl.b hR ?_
      refine WPl.q rfl rfl rfl (Wt.plain rfl) (fun w hC => Ex.quo rfl rfl (by omega) (by omega)) ?_
      refine WPl.q rfl rfl rfl (Wt.plain rfl) (fun w hC => Ex.mul rfl rfl (by omega)) ?_
      refine WPl.q rfl rfl rfl (Wt.plain rfl) (fun w hC => Ex.add rfl rfl (by omega)) ?_
      refine WPl.q rfl rfl rfl (Wt.plain rfl) (fun w hC => Ex.assign rfl) ?_
      refine WPl.q rfl rfl rfl (Wt.plain rfl) (fun w hC => Ex.assign rfl) ?_
      refine WPl.q rfl rfl rfl (Wt.plain rfl) (fun w hC => Ex.assign rfl) ?_
      refine WPl.nil (fun hC => ?_); clear hC
      refine WN.next ?_
      refine WC.ret ?_
      refine WN.body3 rfl rfl rfl rfl ?_
      exact ⟨g, _, _, _, rfl, hH.keep, New.of (hH.front 1 rfl) ho32 (hH.base 1 rfl), by omega, fun s hs => by have := hgr s hs; omega, by omega, by omega⟩
    have hc1' := hc1; try simp only [decide_eq_true_eq, decide_eq_false_iff_not, Bool.not_eq_true', Bool.not_eq_false', Bool.not_eq_true, Bool.not_eq_false] at hc1'
    refine WC.skip ?_
    refine WN.next ?_
    refine WC.seq ?_
    have hg0 := getD_get g 0 [] (by omega)
    have hr0 := hgr _ (List.mem_of_getElem? hg0)
    refine WC.region ?_
    refine WL.u rfl rfl (Wt.plain rfl) (Ex.move rfl) ?_
    refine WL.u rfl rfl (Wt.plain rfl) (Ex.lenSl Try.underlying22 rfl) ?_
    refine WL.u rfl rfl (Wt.plain rfl) (Ex.move rfl) ?_
    refine WL.u rfl rfl (Wt.plain rfl) (Ex.indexAddr Try.underlying22 ty9 rfl rfl (by omega)) ?_
    replace hH := hH.f1
    refine WL.u rfl rfl (Wt.plain rfl) (Ex.loadHp flat9 rfl hH (ho23.get rfl (hg0))) ?_
    refine WL.u rfl rfl (Wt.plain rfl) (Ex.lenStr Try.underlying9 rfl) ?_
    refine WL.call callable61 rfl (Wt.plain rfl) rfl rfl (sl2Ports _ _ _ (by omega) (by omega)) ?_
    rintro _ _ ⟨rfl, hw⟩; obtain rfl := hw.symm
    refine WL.u rfl rfl (Wt.plain rfl) (Ex.assign rfl) ?_
    refine WL.next ?_
    refine WC.seq ?_
    refine WC.region ?_
    refine WL.u rfl rfl (Wt.plain rfl) (Ex.move rfl) ?_
    refine WL.u rfl rfl (Wt.plain rfl) (Ex.move rfl) ?_
    replace hH := hH.f1
    refine WL.call callable60 rfl (Wt.plain rfl) rfl rfl (spick _ _ _ _ _ (2 * (g.length + (g.getD 0 []).length)) _ (hH.at 0 rfl) (hc.kept hH.keep) hca hl (by omega) (by omega)) ?_
    rintro _ wn ⟨k42, rfl, hk42, hKK, ho⟩; replace hH := hH.turn hKK ho; clear hKK ho
    refine WL.u rfl rfl (Wt.plain rfl) (Ex.assign rfl) ?_
    refine WL.next ?_
    refine WC.seq ?_
    have hQ := hH
    refine WC.plan (Keep [r] _) [(0, true), (1, true), (2, true), (3, true), (4, true), (5, true), (6, true), (9, true), (11, true), (7, false), (8, true), (10, true), (12, false), (13, true), (14, true), (15, true), (16, true), (17, true), (18, true)] rfl (by kernel_rfl) (Keep.drew _ _) (fun hR => ?_)
    replace hH := hH.drew
    refine WPl.q rfl rfl rfl (Wt.plain rfl) (fun w hC => Ex.move rfl) ?_
    refine WPl.q rfl rfl rfl (Wt.plain rfl) (fun w hC => Ex.move rfl) ?_
    refine WPl.q rfl rfl rfl (Wt.plain rfl) (fun w hC => Ex.move rfl) ?_
    refine WPl.q rfl rfl rfl (Wt.plain rfl) (fun w hC => Ex.add rfl rfl (by omega)) ?_
    refine WPl.q rfl rfl rfl (Wt.plain rfl) (fun w hC => Ex.move rfl) ?_
    refine WPl.q rfl rfl rfl (Wt.plain rfl) (fun w hC => Ex.move rfl) ?_
    refine WPl.q rfl rfl rfl (Wt.plain rfl) (fun w hC => (Ex.sub rfl rfl (by omega)).to (congrArg (Value.int IntKind.i64) (show _ = ((2 * (g.length + (g.getD 0 []).length) - 1 : Nat) : Int) by omega))) ?_
    refine WPl.q rfl rfl rfl (Wt.plain rfl) (fun w hC => Ex.move rfl) ?_
    refine WPl.q rfl rfl rfl (Wt.plain rfl) (fun w hC => Ex.move rfl) ?_
    refine WPl.f rfl ?_
    refine WL.call callable60 rfl (Wt.plain rfl) rfl rfl (spick _ _ _ _ _ (2 * (g.length + (g.getD 0 []).length) - 1) _ (hH.at 0 rfl) (hc.kept hH.keep) hca hl (by omega) (by omega)) ?_
    rintro _ wn ⟨k50, rfl, hk50, hKK, ho⟩; replace hH := hH.turn hKK ho; replace hR := hR.trans hKK; clear hKK ho
    refine WPl.b hR ?_
    refine WPl.q rfl rfl rfl (Wt.plain rfl) (fun w hC => Ex.add rfl rfl (by omega)) ?_
    obtain ⟨km, hkm, hkm2⟩ := remN ((k42 : Int) + 1 + (k50 : Int)) (2 * (g.length + (g.getD 0 []).length)) (by omega)
    refine WPl.q rfl rfl rfl (Wt.plain rfl) (fun w hC => (Ex.rem rfl rfl (by omega) (by omega)).to (congrArg (Value.int IntKind.i64) hkm)) ?_
    refine WPl.f rfl ?_
    refine WL.call callable60 rfl (Wt.plain rfl) rfl rfl (spick _ _ _ _ _ 40 _ (hH.at 0 rfl) (hc.kept hH.keep) hca hl (by omega) (by omega)) ?_
    rintro _ wn ⟨k55, rfl, hk55, hKK, ho⟩; replace hH := hH.turn hKK ho; replace hR := hR.trans hKK; clear hKK ho
    refine WPl.b hR ?_
    refine WPl.q rfl rfl rfl (Wt.plain rfl) (fun w hC => Ex.quo rfl rfl (by omega) (by omega)) ?_
    refine WPl.q rfl rfl rfl (Wt.plain rfl) (fun w hC => Ex.mul rfl rfl (by omega)) ?_
    refine WPl.q rfl rfl rfl (Wt.plain rfl) (fun w hC => Ex.add rfl rfl (by omega)) ?_
    refine WPl.q rfl rfl rfl (Wt.plain rfl) (fun w hC => Ex.assign rfl) ?_
    refine WPl.q rfl rfl rfl (Wt.plain rfl) (fun w hC => Ex.assign rfl) ?_
    refine WPl.q rfl rfl rfl (Wt.plain rfl) (fun w hC => Ex.assign rfl) ?_
    refine WPl.nil (fun hC => ?_); clear hC
    refine WN.next ?_
    refine WC.ret ?_
    refine WN.body3 rfl rfl rfl rfl ?_
    exact ⟨g, _, _, _, rfl, hH.keep, New.of (hH.front 1 rfl) ho23 (hH.base 1 rfl), by omega, fun s hs => by have := hgr s hs; omega, by omega, by omega⟩
  have hg4_2' := hg4_2; try simp only [decide_eq_true_eq, decide_eq_false_iff_not, Bool.not_eq_true', Bool.not_eq_false', Bool.not_eq_true, Bool.not_eq_false] at hg4_2'
  refine WL.pass rfl rfl (Wt.guard' rfl rfl rfl hg4_2 rfl) ?_
  refine WL.pass rfl rfl (Wt.guard' rfl rfl rfl hg4_2 rfl) ?_
  refine WL.pass rfl rfl (Wt.guard' rfl rfl rfl hg4_2 rfl) ?_
  refine WL.u rfl rfl (Wt.plain rfl) (Ex.pickF rfl hg4_2 rfl) ?_
  refine WL.next ?_
  refine WC.condF rfl rfl ?_
  refine WC.skip ?_
  refine WN.next ?_
  refine WC.seq ?_
  have hg0 := getD_get g 0 [] (by omega)
  have hr0 := hgr _ (List.mem_of_getElem? hg0)
  refine WC.region ?_
  refine WL.u rfl rfl (Wt.plain rfl) (Ex.move rfl) ?_
  refine WL.u rfl rfl (Wt.plain rfl) (Ex.lenSl Try.underlying22 rfl) ?_
  refine WL.u rfl rfl (Wt.plain rfl) (Ex.move rfl) ?_
  refine WL.u rfl rfl (Wt.plain rfl) (Ex.indexAddr Try.underlying22 ty9 rfl rfl (by omega)) ?_
  refine WL.u rfl rfl (Wt.plain rfl) (Ex.loadHp flat9 rfl hH (ho23.get rfl (hg0))) ?_
  refine WL.u rfl rfl (Wt.plain rfl) (Ex.lenStr Try.underlying9 rfl) ?_
  refine WL.call callable61 rfl (Wt.plain rfl) rfl rfl (sl2Ports _ _ _ (by omega) (by omega)) ?_
  rintro _ _ ⟨rfl, hw⟩; obtain rfl := hw.symm
  refine WL.u rfl rfl (Wt.plain rfl) (Ex.assign rfl) ?_
  refine WL.next ?_
  refine WC.seq ?_
  refine WC.region ?_
  refine WL.u rfl rfl (Wt.plain rfl) (Ex.move rfl) ?_
  refine WL.u rfl rfl (Wt.plain rfl) (Ex.move rfl) ?_
  replace hH := hH.f1
  refine WL.call callable60 rfl (Wt.plain rfl) rfl rfl (spick _ _ _ _ _ (2 * (g.length + (g.getD 0 []).length)) _ (hH.at 0 rfl) (hc.kept hH.keep) hca hl (by omega) (by omega)) ?_
  rintro _ wn ⟨k42, rfl, hk42, hKK, ho⟩; replace hH := hH.turn hKK ho; clear hKK ho
  refine WL.u rfl rfl (Wt.plain rfl) (Ex.assign rfl) ?_
  refine WL.next ?_
  refine WC.seq ?_
  have hQ := hH
  refine WC.plan (Keep [r] _) [(0, true), (1, true), (2, true), (3, true), (4, true), (5, true), (6, true), (9, true), (11, true), (7, false), (8, true), (10, true), (12, false), (13, true), (14, true), (15, true), (16, true), (17, true), (18, true)] rfl (by kernel_rfl) (Keep.drew _ _) (fun hR => ?_)
  replace hH := hH.drew
  refine WPl.q rfl rfl rfl (Wt.plain rfl) (fun w hC => Ex.move rfl) ?_
  refine WPl.q rfl rfl rfl (Wt.plain rfl) (fun w hC => Ex.move rfl) ?_
  refine WPl.q rfl rfl rfl (Wt.plain rfl) (fun w hC => Ex.move rfl) ?_
  refine WPl.q rfl rfl rfl (Wt.plain rfl) (fun w hC => Ex.add rfl rfl (by omega)) ?_
  refine WPl.q rfl rfl rfl (Wt.plain rfl) (fun w hC => Ex.move rfl) ?_
  refine WPl.q rfl rfl rfl (Wt.plain rfl) (fun w hC => Ex.move rfl) ?_
  refine WPl.q rfl rfl rfl (Wt.plain rfl) (fun w hC => (Ex.sub rfl rfl (by omega)).to (congrArg (Value.int IntKind.i64) (show _ = ((2 * (g.length + (g.getD 0 []).length) - 1 : Nat) : Int) by omega))) ?_
  refine WPl.q rfl rfl rfl (Wt.plain rfl) (fun w hC => Ex.move rfl) ?_
  refine WPl.q rfl rfl rfl (Wt.plain rfl) (fun w hC => Ex.move rfl) ?_
  refine WPl.f rfl ?_
  refine WL.call callable60 rfl (Wt.plain rfl) rfl rfl (spick _ _ _ _ _ (2 * (g.length + (g.getD 0 []).length) - 1) _ (hH.at 0 rfl) (hc.kept hH.keep) hca hl (by omega) (by omega)) ?_
  rintro _ wn ⟨k50, rfl, hk50, hKK, ho⟩; replace hH := hH.turn hKK ho; replace hR := hR.trans hKK; clear hKK ho
  refine WPl.b hR ?_
  refine WPl.q rfl rfl rfl (Wt.plain rfl) (fun w hC => Ex.add rfl rfl (by omega)) ?_
  obtain ⟨km, hkm, hkm2⟩ := remN ((k42 : Int) + 1 + (k50 : Int)) (2 * (g.length + (g.getD 0 []).length)) (by omega)
  refine WPl.q rfl rfl rfl (Wt.plain rfl) (fun w hC => (Ex.rem rfl rfl (by omega) (by omega)).to (congrArg (Value.int IntKind.i64) hkm)) ?_
  refine WPl.f rfl ?_
  refine WL.call callable60 rfl (Wt.plain rfl) rfl rfl (spick _ _ _ _ _ 40 _ (hH.at 0 rfl) (hc.kept hH.keep) hca hl (by omega) (by omega)) ?_
  rintro _ wn ⟨k55, rfl, hk55, hKK, ho⟩; replace hH := hH.turn hKK ho; replace hR := hR.trans hKK; clear hKK ho
  refine WPl.b hR ?_
  refine WPl.q rfl rfl rfl (Wt.plain rfl) (fun w hC => Ex.quo rfl rfl (by omega) (by omega)) ?_
  refine WPl.q rfl rfl rfl (Wt.plain rfl) (fun w hC => Ex.mul rfl rfl (by omega)) ?_
  refine WPl.q rfl rfl rfl (Wt.plain rfl) (fun w hC => Ex.add rfl rfl (by omega)) ?_
  refine WPl.q rfl rfl rfl (Wt.plain rfl) (fun w hC => Ex.assign rfl) ?_
  refine WPl.q rfl rfl rfl (Wt.plain rfl) (fun w hC => Ex.assign rfl) ?_
  refine WPl.q rfl rfl rfl (Wt.plain rfl) (fun w hC => Ex.assign rfl) ?_
  refine WPl.nil (fun hC => ?_); clear hC
  refine WN.next ?_
  refine WC.ret ?_
  refine WN.body3 rfl rfl rfl rfl ?_
  exact ⟨g, _, _, _, rfl, hH.keep, New.of (hH.front 1 rfl) ho23 (hH.base 1 rfl), by omega, fun s hs => by have := hgr s hs; omega, by omega, by omega⟩

theorem sDrawAimTry (a : Option Addr) (l : List UInt8) (cap : Nat) (w : World) (hc : Sl rByte w a l) (hcap : l.length ≤ cap) : Fn Try.prog 26 [.slice a l.length cap] w (fun v w1 => ∃ (g : Grid) (p q : Int) (x : Value), v = .tuple #[x, vint p, vint q] ∧ Keep [] w w1 ∧ New rStr 9 w w1 x g ∧ (1 ≤ g.length ∧ g.length ≤ 3) ∧ (∀ s ∈ g, s.length ≤ 3) ∧ (-300 ≤ p ∧ p ≤ 300) ∧ (-300 ≤ q ∧ q ≤ 300)) := by
  refine Fn.enter (n := 10) Try.func26 rfl rfl rfl ?_
  show WC _ _ _ _ [(0, .slice a l.length cap)] _
  have hH := Hp.start [] w
  refine WC.seq ?_
  refine WC.region ?_
  refine WL.u rfl rfl (Wt.plain rfl) (Ex.assign rfl) ?_
  refine WL.u rfl rfl (Wt.plain rfl) (Ex.assign rfl) ?_
  refine WL.u rfl rfl (Wt.plain rfl) (Ex.assign rfl) ?_
  refine WL.next ?_
  refine WC.seq ?_
  refine WC.region ?_
  refine WL.u rfl rfl (Wt.plain rfl) (Ex.move rfl) ?_
  refine WL.call callable56 rfl (Wt.plain rfl) rfl rfl (sl92Aim _ _ _ _ _ (hc.kept hH.keep) hcap) ?_
  rintro _ wn ⟨g, p, q, x, rfl, hC, hN, hgl, hgr, hpb, hqb⟩; obtain ⟨b6, cap6, cur6, rfl, hge6, hbb6, ho6⟩ := hN.own; replace hH := hH.push hC hge6 hbb6; clear hC hN
  refine WL.u rfl rfl (Wt.plain rfl) (Ex.extract rfl rfl) ?_
  refine WL.u rfl rfl (Wt.plain rfl) (Ex.extract rfl rfl) ?_
  refine WL.u rfl rfl (Wt.plain rfl) (Ex.extract rfl rfl) ?_
  refine WL.u rfl rfl (Wt.plain rfl) (Ex.assign rfl) ?_
  refine WL.u rfl rfl (Wt.plain rfl) (Ex.assign rfl) ?_
  refine WL.u rfl rfl (Wt.plain rfl) (Ex.assign rfl) ?_
  refine WL.next ?_
  refine WC.ret ?_
  refine WN.body3 rfl rfl rfl rfl ?_
  exact ⟨g, p, q, _, rfl, hH.keep, New.of hH ho6 (hH.base 0 rfl), hgl, hgr, hpb, hqb⟩

theorem sDrawAimGo (a : Option Addr) (l : List UInt8) (cap : Nat) (w : World) (hc : Sl rByte w a l) (hcap : l.length ≤ cap) : Fn Try.prog 22 [.slice a l.length cap] w (fun v w1 => ∃ (g : Grid) (p q : Int) (x : Value), v = .tuple #[x, vint p, vint q] ∧ Keep [] w w1 ∧ New rStr 9 w w1 x g ∧ (1 ≤ g.length ∧ g.length ≤ 3) ∧ (∀ s ∈ g, s.length ≤ 3) ∧ (-300 ≤ p ∧ p ≤ 300) ∧ (-300 ≤ q ∧ q ≤ 300)) := by
  refine Fn.enter (n := 10) Try.func22 rfl rfl rfl ?_
  show WC _ _ _ _ [(0, .slice a l.length cap)] _
  have hH := Hp.start [] w
  refine WC.seq ?_
  refine WC.region ?_
  refine WL.u rfl rfl (Wt.plain rfl) (Ex.assign rfl) ?_
  refine WL.u rfl rfl (Wt.plain rfl) (Ex.assign rfl) ?_
  refine WL.u rfl rfl (Wt.plain rfl) (Ex.assign rfl) ?_
  refine WL.next ?_
  refine WC.seq ?_
  refine WC.region ?_
  refine WL.u rfl rfl (Wt.plain rfl) (Ex.move rfl) ?_
  refine WL.call callable56 rfl (Wt.plain rfl) rfl rfl (sl92Aim _ _ _ _ _ (hc.kept hH.keep) hcap) ?_
  rintro _ wn ⟨g, p, q, x, rfl, hC, hN, hgl, hgr, hpb, hqb⟩; obtain ⟨b6, cap6, cur6, rfl, hge6, hbb6, ho6⟩ := hN.own; replace hH := hH.push hC hge6 hbb6; clear hC hN
  refine WL.u rfl rfl (Wt.plain rfl) (Ex.extract rfl rfl) ?_
  refine WL.u rfl rfl (Wt.plain rfl) (Ex.extract rfl rfl) ?_
  refine WL.u rfl rfl (Wt.plain rfl) (Ex.extract rfl rfl) ?_
  refine WL.u rfl rfl (Wt.plain rfl) (Ex.assign rfl) ?_
  refine WL.u rfl rfl (Wt.plain rfl) (Ex.assign rfl) ?_
  refine WL.u rfl rfl (Wt.plain rfl) (Ex.assign rfl) ?_
  refine WL.next ?_
  refine WC.ret ?_
  refine WN.body3 rfl rfl rfl rfl ?_
  exact ⟨g, p, q, _, rfl, hH.keep, New.of hH ho6 (hH.base 0 rfl), hgl, hgr, hpb, hqb⟩


theorem aimMany_ok (g : Grid) (p q : Int) : (aimMany g p q).2 = aimB g p q 6 := by
  unfold aimMany
  split
  · next h => exact h.symm
  · next h => simpa using h
theorem aimB_of {g : Grid} {p q : Nat} {k : Int} (hG : GridOk g) (hp : p < ports g) (hq : q < ports g) (hpq : p ≠ q) (hk : ((nR g * nC g : Nat) : Int) ≤ k) : aimB g p q k = true := by
  have hI := gridIn_true hG
  have hP : ∀ p : Nat, p < ports g → portIn g (p : Int) = true := fun p hp => by
    rw [portIn, hI, decide_eq_true (show (0 : Int) ≤ p ∧ (p : Int) < ports g by omega)]; rfl
  rw [aimB, hP p hp, hP q hq, decide_eq_true (show (p : Int) ≠ q by omega), decide_eq_true hk]; rfl
theorem endN_lt {n m p : Nat} (k : Nat) (h1 : 1 ≤ n) (h2 : n ≤ 5) (h3 : 1 ≤ m) (h4 : m ≤ 5) (hp : p < 2 * n + 2 * m) : endN n m p k < 2 * n + 2 * m := by
  have hG := numG_ok k h1 h2 h3 h4
  have hq := numG_ports m k h1
  have := way_end hG.sz (p := p) (by rw [hq]; exact hp)
  rw [hq] at this; exact this
theorem endN_ne {n m p : Nat} (k : Nat) (h1 : 1 ≤ n) (h2 : n ≤ 5) (h3 : 1 ≤ m) (h4 : m ≤ 5) (hp : p < 2 * n + 2 * m) : endN n m p k ≠ p := by
  have hG := numG_ok k h1 h2 h3 h4
  have hq := numG_ports m k h1
  exact way_ne hG.sz (by rw [hq]; exact hp)
theorem endN_swap {n m p q : Nat} (h1 : 1 ≤ n) (h2 : n ≤ 5) (h3 : 1 ≤ m) (h4 : m ≤ 5) (hp : p < 2 * n + 2 * m) (hq : q < 2 * n + 2 * m) (N : Nat) : tally (endN n m q) p N = tally (endN n m p) q N :=
  tally_congr _ _ _ _ N fun k _ => by
    have hG := numG_ok k h1 h2 h3 h4
    have hP := numG_ports m k h1
    exact way_swap hG.sz (by rw [hP]; exact hq) (by rw [hP]; exact hp)
/-- what one more port adds -/
theorem aim_add {g : Grid} {p x : Nat} (hG : GridOk g) (hp : p < ports g) (hx : x < ports g) (h6 : ((nR g * nC g : Nat) : Int) ≤ 6) :
    ((aimMany g p x).2 = true → (aimMany g p x).1 = ((tally (endN (nR g) (nC g) p) x (3 ^ (nR g * nC g)) : Nat) : Int)) ∧ ((aimMany g p x).2 = false → tally (endN (nR g) (nC g) p) x (3 ^ (nR g * nC g)) = 0) := by
  have hpe : ports g = 2 * nR g + 2 * nC g := rfl
  refine ⟨fun h => ?_, fun h => ?_⟩
  · rw [aimMany_ok] at h; rw [aimMany_at h]
  · rw [aimMany_ok] at h
    by_cases e : p = x
    · subst e
      exact tally_zero _ _ _ fun k _ => endN_ne k hG.n1 hG.n5 hG.m1 hG.m5 (by rw [← hpe]; exact hp)
    · rw [aimB_of hG hp hx e h6] at h; cases h

end Go.Proofs.Ytjejdebmlgjdeaa
