/- Tidy terms: the program's and the reference's. -/
import Derived.Test.YtnilefmlbedfcaaTmE
import Derived.Test.YtnilefmlbedfcaaTmA
namespace Go.Proofs.Ytnilefmlbedfcaa
set_option maxRecDepth 100000
set_option linter.unusedSimpArgs false
set_option linter.unusedVariables false
open Go Go.RowKit
theorem tidyS_len {t : Tm} : ∀ (k : Nat) (f o : Bool), (tidyS t k f o).length ≤ lenT t := by
  induction t with
  | leaf c => intro k f o; simp [tidyS, lenT]
  | una s a ih =>
    intro k f o
    rw [tidyS, lenT]
    have h1 := ih ((k + 3) % 4) f o
    have h2 := ih ((k + 1) % 4) f o
    have h3 := ih k (!f) o
    have h4 := ih k f (!o)
    (repeat' split) <;> omega
  | bin s a b iha ihb =>
    intro k f o
    have h1 := iha k f o
    have h2 := ihb k f o
    rw [tidyS, lenT]
    split <;> (simp only [List.length_append, List.length_cons, List.length_nil]; omega)
theorem stepsS_T {k : Nat} {x : UInt8 × Bool} (h : (stepsS k x).1 = 124) : stepsS (k + 1) x = (45, (stepsS k x).2) := by rw [stepsS, stepS, if_pos h]
theorem stepsS_F {k : Nat} {x : UInt8 × Bool} (h : (stepsS k x).1 ≠ 124) : stepsS (k + 1) x = (124, !(stepsS k x).2) := by rw [stepsS, stepS, if_neg h]
theorem bin_ne {s : UInt8} (h : s = 124 ∨ s = 45) : s ≠ 62 ∧ s ≠ 94 ∧ s ≠ 42 := by rcases h with rfl | rfl <;> decide
theorem okL_ne {s : UInt8} (h : okL s = true) : s ≠ 62 ∧ s ≠ 94 ∧ s ≠ 42 ∧ s ≠ 124 ∧ s ≠ 45 := by
  have h := of_decide_eq_true h
  rcases h with rfl | rfl | rfl <;> decide

theorem isignedLeaf (b : Nat) (c g : UInt8) (w : World) (hb : w.heap[b]? = some (.cells #[.int .u8 c.toNat, .pointer none, .pointer none] 87 (0, 0))) : Fn Try.prog 94 [vptr b 0, .int .u8 g.toNat] w (fun v w1 => ∃ b2, v = vptr b2 0 ∧ Keep [] w w1 ∧ TreeAt w1 b2 (.leaf (exch c))) := by
  refine Fn.enter (n := 74) Try.func94 rfl rfl rfl ?_
  show WC _ _ _ _ [(0, vptr b 0), (1, .int .u8 g.toNat)] _
  have hH := Hp.start [] w
  have hcu := u8lt c
  refine WC.seq ?_
  refine WC.region ?_
  refine WL.u rfl rfl (Wt.plain rfl) (Ex.assign rfl) ?_
  refine WL.next ?_
  refine WC.seq ?_
  refine WC.seq ?_
  refine WC.region ?_
  refine WL.u rfl rfl (Wt.plain rfl) (Ex.move rfl) ?_
  refine WL.u rfl rfl (Wt.plain rfl) (Ex.nilCheck rfl) ?_
  refine WL.u rfl rfl (Wt.plain rfl) (Ex.fieldAddr fd87_1 rfl) ?_
  refine WL.u rfl rfl (Wt.plain rfl) (Ex.load flat59 rfl ((cell_of_row _ _ _ _ _ _ (hH.keep.heap hb (by simp))).trans rfl)) ?_
  refine WL.u rfl rfl (Wt.plain rfl) (Ex.eqlNil Try.underlying59 rfl) ?_
  refine WL.next ?_
  refine WC.condT rfl (rfl) ?_
  refine WC.seq ?_
  refine WC.region ?_
  refine WL.u rfl rfl (Wt.plain rfl) (Ex.move rfl) ?_
  refine WL.u rfl rfl (Wt.plain rfl) (Ex.nilCheck rfl) ?_
  refine WL.u rfl rfl (Wt.plain rfl) (Ex.fieldAddr fd87_0 rfl) ?_
  refine WL.u rfl rfl (Wt.plain rfl) (Ex.load flat5 rfl ((cell_of_row _ _ _ _ _ _ (hH.keep.heap hb (by simp))).trans rfl)) ?_
  refine WL.call callable77 rfl (Wt.plain rfl) rfl rfl (iexchanged _ _) ?_
  rintro _ _ ⟨rfl, hw⟩; obtain rfl := hw.symm
  refine WL.u rfl rfl (Wt.plain rfl) (Ex.build (pv := [(0, _)]) bd87 rfl rfl rfl) ?_
  refine WL.box rfl rfl rfl (Wt.plain rfl) hH (fun b18 wn hb18 hk18 hH => ?_)
  refine WL.u rfl rfl (Wt.plain rfl) (Ex.assign rfl) ?_
  refine WL.next ?_
  refine WC.ret ?_
  refine WN.retThen ?_
  refine WN.body1 rfl rfl ?_
  exact ⟨b18, rfl, hH.keep, hH.at 0 rfl⟩

set_option maxHeartbeats 1000000 in
theorem isignedBin (b : Nat) (g s : UInt8) (a c : Tm) (w : World) (iha : ∀ (w2 : World) (b2 : Nat), TreeAt w2 b2 a → Fn Try.prog 94 [vptr b2 0, .int .u8 g.toNat] w2 (fun v w3 => ∃ b3, v = vptr b3 0 ∧ Keep [] w2 w3 ∧ TreeAt w3 b3 (signedT g a))) (ihc : ∀ (w2 : World) (b2 : Nat), TreeAt w2 b2 c → Fn Try.prog 94 [vptr b2 0, .int .u8 g.toNat] w2 (fun v w3 => ∃ b3, v = vptr b3 0 ∧ Keep [] w2 w3 ∧ TreeAt w3 b3 (signedT g c))) (hT : TreeAt w b (.bin s a c)) : Fn Try.prog 94 [vptr b 0, .int .u8 g.toNat] w (fun v w1 => ∃ b2, v = vptr b2 0 ∧ Keep [] w w1 ∧ TreeAt w1 b2 (signedT g (.bin s a c))) := by
  refine Fn.enter (n := 74) Try.func94 rfl rfl rfl ?_
  show WC _ _ _ _ [(0, vptr b 0), (1, .int .u8 g.toNat)] _
  have hH := Hp.start [] w
  obtain ⟨ba, bc, hb, hTa, hTc⟩ := hT
  have hcu := u8lt s
  have hgu := u8lt g
  refine WC.seq ?_
  refine WC.region ?_
  refine WL.u rfl rfl (Wt.plain rfl) (Ex.assign rfl) ?_
  refine WL.next ?_
  refine WC.seq ?_
  refine WC.seq ?_
  refine WC.region ?_
  refine WL.u rfl rfl (Wt.plain rfl) (Ex.move rfl) ?_
  refine WL.u rfl rfl (Wt.plain rfl) (Ex.nilCheck rfl) ?_
  refine WL.u rfl rfl (Wt.plain rfl) (Ex.fieldAddr fd87_1 rfl) ?_
  refine WL.u rfl rfl (Wt.plain rfl) (Ex.load flat59 rfl ((cell_of_row _ _ _ _ _ _ (hH.keep.heap hb (by simp))).trans rfl)) ?_
  refine WL.u rfl rfl (Wt.plain rfl) (Ex.eqlNil Try.underlying59 rfl) ?_
  refine WL.next ?_
  refine WC.condF rfl (rfl) ?_
  refine WC.skip ?_
  refine WN.next ?_
  refine WC.seq ?_
  have hQ := hH
  refine WC.plan (Keep [] _) [(0, true), (1, true), (2, true), (3, true), (4, true), (6, true), (7, true), (8, true), (9, true), (10, true), (5, false), (11, false), (12, true), (13, true)] rfl (by kernel_rfl) (Keep.drew _ _) (fun hR => ?_)
  replace hH := hH.drew
  refine WPl.q rfl rfl rfl (Wt.plain rfl) (fun w hC => Ex.move rfl) ?_
  refine WPl.q rfl rfl rfl (Wt.plain rfl) (fun w hC => Ex.nilCheck rfl) ?_
  refine WPl.q rfl rfl rfl (Wt.plain rfl) (fun w hC => Ex.fieldAddr fd87_1 rfl) ?_
  refine WPl.q rfl rfl rfl (Wt.plain rfl) (fun w hC => Ex.load flat59 rfl ((cell_of_row _ _ _ _ _ _ (hC.heap (hQ.keep.heap hb (by simp)) (by simp))).trans rfl)) ?_
  refine WPl.q rfl rfl rfl (Wt.plain rfl) (fun w hC => Ex.move rfl) ?_
  refine WPl.q rfl rfl rfl (Wt.plain rfl) (fun w hC => Ex.move rfl) ?_
  refine WPl.q rfl rfl rfl (Wt.plain rfl) (fun w hC => Ex.nilCheck rfl) ?_
  refine WPl.q rfl rfl rfl (Wt.plain rfl) (fun w hC => Ex.fieldAddr fd87_2 rfl) ?_
  refine WPl.q rfl rfl rfl (Wt.plain rfl) (fun w hC => Ex.load flat59 rfl ((cell_of_row _ _ _ _ _ _ (hC.heap (hQ.keep.heap hb (by simp)) (by simp))).trans rfl)) ?_
  refine WPl.q rfl rfl rfl (Wt.plain rfl) (fun w hC => Ex.move rfl) ?_
  refine WPl.f rfl ?_
  refine WL.call callable94 rfl (Wt.plain rfl) rfl rfl (iha _ ba (hTa.kept hH.keep)) ?_
  rintro _ wn ⟨b24, rfl, hC, hT24⟩; replace hH := hH.call hC; replace hR := hR.trans hC.nil; try replace hT30 := hT30.kept hC
  refine WPl.b hR ?_
  refine WPl.f rfl ?_
  refine WL.call callable94 rfl (Wt.plain rfl) rfl rfl (ihc _ bc (hTc.kept hH.keep)) ?_
  rintro _ wn ⟨b30, rfl, hC, hT30⟩; replace hH := hH.call hC; replace hR := hR.trans hC.nil; try replace hT24 := hT24.kept hC
  refine WPl.b hR ?_
  refine WPl.q rfl rfl rfl (Wt.plain rfl) (fun w hC => Ex.assign rfl) ?_
  refine WPl.q rfl rfl rfl (Wt.plain rfl) (fun w hC => Ex.assign rfl) ?_
  refine WPl.nil (fun hC => ?_); clear hC
  refine WN.next ?_
  refine WC.seq ?_
  refine WC.block ?_
  refine WC.seq ?_
  refine WC.region ?_
  refine WL.u rfl rfl (Wt.plain rfl) (Ex.move rfl) ?_
  refine WL.u rfl rfl (Wt.plain rfl) (Ex.eql rfl rfl) ?_
  refine WL.u rfl rfl (Wt.plain rfl) (Ex.move rfl) ?_
  refine WL.split (t := 34) rfl (fun hg4_2 => ?_) (fun hg4_2 => ?_)
  · have h62 : g = 62 := ubT 62 (by decide) hg4_2
    refine WL.u rfl rfl (Wt.guard' rfl rfl rfl hg4_2 rfl) (Ex.move rfl) ?_
    refine WL.u rfl rfl (Wt.guard' rfl rfl rfl hg4_2 rfl) (Ex.nilCheck rfl) ?_
    refine WL.u rfl rfl (Wt.guard' rfl rfl rfl hg4_2 rfl) (Ex.fieldAddr fd87_0 rfl) ?_
    refine WL.u rfl rfl (Wt.guard' rfl rfl rfl hg4_2 rfl) (Ex.load flat5 rfl ((cell_of_row _ _ _ _ _ _ (hH.keep.heap hb (by simp))).trans rfl)) ?_
    refine WL.u rfl rfl (Wt.guard' rfl rfl rfl hg4_2 rfl) (Ex.eql rfl rfl) ?_
    refine WL.u rfl rfl (Wt.plain rfl) (Ex.pickT rfl hg4_2 rfl) ?_
    refine WL.u rfl rfl (Wt.plain rfl) (Ex.assign rfl) ?_
    refine WL.next ?_
    refine WC.cond rfl (fun hc2 => ?_) (fun hc2 => ?_)
    · have h124 : s = 124 := ubT 124 (by decide) hc2
      refine WC.seq ?_
      refine WC.region ?_
      refine WL.u rfl rfl (Wt.plain rfl) (Ex.move rfl) ?_
      refine WL.u rfl rfl (Wt.plain rfl) (Ex.move rfl) ?_
      refine WL.u rfl rfl (Wt.plain rfl) (Ex.buildS bd87 rfl rfl rfl rfl rfl) ?_
      refine WL.box rfl rfl rfl (Wt.plain rfl) hH (fun b44 wn hb44 hk44 hH => ?_)
      refine WL.u rfl rfl (Wt.plain rfl) (Ex.assign rfl) ?_
      refine WL.next ?_
      refine WC.ret ?_
      refine WN.retBlock ?_
      refine WN.retThen ?_
      refine WN.body1 rfl rfl ?_
      exact ⟨b44, rfl, hH.keep, by rw [signedT, if_pos ⟨h62, h124⟩]; exact ⟨b24, b30, hH.at 0 rfl, hT24.kept hk44, hT30.kept hk44⟩⟩
    have hn124 : s ≠ 124 := ubF 124 (by decide) hc2
    refine WC.seq ?_
    refine WC.region ?_
    refine WL.u rfl rfl (Wt.plain rfl) (Ex.move rfl) ?_
    refine WL.u rfl rfl (Wt.plain rfl) (Ex.eql rfl rfl) ?_
    refine WL.u rfl rfl (Wt.plain rfl) (Ex.assign rfl) ?_
    refine WL.next ?_
    refine WC.condT rfl (hg4_2) ?_
    refine WC.seq ?_
    refine WC.region ?_
    refine WL.u rfl rfl (Wt.plain rfl) (Ex.move rfl) ?_
    refine WL.u rfl rfl (Wt.plain rfl) (Ex.move rfl) ?_
    refine WL.u rfl rfl (Wt.plain rfl) (Ex.buildS bd87 rfl rfl rfl rfl rfl) ?_
    refine WL.box rfl rfl rfl (Wt.plain rfl) hH (fun b51 wn hb51 hk51 hH => ?_)
    refine WL.u rfl rfl (Wt.plain rfl) (Ex.assign rfl) ?_
    refine WL.next ?_
    refine WC.ret ?_
    refine WN.retBlock ?_
    refine WN.retThen ?_
    refine WN.body1 rfl rfl ?_
    exact ⟨b51, rfl, hH.keep, by rw [signedT, if_neg (fun h => hn124 h.2), if_pos h62]; exact ⟨b30, b24, hH.at 0 rfl, hT30.kept hk51, hT24.kept hk51⟩⟩
  have hn62 : g ≠ 62 := ubF 62 (by decide) hg4_2
  refine WL.pass rfl rfl (Wt.guard' rfl rfl rfl hg4_2 rfl) ?_
  refine WL.pass rfl rfl (Wt.guard' rfl rfl rfl hg4_2 rfl) ?_
  refine WL.pass rfl rfl (Wt.guard' rfl rfl rfl hg4_2 rfl) ?_
  refine WL.pass rfl rfl (Wt.guard' rfl rfl rfl hg4_2 rfl) ?_
  refine WL.pass rfl rfl (Wt.guard' rfl rfl rfl hg4_2 rfl) ?_
  refine WL.u rfl rfl (Wt.plain rfl) (Ex.pickF rfl hg4_2 rfl) ?_
  refine WL.u rfl rfl (Wt.plain rfl) (Ex.assign rfl) ?_
  refine WL.next ?_
  refine WC.condF rfl rfl ?_
  refine WC.seq ?_
  refine WC.region ?_
  refine WL.u rfl rfl (Wt.plain rfl) (Ex.move rfl) ?_
  refine WL.u rfl rfl (Wt.plain rfl) (Ex.eql rfl rfl) ?_
  refine WL.u rfl rfl (Wt.plain rfl) (Ex.assign rfl) ?_
  refine WL.next ?_
  refine WC.condF rfl (hg4_2) ?_
  refine WC.seq ?_
  refine WC.region ?_
  refine WL.u rfl rfl (Wt.plain rfl) (Ex.move rfl) ?_
  refine WL.u rfl rfl (Wt.plain rfl) (Ex.eql rfl rfl) ?_
  refine WL.u rfl rfl (Wt.plain rfl) (Ex.move rfl) ?_
  refine WL.split (t := 55) rfl (fun hg8_2 => ?_) (fun hg8_2 => ?_)
  · have h94 : g = 94 := ubT 94 (by decide) hg8_2
    refine WL.u rfl rfl (Wt.guard' rfl rfl rfl hg8_2 rfl) (Ex.move rfl) ?_
    refine WL.u rfl rfl (Wt.guard' rfl rfl rfl hg8_2 rfl) (Ex.nilCheck rfl) ?_
    refine WL.u rfl rfl (Wt.guard' rfl rfl rfl hg8_2 rfl) (Ex.fieldAddr fd87_0 rfl) ?_
    refine WL.u rfl rfl (Wt.guard' rfl rfl rfl hg8_2 rfl) (Ex.load flat5 rfl ((cell_of_row _ _ _ _ _ _ (hH.keep.heap hb (by simp))).trans rfl)) ?_
    refine WL.u rfl rfl (Wt.guard' rfl rfl rfl hg8_2 rfl) (Ex.eql rfl rfl) ?_
    refine WL.u rfl rfl (Wt.plain rfl) (Ex.pickT rfl hg8_2 rfl) ?_
    refine WL.u rfl rfl (Wt.plain rfl) (Ex.assign rfl) ?_
    refine WL.next ?_
    refine WC.cond rfl (fun hc4 => ?_) (fun hc4 => ?_)
    · have h124 : s = 124 := ubT 124 (by decide) hc4
      refine WC.seq ?_
      refine WC.region ?_
      refine WL.u rfl rfl (Wt.plain rfl) (Ex.move rfl) ?_
      refine WL.u rfl rfl (Wt.plain rfl) (Ex.move rfl) ?_
      refine WL.u rfl rfl (Wt.plain rfl) (Ex.buildS bd87 rfl rfl rfl rfl rfl) ?_
      refine WL.box rfl rfl rfl (Wt.plain rfl) hH (fun b65 wn hb65 hk65 hH => ?_)
      refine WL.u rfl rfl (Wt.plain rfl) (Ex.assign rfl) ?_
      refine WL.next ?_
      refine WC.ret ?_
      refine WN.retBlock ?_
      refine WN.retThen ?_
      refine WN.body1 rfl rfl ?_
      exact ⟨b65, rfl, hH.keep, by rw [signedT, if_neg (fun h => hn62 h.1), if_neg hn62, if_pos ⟨h94, h124⟩]; exact ⟨b30, b24, hH.at 0 rfl, hT30.kept hk65, hT24.kept hk65⟩⟩
    have hn124 : s ≠ 124 := ubF 124 (by decide) hc4
    refine WC.skip ?_
    refine WN.normalBlock ?_
    refine WN.next ?_
    refine WC.seq ?_
    refine WC.region ?_
    refine WL.u rfl rfl (Wt.plain rfl) (Ex.move rfl) ?_
    refine WL.u rfl rfl (Wt.plain rfl) (Ex.nilCheck rfl) ?_
    refine WL.u rfl rfl (Wt.plain rfl) (Ex.fieldAddr fd87_0 rfl) ?_
    refine WL.u rfl rfl (Wt.plain rfl) (Ex.load flat5 rfl ((cell_of_row _ _ _ _ _ _ (hH.keep.heap hb (by simp))).trans rfl)) ?_
    refine WL.u rfl rfl (Wt.plain rfl) (Ex.move rfl) ?_
    refine WL.u rfl rfl (Wt.plain rfl) (Ex.move rfl) ?_
    refine WL.u rfl rfl (Wt.plain rfl) (Ex.buildS bd87 rfl rfl rfl rfl rfl) ?_
    refine WL.box rfl rfl rfl (Wt.plain rfl) hH (fun b73 wn hb73 hk73 hH => ?_)
    refine WL.u rfl rfl (Wt.plain rfl) (Ex.assign rfl) ?_
    refine WL.next ?_
    refine WC.ret ?_
    refine WN.body1 rfl rfl ?_
    exact ⟨b73, rfl, hH.keep, by rw [signedT, if_neg (fun h => hn62 h.1), if_neg hn62, if_neg (fun h => hn124 h.2)]; exact ⟨b24, b30, hH.at 0 rfl, hT24.kept hk73, hT30.kept hk73⟩⟩
  have hn94 : g ≠ 94 := ubF 94 (by decide) hg8_2
  refine WL.pass rfl rfl (Wt.guard' rfl rfl rfl hg8_2 rfl) ?_
  refine WL.pass rfl rfl (Wt.guard' rfl rfl rfl hg8_2 rfl) ?_
  refine WL.pass rfl rfl (Wt.guard' rfl rfl rfl hg8_2 rfl) ?_
  refine WL.pass rfl rfl (Wt.guard' rfl rfl rfl hg8_2 rfl) ?_
  refine WL.pass rfl rfl (Wt.guard' rfl rfl rfl hg8_2 rfl) ?_
  refine WL.u rfl rfl (Wt.plain rfl) (Ex.pickF rfl hg8_2 rfl) ?_
  refine WL.u rfl rfl (Wt.plain rfl) (Ex.assign rfl) ?_
  refine WL.next ?_
  refine WC.condF rfl rfl ?_
  refine WC.skip ?_
  refine WN.normalBlock ?_
  refine WN.next ?_
  refine WC.seq ?_
  refine WC.region ?_
  refine WL.u rfl rfl (Wt.plain rfl) (Ex.move rfl) ?_
  refine WL.u rfl rfl (Wt.plain rfl) (Ex.nilCheck rfl) ?_
  refine WL.u rfl rfl (Wt.plain rfl) (Ex.fieldAddr fd87_0 rfl) ?_
  refine WL.u rfl rfl (Wt.plain rfl) (Ex.load flat5 rfl ((cell_of_row _ _ _ _ _ _ (hH.keep.heap hb (by simp))).trans rfl)) ?_
  refine WL.u rfl rfl (Wt.plain rfl) (Ex.move rfl) ?_
  refine WL.u rfl rfl (Wt.plain rfl) (Ex.move rfl) ?_
  refine WL.u rfl rfl (Wt.plain rfl) (Ex.buildS bd87 rfl rfl rfl rfl rfl) ?_
  refine WL.box rfl rfl rfl (Wt.plain rfl) hH (fun b73 wn hb73 hk73 hH => ?_)
  refine WL.u rfl rfl (Wt.plain rfl) (Ex.assign rfl) ?_
  refine WL.next ?_
  refine WC.ret ?_
  refine WN.body1 rfl rfl ?_
  exact ⟨b73, rfl, hH.keep, by rw [signedT, if_neg (fun h => hn62 h.1), if_neg hn62, if_neg (fun h => hn94 h.1)]; exact ⟨b24, b30, hH.at 0 rfl, hT24.kept hk73, hT30.kept hk73⟩⟩

theorem itextLeaf (b : Nat) (c : UInt8) (w : World) (hb : w.heap[b]? = some (.cells #[.int .u8 c.toNat, .pointer none, .pointer none] 87 (0, 0))) (hc : okL c = true) : Fn Try.prog 67 [vptr b 0] w (fun v w1 => v = vstr (textT (.leaf c)) ∧ Keep [] w w1) := by
  refine Fn.enter (n := 34) Try.func67 rfl rfl rfl ?_
  show WC _ _ _ _ [(0, vptr b 0)] _
  have hH := Hp.start [] w
  have hcl := okL_lt hc
  have hcu := u8lt c
  refine WC.seq ?_
  refine WC.region ?_
  refine WL.u rfl rfl (Wt.plain rfl) (Ex.assign rfl) ?_
  refine WL.next ?_
  refine WC.seq ?_
  refine WC.seq ?_
  refine WC.region ?_
  refine WL.u rfl rfl (Wt.plain rfl) (Ex.move rfl) ?_
  refine WL.u rfl rfl (Wt.plain rfl) (Ex.nilCheck rfl) ?_
  refine WL.u rfl rfl (Wt.plain rfl) (Ex.fieldAddr fd87_1 rfl) ?_
  refine WL.u rfl rfl (Wt.plain rfl) (Ex.load flat59 rfl ((cell_of_row _ _ _ _ _ _ (hH.keep.heap hb (by simp))).trans rfl)) ?_
  refine WL.u rfl rfl (Wt.plain rfl) (Ex.eqlNil Try.underlying59 rfl) ?_
  refine WL.next ?_
  refine WC.condT rfl (rfl) ?_
  refine WC.seq ?_
  refine WC.region ?_
  refine WL.u rfl rfl (Wt.plain rfl) (Ex.move rfl) ?_
  refine WL.u rfl rfl (Wt.plain rfl) (Ex.nilCheck rfl) ?_
  refine WL.u rfl rfl (Wt.plain rfl) (Ex.fieldAddr fd87_0 rfl) ?_
  refine WL.u rfl rfl (Wt.plain rfl) (Ex.load flat5 rfl ((cell_of_row _ _ _ _ _ _ (hH.keep.heap hb (by simp))).trans rfl)) ?_
  refine WL.u rfl rfl (Wt.plain rfl) (Ex.conv' Try.underlying21 Try.underlying5 rfl (wrap32 c)) ?_
  refine WL.u rfl rfl (Wt.plain rfl) (Ex.runeStr Try.underlying21 Try.underlying9 rfl (okL_lt hc)) ?_
  refine WL.u rfl rfl (Wt.plain rfl) (Ex.assign rfl) ?_
  refine WL.next ?_
  refine WC.ret ?_
  refine WN.retThen ?_
  refine WN.body1 rfl rfl ?_
  exact ⟨rfl, hH.keep⟩

set_option maxHeartbeats 1000000 in
theorem itextBin (b : Nat) (s : UInt8) (a c : Tm) (w : World) (iha : ∀ (w2 : World) (b2 : Nat), TreeAt w2 b2 a → Fn Try.prog 67 [vptr b2 0] w2 (fun v w3 => v = vstr (textT a) ∧ Keep [] w2 w3)) (ihc : ∀ (w2 : World) (b2 : Nat), TreeAt w2 b2 c → Fn Try.prog 67 [vptr b2 0] w2 (fun v w3 => v = vstr (textT c) ∧ Keep [] w2 w3)) (hs : s = 124 ∨ s = 45) (hT : TreeAt w b (.bin s a c)) (hla : (textT a).length ≤ 100000) (hlc : (textT c).length ≤ 100000) : Fn Try.prog 67 [vptr b 0] w (fun v w1 => v = vstr (textT (.bin s a c)) ∧ Keep [] w w1) := by
  refine Fn.enter (n := 34) Try.func67 rfl rfl rfl ?_
  show WC _ _ _ _ [(0, vptr b 0)] _
  have hH := Hp.start [] w
  obtain ⟨ba, bc, hb, hTa, hTc⟩ := hT
  have hcu := u8lt s
  have hs1 : s.toNat < 128 := by rcases hs with rfl | rfl <;> decide
  refine WC.seq ?_
  refine WC.region ?_
  refine WL.u rfl rfl (Wt.plain rfl) (Ex.assign rfl) ?_
  refine WL.next ?_
  refine WC.seq ?_
  refine WC.seq ?_
  refine WC.region ?_
  refine WL.u rfl rfl (Wt.plain rfl) (Ex.move rfl) ?_
  refine WL.u rfl rfl (Wt.plain rfl) (Ex.nilCheck rfl) ?_
  refine WL.u rfl rfl (Wt.plain rfl) (Ex.fieldAddr fd87_1 rfl) ?_
  refine WL.u rfl rfl (Wt.plain rfl) (Ex.load flat59 rfl ((cell_of_row _ _ _ _ _ _ (hH.keep.heap hb (by simp))).trans rfl)) ?_
  refine WL.u rfl rfl (Wt.plain rfl) (Ex.eqlNil Try.underlying59 rfl) ?_
  refine WL.next ?_
  refine WC.condF rfl (rfl) ?_
  refine WC.skip ?_
  refine WN.next ?_
  refine WC.seq ?_
  have hQ := hH
  refine WC.plan (Keep [] _) [(0, true), (1, true), (2, true), (3, true), (6, true), (7, true), (8, true), (9, true), (10, true), (11, true), (13, true), (14, true), (15, true), (16, true), (4, false), (5, true), (12, true), (17, false), (18, true), (19, true), (20, true)] rfl (by kernel_rfl) (Keep.drew _ _) (fun hR => ?_)
  replace hH := hH.drew
  refine WPl.q rfl rfl rfl (Wt.plain rfl) (fun w hC => Ex.move rfl) ?_
  refine WPl.q rfl rfl rfl (Wt.plain rfl) (fun w hC => Ex.nilCheck rfl) ?_
  refine WPl.q rfl rfl rfl (Wt.plain rfl) (fun w hC => Ex.fieldAddr fd87_1 rfl) ?_
  refine WPl.q rfl rfl rfl (Wt.plain rfl) (fun w hC => Ex.load flat59 rfl ((cell_of_row _ _ _ _ _ _ (hC.heap (hQ.keep.heap hb (by simp)) (by simp))).trans rfl)) ?_
  refine WPl.q rfl rfl rfl (Wt.plain rfl) (fun w hC => Ex.move rfl) ?_
  refine WPl.q rfl rfl rfl (Wt.plain rfl) (fun w hC => Ex.nilCheck rfl) ?_
  refine WPl.q rfl rfl rfl (Wt.plain rfl) (fun w hC => Ex.fieldAddr fd87_0 rfl) ?_
  refine WPl.q rfl rfl rfl (Wt.plain rfl) (fun w hC => Ex.load flat5 rfl ((cell_of_row _ _ _ _ _ _ (hC.heap (hQ.keep.heap hb (by simp)) (by simp))).trans rfl)) ?_
  refine WPl.q rfl rfl rfl (Wt.plain rfl) (fun w hC => Ex.conv' Try.underlying21 Try.underlying5 rfl (wrap32 s)) ?_
  refine WPl.q rfl rfl rfl (Wt.plain rfl) (fun w hC => Ex.runeStr Try.underlying21 Try.underlying9 rfl hs1) ?_
  refine WPl.q rfl rfl rfl (Wt.plain rfl) (fun w hC => Ex.move rfl) ?_
  refine WPl.q rfl rfl rfl (Wt.plain rfl) (fun w hC => Ex.nilCheck rfl) ?_
  refine WPl.q rfl rfl rfl (Wt.plain rfl) (fun w hC => Ex.fieldAddr fd87_2 rfl) ?_
  refine WPl.q rfl rfl rfl (Wt.plain rfl) (fun w hC => Ex.load flat59 rfl ((cell_of_row _ _ _ _ _ _ (hC.heap (hQ.keep.heap hb (by simp)) (by simp))).trans rfl)) ?_
  refine WPl.f rfl ?_
  refine WL.call callable67 rfl (Wt.plain rfl) rfl rfl (iha _ ba (hTa.kept hH.keep)) ?_
  rintro _ wn ⟨rfl, hC⟩; replace hR := hR.trans hC.nil; replace hH := hH.call hC; clear hC
  refine WPl.b hR ?_
  refine WPl.q rfl rfl rfl (Wt.plain rfl) (fun w hC => Ex.concat rfl rfl (by (try simp only [List.length_append, List.length_cons, List.length_nil]); omega)) ?_
  refine WPl.q rfl rfl rfl (Wt.plain rfl) (fun w hC => Ex.concat rfl rfl (by (try simp only [List.length_append, List.length_cons, List.length_nil]); omega)) ?_
  refine WPl.f rfl ?_
  refine WL.call callable67 rfl (Wt.plain rfl) rfl rfl (ihc _ bc (hTc.kept hH.keep)) ?_
  rintro _ wn ⟨rfl, hC⟩; replace hR := hR.trans hC.nil; replace hH := hH.call hC; clear hC
  refine WPl.b hR ?_
  refine WPl.q rfl rfl rfl (Wt.plain rfl) (fun w hC => Ex.concat rfl rfl (by (try simp only [List.length_append, List.length_cons, List.length_nil]); omega)) ?_
  refine WPl.q rfl rfl rfl (Wt.plain rfl) (fun w hC => Ex.concat rfl rfl (by (try simp only [List.length_append, List.length_cons, List.length_nil]); omega)) ?_
  refine WPl.q rfl rfl rfl (Wt.plain rfl) (fun w hC => Ex.assign rfl) ?_
  refine WPl.nil (fun hC => ?_); clear hC
  refine WN.next ?_
  refine WC.ret ?_
  refine WN.body1 rfl rfl ?_
  exact ⟨rfl, hH.keep⟩

theorem itidyLeaf (b : Nat) (c : UInt8) (w : World) (hb : w.heap[b]? = some (.cells #[.int .u8 c.toNat, .pointer none, .pointer none] 87 (0, 0))) (hc : okL c = true) : Fn Try.prog 66 [vptr b 0] w (fun v w1 => ∃ b2, v = vptr b2 0 ∧ Keep [] w w1 ∧ TreeAt w1 b2 (.leaf c)) := by
  refine Fn.enter (n := 41) Try.func66 rfl rfl rfl ?_
  show WC _ _ _ _ [(0, vptr b 0)] _
  have hH := Hp.start [] w
  have hcu := u8lt c
  obtain ⟨hn62, hn94, hn42, hn124, hn45⟩ := okL_ne hc
  refine WC.seq ?_
  refine WC.region ?_
  refine WL.u rfl rfl (Wt.plain rfl) (Ex.assign rfl) ?_
  refine WL.next ?_
  refine WC.seq ?_
  refine WC.seq ?_
  refine WC.region ?_
  refine WL.u rfl rfl (Wt.plain rfl) (Ex.move rfl) ?_
  refine WL.u rfl rfl (Wt.plain rfl) (Ex.nilCheck rfl) ?_
  refine WL.u rfl rfl (Wt.plain rfl) (Ex.fieldAddr fd87_0 rfl) ?_
  refine WL.u rfl rfl (Wt.plain rfl) (Ex.load flat5 rfl ((cell_of_row _ _ _ _ _ _ (hH.keep.heap hb (by simp))).trans rfl)) ?_
  refine WL.next ?_
  refine WC.block ?_
  refine WC.seq ?_
  refine WC.seq ?_
  refine WC.region ?_
  refine WL.u rfl rfl (Wt.plain rfl) (Ex.eql rfl rfl) ?_
  refine WL.u rfl rfl (Wt.plain rfl) (Ex.assign rfl) ?_
  refine WL.next ?_
  refine WC.condF rfl (decide_eq_false (fun h => hn62 ((u8eq c 62 (by decide)).1 h))) ?_
  refine WC.seq ?_
  refine WC.region ?_
  refine WL.u rfl rfl (Wt.plain rfl) (Ex.eql rfl rfl) ?_
  refine WL.u rfl rfl (Wt.plain rfl) (Ex.assign rfl) ?_
  refine WL.next ?_
  refine WC.condF rfl (decide_eq_false (fun h => hn94 ((u8eq c 94 (by decide)).1 h))) ?_
  refine WC.region ?_
  refine WL.u rfl rfl (Wt.plain rfl) (Ex.eql rfl rfl) ?_
  refine WL.u rfl rfl (Wt.plain rfl) (Ex.assign rfl) ?_
  refine WL.next ?_
  refine WC.condF rfl (decide_eq_false (fun h => hn42 ((u8eq c 42 (by decide)).1 h))) ?_
  refine WC.seq ?_
  refine WC.seq ?_
  refine WC.region ?_
  refine WL.u rfl rfl (Wt.plain rfl) (Ex.eql rfl rfl) ?_
  refine WL.u rfl rfl (Wt.plain rfl) (Ex.assign rfl) ?_
  refine WL.next ?_
  refine WC.condF rfl (decide_eq_false (fun h => hn124 ((u8eq c 124 (by decide)).1 h))) ?_
  refine WC.region ?_
  refine WL.u rfl rfl (Wt.plain rfl) (Ex.eql rfl rfl) ?_
  refine WL.u rfl rfl (Wt.plain rfl) (Ex.assign rfl) ?_
  refine WL.next ?_
  refine WC.condF rfl (decide_eq_false (fun h => hn45 ((u8eq c 45 (by decide)).1 h))) ?_
  refine WC.skip ?_
  refine WN.normalBlock ?_
  refine WN.next ?_
  refine WC.seq ?_
  refine WC.region ?_
  refine WL.u rfl rfl (Wt.plain rfl) (Ex.move rfl) ?_
  refine WL.u rfl rfl (Wt.plain rfl) (Ex.assign rfl) ?_
  refine WL.next ?_
  refine WC.ret ?_
  refine WN.body1 rfl rfl ?_
  exact ⟨b, rfl, hH.keep, hH.keep.heap hb (by simp)⟩

set_option maxHeartbeats 1000000 in
theorem itidyUna (b : Nat) (s : UInt8) (a : Tm) (w : World) (iha : ∀ (w2 : World) (b2 : Nat), TreeAt w2 b2 a → Fn Try.prog 66 [vptr b2 0] w2 (fun v w3 => ∃ b3, v = vptr b3 0 ∧ Keep [] w2 w3 ∧ TreeAt w3 b3 (tidyT a))) (ihg : ∀ (w2 : World) (b2 : Nat), TreeAt w2 b2 (tidyT a) → Fn Try.prog 94 [vptr b2 0, .int .u8 s.toNat] w2 (fun v w3 => ∃ b3, v = vptr b3 0 ∧ Keep [] w2 w3 ∧ TreeAt w3 b3 (signedT s (tidyT a)))) (hU : isU s = true) (hT : TreeAt w b (.una s a)) : Fn Try.prog 66 [vptr b 0] w (fun v w1 => ∃ b2, v = vptr b2 0 ∧ Keep [] w w1 ∧ TreeAt w1 b2 (tidyT (.una s a))) := by
  refine Fn.enter (n := 41) Try.func66 rfl rfl rfl ?_
  show WC _ _ _ _ [(0, vptr b 0)] _
  have hH := Hp.start [] w
  obtain ⟨ba, hb, hTa⟩ := hT
  have hcu := u8lt s
  refine WC.seq ?_
  refine WC.region ?_
  refine WL.u rfl rfl (Wt.plain rfl) (Ex.assign rfl) ?_
  refine WL.next ?_
  refine WC.seq ?_
  refine WC.seq ?_
  refine WC.region ?_
  refine WL.u rfl rfl (Wt.plain rfl) (Ex.move rfl) ?_
  refine WL.u rfl rfl (Wt.plain rfl) (Ex.nilCheck rfl) ?_
  refine WL.u rfl rfl (Wt.plain rfl) (Ex.fieldAddr fd87_0 rfl) ?_
  refine WL.u rfl rfl (Wt.plain rfl) (Ex.load flat5 rfl ((cell_of_row _ _ _ _ _ _ (hH.keep.heap hb (by simp))).trans rfl)) ?_
  refine WL.next ?_
  refine WC.block ?_
  refine WC.seq ?_
  refine WC.seq ?_
  refine WC.region ?_
  refine WL.u rfl rfl (Wt.plain rfl) (Ex.eql rfl rfl) ?_
  refine WL.u rfl rfl (Wt.plain rfl) (Ex.assign rfl) ?_
  refine WL.next ?_
  refine WC.cond rfl (fun hc1 => ?_) (fun hc1 => ?_)
  · have hc1' := hc1; try simp only [decide_eq_true_eq, decide_eq_false_iff_not, Bool.not_eq_true', Bool.not_eq_false', Bool.not_eq_true, Bool.not_eq_false] at hc1'
    refine WC.skip ?_
    refine WN.next ?_
    refine WC.condT rfl hc1 ?_
    refine WC.seq ?_
    have hQ := hH
    refine WC.plan (Keep [] _) [(0, true), (1, true), (2, true), (3, true), (5, true), (6, true), (7, true), (8, true), (4, false), (9, false), (10, true)] rfl (by kernel_rfl) (Keep.drew _ _) (fun hR => ?_)
    replace hH := hH.drew
    refine WPl.q rfl rfl rfl (Wt.plain rfl) (fun w hC => Ex.move rfl) ?_
    refine WPl.q rfl rfl rfl (Wt.plain rfl) (fun w hC => Ex.nilCheck rfl) ?_
    refine WPl.q rfl rfl rfl (Wt.plain rfl) (fun w hC => Ex.fieldAddr fd87_1 rfl) ?_
    refine WPl.q rfl rfl rfl (Wt.plain rfl) (fun w hC => Ex.load flat59 rfl ((cell_of_row _ _ _ _ _ _ (hC.heap (hQ.keep.heap hb (by simp)) (by simp))).trans rfl)) ?_
    refine WPl.q rfl rfl rfl (Wt.plain rfl) (fun w hC => Ex.move rfl) ?_
    refine WPl.q rfl rfl rfl (Wt.plain rfl) (fun w hC => Ex.nilCheck rfl) ?_
    refine WPl.q rfl rfl rfl (Wt.plain rfl) (fun w hC => Ex.fieldAddr fd87_0 rfl) ?_
    refine WPl.q rfl rfl rfl (Wt.plain rfl) (fun w hC => Ex.load flat5 rfl ((cell_of_row _ _ _ _ _ _ (hC.heap (hQ.keep.heap hb (by simp)) (by simp))).trans rfl)) ?_
    refine WPl.f rfl ?_
    refine WL.call callable66 rfl (Wt.plain rfl) rfl rfl (iha _ ba (hTa.kept hH.keep)) ?_
    rintro _ wn ⟨b15, rfl, hC, hT15⟩; replace hH := hH.call hC; replace hR := hR.trans hC.nil
    refine WPl.b hR ?_
    refine WPl.f rfl ?_
    refine WL.call callable94 rfl (Wt.plain rfl) rfl rfl (ihg _ b15 hT15) ?_
    rintro _ wn ⟨b20, rfl, hC, hT20⟩; replace hH := hH.call hC; replace hR := hR.trans hC.nil
    refine WPl.b hR ?_
    refine WPl.q rfl rfl rfl (Wt.plain rfl) (fun w hC => Ex.assign rfl) ?_
    refine WPl.nil (fun hC => ?_); clear hC
    refine WN.next ?_
    refine WC.ret ?_
    refine WN.retBlock ?_
    refine WN.retThen ?_
    refine WN.body1 rfl rfl ?_
    exact ⟨b20, rfl, hH.keep, hT20⟩
  have hc1' := hc1; try simp only [decide_eq_true_eq, decide_eq_false_iff_not, Bool.not_eq_true', Bool.not_eq_false', Bool.not_eq_true, Bool.not_eq_false] at hc1'
  refine WC.seq ?_
  refine WC.region ?_
  refine WL.u rfl rfl (Wt.plain rfl) (Ex.eql rfl rfl) ?_
  refine WL.u rfl rfl (Wt.plain rfl) (Ex.assign rfl) ?_
  refine WL.next ?_
  refine WC.cond rfl (fun hc2 => ?_) (fun hc2 => ?_)
  · have hc2' := hc2; try simp only [decide_eq_true_eq, decide_eq_false_iff_not, Bool.not_eq_true', Bool.not_eq_false', Bool.not_eq_true, Bool.not_eq_false] at hc2'
    refine WC.skip ?_
    refine WN.next ?_
    refine WC.condT rfl hc2 ?_
    refine WC.seq ?_
    have hQ := hH
    refine WC.plan (Keep [] _) [(0, true), (1, true), (2, true), (3, true), (5, true), (6, true), (7, true), (8, true), (4, false), (9, false), (10, true)] rfl (by kernel_rfl) (Keep.drew _ _) (fun hR => ?_)
    replace hH := hH.drew
    refine WPl.q rfl rfl rfl (Wt.plain rfl) (fun w hC => Ex.move rfl) ?_
    refine WPl.q rfl rfl rfl (Wt.plain rfl) (fun w hC => Ex.nilCheck rfl) ?_
    refine WPl.q rfl rfl rfl (Wt.plain rfl) (fun w hC => Ex.fieldAddr fd87_1 rfl) ?_
    refine WPl.q rfl rfl rfl (Wt.plain rfl) (fun w hC => Ex.load flat59 rfl ((cell_of_row _ _ _ _ _ _ (hC.heap (hQ.keep.heap hb (by simp)) (by simp))).trans rfl)) ?_
    refine WPl.q rfl rfl rfl (Wt.plain rfl) (fun w hC => Ex.move rfl) ?_
    refine WPl.q rfl rfl rfl (Wt.plain rfl) (fun w hC => Ex.nilCheck rfl) ?_
    refine WPl.q rfl rfl rfl (Wt.plain rfl) (fun w hC => Ex.fieldAddr fd87_0 rfl) ?_
    refine WPl.q rfl rfl rfl (Wt.plain rfl) (fun w hC => Ex.load flat5 rfl ((cell_of_row _ _ _ _ _ _ (hC.heap (hQ.keep.heap hb (by simp)) (by simp))).trans rfl)) ?_
    refine WPl.f rfl ?_
    refine WL.call callable66 rfl (Wt.plain rfl) rfl rfl (iha _ ba (hTa.kept hH.keep)) ?_
    rintro _ wn ⟨b15, rfl, hC, hT15⟩; replace hH := hH.call hC; replace hR := hR.trans hC.nil
    refine WPl.b hR ?_
    refine WPl.f rfl ?_
    refine WL.call callable94 rfl (Wt.plain rfl) rfl rfl (ihg _ b15 hT15) ?_
    rintro _ wn ⟨b20, rfl, hC, hT20⟩; replace hH := hH.call hC; replace hR := hR.trans hC.nil
    refine WPl.b hR ?_
    refine WPl.q rfl rfl rfl (Wt.plain rfl) (fun w hC => Ex.assign rfl) ?_
    refine WPl.nil (fun hC => ?_); clear hC
    refine WN.next ?_
    refine WC.ret ?_
    refine WN.retBlock ?_
    refine WN.retThen ?_
    refine WN.body1 rfl rfl ?_
    exact ⟨b20, rfl, hH.keep, hT20⟩
  have hc2' := hc2; try simp only [decide_eq_true_eq, decide_eq_false_iff_not, Bool.not_eq_true', Bool.not_eq_false', Bool.not_eq_true, Bool.not_eq_false] at hc2'
  refine WC.region ?_
  refine WL.u rfl rfl (Wt.plain rfl) (Ex.eql rfl rfl) ?_
  refine WL.u rfl rfl (Wt.plain rfl) (Ex.assign rfl) ?_
  refine WL.next ?_
  refine WC.cond rfl (fun hc3 => ?_) (fun hc3 => ?_)
  · have hc3' := hc3; try simp only [decide_eq_true_eq, decide_eq_false_iff_not, Bool.not_eq_true', Bool.not_eq_false', Bool.not_eq_true, Bool.not_eq_false] at hc3'
    refine WC.seq ?_
    have hQ := hH
    refine WC.plan (Keep [] _) [(0, true), (1, true), (2, true), (3, true), (5, true), (6, true), (7, true), (8, true), (4, false), (9, false), (10, true)] rfl (by kernel_rfl) (Keep.drew _ _) (fun hR => ?_)
    replace hH := hH.drew
    refine WPl.q rfl rfl rfl (Wt.plain rfl) (fun w hC => Ex.move rfl) ?_
    refine WPl.q rfl rfl rfl (Wt.plain rfl) (fun w hC => Ex.nilCheck rfl) ?_
    refine WPl.q rfl rfl rfl (Wt.plain rfl) (fun w hC => Ex.fieldAddr fd87_1 rfl) ?_
    refine WPl.q rfl rfl rfl (Wt.plain rfl) (fun w hC => Ex.load flat59 rfl ((cell_of_row _ _ _ _ _ _ (hC.heap (hQ.keep.heap hb (by simp)) (by simp))).trans rfl)) ?_
    refine WPl.q rfl rfl rfl (Wt.plain rfl) (fun w hC => Ex.move rfl) ?_
    refine WPl.q rfl rfl rfl (Wt.plain rfl) (fun w hC => Ex.nilCheck rfl) ?_
    refine WPl.q rfl rfl rfl (Wt.plain rfl) (fun w hC => Ex.fieldAddr fd87_0 rfl) ?_
    refine WPl.q rfl rfl rfl (Wt.plain rfl) (fun w hC => Ex.load flat5 rfl ((cell_of_row _ _ _ _ _ _ (hC.heap (hQ.keep.heap hb (by simp)) (by simp))).trans rfl)) ?_
    refine WPl.f rfl ?_
    refine WL.call callable66 rfl (Wt.plain rfl) rfl rfl (iha _ ba (hTa.kept hH.keep)) ?_
    rintro _ wn ⟨b15, rfl, hC, hT15⟩; replace hH := hH.call hC; replace hR := hR.trans hC.nil
    refine WPl.b hR ?_
    refine WPl.f rfl ?_
    refine WL.call callable94 rfl (Wt.plain rfl) rfl rfl (ihg _ b15 hT15) ?_
    rintro _ wn ⟨b20, rfl, hC, hT20⟩; replace hH := hH.call hC; replace hR := hR.trans hC.nil
    refine WPl.b hR ?_
    refine WPl.q rfl rfl rfl (Wt.plain rfl) (fun w hC => Ex.assign rfl) ?_
    refine WPl.nil (fun hC => ?_); clear hC
    refine WN.next ?_
    refine WC.ret ?_
    refine WN.retBlock ?_
    refine WN.retThen ?_
    refine WN.body1 rfl rfl ?_
    exact ⟨b20, rfl, hH.keep, hT20⟩
  exfalso
  rcases isU_lt hU with h | h | h
  · exact (show s ≠ 62 from ubF 62 (by decide) hc1) h
  · exact (show s ≠ 94 from ubF 94 (by decide) hc2) h
  · exact (show s ≠ 42 from ubF 42 (by decide) hc3) h

set_option maxHeartbeats 1000000 in
theorem itidyBin (b : Nat) (s : UInt8) (a c : Tm) (w : World) (iha : ∀ (w2 : World) (b2 : Nat), TreeAt w2 b2 a → Fn Try.prog 66 [vptr b2 0] w2 (fun v w3 => ∃ b3, v = vptr b3 0 ∧ Keep [] w2 w3 ∧ TreeAt w3 b3 (tidyT a))) (ihc : ∀ (w2 : World) (b2 : Nat), TreeAt w2 b2 c → Fn Try.prog 66 [vptr b2 0] w2 (fun v w3 => ∃ b3, v = vptr b3 0 ∧ Keep [] w2 w3 ∧ TreeAt w3 b3 (tidyT c))) (hs : s = 124 ∨ s = 45) (hT : TreeAt w b (.bin s a c)) : Fn Try.prog 66 [vptr b 0] w (fun v w1 => ∃ b2, v = vptr b2 0 ∧ Keep [] w w1 ∧ TreeAt w1 b2 (tidyT (.bin s a c))) := by
  refine Fn.enter (n := 41) Try.func66 rfl rfl rfl ?_
  show WC _ _ _ _ [(0, vptr b 0)] _
  have hH := Hp.start [] w
  obtain ⟨ba, bc, hb, hTa, hTc⟩ := hT
  have hcu := u8lt s
  obtain ⟨hn62, hn94, hn42⟩ := bin_ne hs
  refine WC.seq ?_
  refine WC.region ?_
  refine WL.u rfl rfl (Wt.plain rfl) (Ex.assign rfl) ?_
  refine WL.next ?_
  refine WC.seq ?_
  refine WC.seq ?_
  refine WC.region ?_
  refine WL.u rfl rfl (Wt.plain rfl) (Ex.move rfl) ?_
  refine WL.u rfl rfl (Wt.plain rfl) (Ex.nilCheck rfl) ?_
  refine WL.u rfl rfl (Wt.plain rfl) (Ex.fieldAddr fd87_0 rfl) ?_
  refine WL.u rfl rfl (Wt.plain rfl) (Ex.load flat5 rfl ((cell_of_row _ _ _ _ _ _ (hH.keep.heap hb (by simp))).trans rfl)) ?_
  refine WL.next ?_
  refine WC.block ?_
  refine WC.seq ?_
  refine WC.seq ?_
  refine WC.region ?_
  refine WL.u rfl rfl (Wt.plain rfl) (Ex.eql rfl rfl) ?_
  refine WL.u rfl rfl (Wt.plain rfl) (Ex.assign rfl) ?_
  refine WL.next ?_
  refine WC.condF rfl (decide_eq_false (fun h => hn62 ((u8eq s 62 (by decide)).1 h))) ?_
  refine WC.seq ?_
  refine WC.region ?_
  refine WL.u rfl rfl (Wt.plain rfl) (Ex.eql rfl rfl) ?_
  refine WL.u rfl rfl (Wt.plain rfl) (Ex.assign rfl) ?_
  refine WL.next ?_
  refine WC.condF rfl (decide_eq_false (fun h => hn94 ((u8eq s 94 (by decide)).1 h))) ?_
  refine WC.region ?_
  refine WL.u rfl rfl (Wt.plain rfl) (Ex.eql rfl rfl) ?_
  refine WL.u rfl rfl (Wt.plain rfl) (Ex.assign rfl) ?_
  refine WL.next ?_
  refine WC.condF rfl (decide_eq_false (fun h => hn42 ((u8eq s 42 (by decide)).1 h))) ?_
  refine WC.seq ?_
  refine WC.seq ?_
  refine WC.region ?_
  refine WL.u rfl rfl (Wt.plain rfl) (Ex.eql rfl rfl) ?_
  refine WL.u rfl rfl (Wt.plain rfl) (Ex.assign rfl) ?_
  refine WL.next ?_
  refine WC.cond rfl (fun hc4 => ?_) (fun hc4 => ?_)
  · have hc4' := hc4; try simp only [decide_eq_true_eq, decide_eq_false_iff_not, Bool.not_eq_true', Bool.not_eq_false', Bool.not_eq_true, Bool.not_eq_false] at hc4'
    refine WC.skip ?_
    refine WN.next ?_
    refine WC.condT rfl hc4 ?_
    refine WC.seq ?_
    have hQ := hH
    refine WC.plan (Keep [] _) [(0, true), (1, true), (2, true), (3, true), (4, true), (5, true), (6, true), (7, true), (9, true), (10, true), (11, true), (12, true), (8, false), (13, false), (14, true), (15, false), (16, true)] rfl (by kernel_rfl) (Keep.drew _ _) (fun hR => ?_)
    replace hH := hH.drew
    refine WPl.q rfl rfl rfl (Wt.plain rfl) (fun w hC => Ex.move rfl) ?_
    refine WPl.q rfl rfl rfl (Wt.plain rfl) (fun w hC => Ex.nilCheck rfl) ?_
    refine WPl.q rfl rfl rfl (Wt.plain rfl) (fun w hC => Ex.fieldAddr fd87_0 rfl) ?_
    refine WPl.q rfl rfl rfl (Wt.plain rfl) (fun w hC => Ex.load flat5 rfl ((cell_of_row _ _ _ _ _ _ (hC.heap (hQ.keep.heap hb (by simp)) (by simp))).trans rfl)) ?_
    refine WPl.q rfl rfl rfl (Wt.plain rfl) (fun w hC => Ex.move rfl) ?_
    refine WPl.q rfl rfl rfl (Wt.plain rfl) (fun w hC => Ex.nilCheck rfl) ?_
    refine WPl.q rfl rfl rfl (Wt.plain rfl) (fun w hC => Ex.fieldAddr fd87_1 rfl) ?_
    refine WPl.q rfl rfl rfl (Wt.plain rfl) (fun w hC => Ex.load flat59 rfl ((cell_of_row _ _ _ _ _ _ (hC.heap (hQ.keep.heap hb (by simp)) (by simp))).trans rfl)) ?_
    refine WPl.q rfl rfl rfl (Wt.plain rfl) (fun w hC => Ex.move rfl) ?_
    refine WPl.q rfl rfl rfl (Wt.plain rfl) (fun w hC => Ex.nilCheck rfl) ?_
    refine WPl.q rfl rfl rfl (Wt.plain rfl) (fun w hC => Ex.fieldAddr fd87_2 rfl) ?_
    refine WPl.q rfl rfl rfl (Wt.plain rfl) (fun w hC => Ex.load flat59 rfl ((cell_of_row _ _ _ _ _ _ (hC.heap (hQ.keep.heap hb (by simp)) (by simp))).trans rfl)) ?_
    refine WPl.f rfl ?_
    refine WL.call callable66 rfl (Wt.plain rfl) rfl rfl (iha _ ba (hTa.kept hH.keep)) ?_
    rintro _ wn ⟨b32, rfl, hC, hT32⟩; replace hH := hH.call hC; replace hR := hR.trans hC.nil; try replace hT37 := hT37.kept hC
    refine WPl.b hR ?_
    refine WPl.f rfl ?_
    refine WL.call callable66 rfl (Wt.plain rfl) rfl rfl (ihc _ bc (hTc.kept hH.keep)) ?_
    rintro _ wn ⟨b37, rfl, hC, hT37⟩; replace hH := hH.call hC; replace hR := hR.trans hC.nil; try replace hT32 := hT32.kept hC
    refine WPl.b hR ?_
    refine WPl.q rfl rfl rfl (Wt.plain rfl) (fun w hC => Ex.buildS bd87 rfl rfl rfl rfl rfl) ?_
    refine WPl.f rfl ?_
    refine WL.box rfl rfl rfl (Wt.plain rfl) hH (fun b39 wn hb39 hk39 hH => ?_)
    replace hR := hR.trans (hk39.nil)
    refine WPl.b hR ?_
    refine WPl.q rfl rfl rfl (Wt.plain rfl) (fun w hC => Ex.assign rfl) ?_
    refine WPl.nil (fun hC => ?_); clear hC
    refine WN.next ?_
    refine WC.ret ?_
    refine WN.retBlock ?_
    refine WN.retThen ?_
    refine WN.body1 rfl rfl ?_
    exact ⟨b39, rfl, hH.keep, b32, b37, hH.at 0 rfl, hT32.kept hk39, hT37.kept hk39⟩
  have hc4' := hc4; try simp only [decide_eq_true_eq, decide_eq_false_iff_not, Bool.not_eq_true', Bool.not_eq_false', Bool.not_eq_true, Bool.not_eq_false] at hc4'
  refine WC.region ?_
  refine WL.u rfl rfl (Wt.plain rfl) (Ex.eql rfl rfl) ?_
  refine WL.u rfl rfl (Wt.plain rfl) (Ex.assign rfl) ?_
  refine WL.next ?_
  refine WC.cond rfl (fun hc5 => ?_) (fun hc5 => ?_)
  · have hc5' := hc5; try simp only [decide_eq_true_eq, decide_eq_false_iff_not, Bool.not_eq_true', Bool.not_eq_false', Bool.not_eq_true, Bool.not_eq_false] at hc5'
    refine WC.seq ?_
    have hQ := hH
    refine WC.plan (Keep [] _) [(0, true), (1, true), (2, true), (3, true), (4, true), (5, true), (6, true), (7, true), (9, true), (10, true), (11, true), (12, true), (8, false), (13, false), (14, true), (15, false), (16, true)] rfl (by kernel_rfl) (Keep.drew _ _) (fun hR => ?_)
    replace hH := hH.drew
    refine WPl.q rfl rfl rfl (Wt.plain rfl) (fun w hC => Ex.move rfl) ?_
    refine WPl.q rfl rfl rfl (Wt.plain rfl) (fun w hC => Ex.nilCheck rfl) ?_
    refine WPl.q rfl rfl rfl (Wt.plain rfl) (fun w hC => Ex.fieldAddr fd87_0 rfl) ?_
    refine WPl.q rfl rfl rfl (Wt.plain rfl) (fun w hC => Ex.load flat5 rfl ((cell_of_row _ _ _ _ _ _ (hC.heap (hQ.keep.heap hb (by simp)) (by simp))).trans rfl)) ?_
    refine WPl.q rfl rfl rfl (Wt.plain rfl) (fun w hC => Ex.move rfl) ?_
    refine WPl.q rfl rfl rfl (Wt.plain rfl) (fun w hC => Ex.nilCheck rfl) ?_
    refine WPl.q rfl rfl rfl (Wt.plain rfl) (fun w hC => Ex.fieldAddr fd87_1 rfl) ?_
    refine WPl.q rfl rfl rfl (Wt.plain rfl) (fun w hC => Ex.load flat59 rfl ((cell_of_row _ _ _ _ _ _ (hC.heap (hQ.keep.heap hb (by simp)) (by simp))).trans rfl)) ?_
    refine WPl.q rfl rfl rfl (Wt.plain rfl) (fun w hC => Ex.move rfl) ?_
    refine WPl.q rfl rfl rfl (Wt.plain rfl) (fun w hC => Ex.nilCheck rfl) ?_
    refine WPl.q rfl rfl rfl (Wt.plain rfl) (fun w hC => Ex.fieldAddr fd87_2 rfl) ?_
    refine WPl.q rfl rfl rfl (Wt.plain rfl) (fun w hC => Ex.load flat59 rfl ((cell_of_row _ _ _ _ _ _ (hC.heap (hQ.keep.heap hb (by simp)) (by simp))).trans rfl)) ?_
    refine WPl.f rfl ?_
    refine WL.call callable66 rfl (Wt.plain rfl) rfl rfl (iha _ ba (hTa.kept hH.keep)) ?_
    rintro _ wn ⟨b32, rfl, hC, hT32⟩; replace hH := hH.call hC; replace hR := hR.trans hC.nil; try replace hT37 := hT37.kept hC
    refine WPl.b hR ?_
    refine WPl.f rfl ?_
    refine WL.call callable66 rfl (Wt.plain rfl) rfl rfl (ihc _ bc (hTc.kept hH.keep)) ?_
    rintro _ wn ⟨b37, rfl, hC, hT37⟩; replace hH := hH.call hC; replace hR := hR.trans hC.nil; try replace hT32 := hT32.kept hC
    refine WPl.b hR ?_
    refine WPl.q rfl rfl rfl (Wt.plain rfl) (fun w hC => Ex.buildS bd87 rfl rfl rfl rfl rfl) ?_
    refine WPl.f rfl ?_
    refine WL.box rfl rfl rfl (Wt.plain rfl) hH (fun b39 wn hb39 hk39 hH => ?_)
    replace hR := hR.trans (hk39.nil)
    refine WPl.b hR ?_
    refine WPl.q rfl rfl rfl (Wt.plain rfl) (fun w hC => Ex.assign rfl) ?_
    refine WPl.nil (fun hC => ?_); clear hC
    refine WN.next ?_
    refine WC.ret ?_
    refine WN.retBlock ?_
    refine WN.retThen ?_
    refine WN.body1 rfl rfl ?_
    exact ⟨b39, rfl, hH.keep, b32, b37, hH.at 0 rfl, hT32.kept hk39, hT37.kept hk39⟩
  exfalso
  rcases hs with h | h
  · exact (show s ≠ 124 from ubF 124 (by decide) hc4) h
  · exact (show s ≠ 45 from ubF 45 (by decide) hc5) h


theorem isignedT (g : UInt8) : ∀ (t : Tm), Td t → ∀ (w : World) (b : Nat), TreeAt w b t → Fn Try.prog 94 [vptr b 0, .int .u8 g.toNat] w (fun v w3 => ∃ b3, v = vptr b3 0 ∧ Keep [] w w3 ∧ TreeAt w3 b3 (signedT g t))
  | .leaf c, h, w, b, hT => isignedLeaf b c g w hT
  | .una s a, h, w, b, hT => by cases h
  | .bin s a c, h, w, b, hT => by
    cases h with
    | bin hs ha hc => exact isignedBin b g s a c w (fun w2 b2 h => isignedT g a ha w2 b2 h) (fun w2 b2 h => isignedT g c hc w2 b2 h) hT
theorem itextT : ∀ (t : Tm), Td t → lenT t ≤ 100000 → ∀ (w : World) (b : Nat), TreeAt w b t → Fn Try.prog 67 [vptr b 0] w (fun v w3 => v = vstr (textT t) ∧ Keep [] w w3)
  | .leaf c, h, _, w, b, hT => by
    cases h with
    | leaf hc => exact itextLeaf b c w hT hc
  | .una s a, h, _, w, b, hT => by cases h
  | .bin s a c, h, hl, w, b, hT => by
    cases h with
    | bin hs ha hc =>
      simp only [lenT] at hl
      exact itextBin b s a c w (fun w2 b2 h => itextT a ha (by omega) w2 b2 h) (fun w2 b2 h => itextT c hc (by omega) w2 b2 h) hs hT (by rw [td_len ha]; omega) (by rw [td_len hc]; omega)
theorem itidyT : ∀ (t : Tm), Wf t → ∀ (w : World) (b : Nat), TreeAt w b t → Fn Try.prog 66 [vptr b 0] w (fun v w3 => ∃ b3, v = vptr b3 0 ∧ Keep [] w w3 ∧ TreeAt w3 b3 (tidyT t))
  | .leaf c, h, w, b, hT => by
    cases h with
    | leaf hc => exact itidyLeaf b c w hT hc
  | .una s a, h, w, b, hT => by
    cases h with
    | una hs ha => exact itidyUna b s a w (fun w2 b2 h => itidyT a ha w2 b2 h) (fun w2 b2 h => isignedT s (tidyT a) (Td.of ha) w2 b2 h) hs hT
  | .bin s a c, h, w, b, hT => by
    cases h with
    | bin hs ha hc => exact itidyBin b s a c w (fun w2 b2 h => itidyT a ha w2 b2 h) (fun w2 b2 h => itidyT c hc w2 b2 h) (isB_or hs) hT

theorem iTermTidy (s : Str) (w : World) (hs : s.length ≤ 1048577) : Fn Try.prog 32 [vstr s] w (fun v w1 => v = .tuple #[vstr (termTidy s).1, .bool (termTidy s).2] ∧ Keep [] w w1) := by
  refine Fn.enter (n := 18) Try.func32 rfl rfl rfl ?_
  show WC _ _ _ _ [(0, vstr s)] _
  have hH := Hp.start [] w
  refine WC.seq ?_
  refine WC.region ?_
  refine WL.u rfl rfl (Wt.plain rfl) (Ex.assign rfl) ?_
  refine WL.u rfl rfl (Wt.plain rfl) (Ex.assign rfl) ?_
  refine WL.next ?_
  refine WC.seq ?_
  refine WC.region ?_
  refine WL.u rfl rfl (Wt.plain rfl) (Ex.move rfl) ?_
  refine WL.call callable63 rfl (Wt.plain rfl) rfl rfl (itermOf _ _ (by omega)) ?_
  rintro _ wn ⟨p9, x9, rfl, hC, hT9⟩; have hHa9 := hH; have hCa9 := hC; replace hH := hH.call hC
  refine WL.u rfl rfl (Wt.plain rfl) (Ex.move rfl) ?_
  refine WL.u rfl rfl (Wt.plain rfl) (Ex.extract rfl rfl) ?_
  refine WL.u rfl rfl (Wt.plain rfl) (Ex.extract rfl rfl) ?_
  refine WL.u rfl rfl (Wt.plain rfl) (Ex.extract rfl rfl) ?_
  refine WL.u rfl rfl (Wt.plain rfl) (Ex.assign rfl) ?_
  refine WL.u rfl rfl (Wt.plain rfl) (Ex.assign rfl) ?_
  refine WL.u rfl rfl (Wt.plain rfl) (Ex.assign rfl) ?_
  refine WL.next ?_
  refine WC.seq ?_
  refine WC.seq ?_
  refine WC.region ?_
  refine WL.u rfl rfl (Wt.plain rfl) (Ex.move rfl) ?_
  refine WL.u rfl rfl (Wt.plain rfl) (Ex.not rfl) ?_
  refine WL.next ?_
  refine WC.cond rfl (fun hc1 => ?_) (fun hc1 => ?_)
  · have htn : termT s = none := by simpa using hc1
    refine WC.seq ?_
    refine WC.region ?_
    refine WL.u rfl rfl (Wt.plain rfl) (Ex.assign rfl) ?_
    refine WL.u rfl rfl (Wt.plain rfl) (Ex.assign rfl) ?_
    refine WL.next ?_
    refine WC.ret ?_
    refine WN.retThen ?_
    refine WN.body2 rfl rfl rfl ?_
    exact ⟨by rw [termTidy_not htn] <;> rfl, hH.keep⟩
  have hts : (termT s).isSome = true := by simpa using hc1
  obtain ⟨t, ht⟩ := Option.isSome_iff_exists.1 hts
  obtain ⟨hW, hv, hN, b1, rfl, hTr⟩ := hT9 t ht
  have hlt := termT_len ht
  have htl := tidy_len hW
  rw [td_len (Td.of hW)] at htl
  refine WC.skip ?_
  refine WN.next ?_
  refine WC.seq ?_
  refine WC.region ?_
  refine WL.u rfl rfl (Wt.plain rfl) (Ex.move rfl) ?_
  refine WL.call callable66 rfl (Wt.plain rfl) rfl rfl (itidyT t hW _ b1 hTr) ?_
  rintro _ wn ⟨b16, rfl, hC, hT16⟩; replace hH := hH.call hC
  refine WL.call callable67 rfl (Wt.plain rfl) rfl rfl (itextT (tidyT t) (Td.of hW) (by omega) _ b16 hT16) ?_
  rintro _ wn ⟨rfl, hC⟩; replace hH := hH.call hC; clear hC
  refine WL.u rfl rfl (Wt.plain rfl) (Ex.assign rfl) ?_
  refine WL.u rfl rfl (Wt.plain rfl) (Ex.assign rfl) ?_
  refine WL.next ?_
  refine WC.ret ?_
  refine WN.body2 rfl rfl rfl ?_
  exact ⟨by rw [termTidy_at ht] <;> rfl, hH.keep⟩

theorem stidyLeaf (c : UInt8) (h : Hd) (k : Nat) (f o : Bool) (w : World) (hc : okL c = true) (hk : k < 4) : Fn Try.prog 65 [.agg #[.int .u8 c.toNat, vint 1, vint 1, .slice h.1 h.2.1 h.2.2], vint k, .bool f, .bool o] w (fun v w1 => v = vstr (tidyS (.leaf c) k f o) ∧ Keep [] w w1) := by
  refine Fn.enter (n := 130) Try.func65 rfl rfl rfl ?_
  show WC _ _ _ _ [(0, .agg #[.int .u8 c.toNat, vint 1, vint 1, .slice h.1 h.2.1 h.2.2]), (1, vint k), (2, .bool f), (3, .bool o)] _
  have hH := Hp.start [] w
  obtain ⟨hn62, hn94, hn42, hn124, hn45⟩ := okL_ne hc
  have e : decide (((k % 2 : Nat) : Int) = 1) = decide (k % 2 = 1) := by rw [Bool.eq_iff_iff]; simp; omega
  refine WC.seq ?_
  refine WC.region ?_
  refine WL.box rfl rfl rfl (Wt.plain rfl) hH (fun b4 wn hb4 hk4 hH => ?_)
  refine WL.u rfl rfl (Wt.plain rfl) (Ex.assign rfl) ?_
  refine WL.next ?_
  refine WC.seq ?_
  refine WC.seq ?_
  refine WC.region ?_
  refine WL.u rfl rfl (Wt.plain rfl) (Ex.fieldAddr fd56_0 rfl) ?_
  refine WL.u rfl rfl (Wt.plain rfl) (Ex.loadHp flat5 rfl hH rfl) ?_
  refine WL.next ?_
  refine WC.block ?_
  refine WC.seq ?_
  refine WC.region ?_
  refine WL.u rfl rfl (Wt.plain rfl) (Ex.eql rfl rfl) ?_
  refine WL.u rfl rfl (Wt.plain rfl) (Ex.assign rfl) ?_
  refine WL.next ?_
  refine WC.condF rfl (decide_eq_false (fun h => hn62 ((u8eq c 62 (by decide)).1 h))) ?_
  refine WC.seq ?_
  refine WC.region ?_
  refine WL.u rfl rfl (Wt.plain rfl) (Ex.eql rfl rfl) ?_
  refine WL.u rfl rfl (Wt.plain rfl) (Ex.assign rfl) ?_
  refine WL.next ?_
  refine WC.condF rfl (decide_eq_false (fun h => hn94 ((u8eq c 94 (by decide)).1 h))) ?_
  refine WC.seq ?_
  refine WC.region ?_
  refine WL.u rfl rfl (Wt.plain rfl) (Ex.eql rfl rfl) ?_
  refine WL.u rfl rfl (Wt.plain rfl) (Ex.assign rfl) ?_
  refine WL.next ?_
  refine WC.condF rfl (decide_eq_false (fun h => hn42 ((u8eq c 42 (by decide)).1 h))) ?_
  refine WC.seq ?_
  refine WC.seq ?_
  refine WC.region ?_
  refine WL.u rfl rfl (Wt.plain rfl) (Ex.eql rfl rfl) ?_
  refine WL.u rfl rfl (Wt.plain rfl) (Ex.assign rfl) ?_
  refine WL.next ?_
  refine WC.condF rfl (decide_eq_false (fun h => hn124 ((u8eq c 124 (by decide)).1 h))) ?_
  refine WC.region ?_
  refine WL.u rfl rfl (Wt.plain rfl) (Ex.eql rfl rfl) ?_
  refine WL.u rfl rfl (Wt.plain rfl) (Ex.assign rfl) ?_
  refine WL.next ?_
  refine WC.condF rfl (decide_eq_false (fun h => hn45 ((u8eq c 45 (by decide)).1 h))) ?_
  refine WC.skip ?_
  refine WN.normalBlock ?_
  refine WN.next ?_
  refine WC.seq ?_
  refine WC.region ?_
  refine WL.u rfl rfl (Wt.plain rfl) (Ex.fieldAddr fd56_0 rfl) ?_
  refine WL.u rfl rfl (Wt.plain rfl) (Ex.loadHp flat5 rfl hH rfl) ?_
  refine WL.u rfl rfl (Wt.plain rfl) (Ex.assign rfl) ?_
  refine WL.next ?_
  refine WC.seq ?_
  refine WC.seq ?_
  refine WC.region ?_
  refine WL.u rfl rfl (Wt.plain rfl) (Ex.move rfl) ?_
  refine WL.u rfl rfl (Wt.plain rfl) ((Ex.rem rfl rfl (by omega) (by omega)).to (congrArg (Value.int IntKind.i64) (show _ = ((k % 2 : Nat) : Int) from (Int.natCast_emod k 2).symm))) ?_
  refine WL.u rfl rfl (Wt.plain rfl) (Ex.eql rfl rfl) ?_
  refine WL.u rfl rfl (Wt.plain rfl) (Ex.move rfl) ?_
  refine WL.u rfl rfl (Wt.plain rfl) (Ex.neqB Try.underlying4 rfl rfl) ?_
  refine WL.u rfl rfl (Wt.plain rfl) (Ex.move rfl) ?_
  refine WL.u rfl rfl (Wt.plain rfl) (Ex.neqB Try.underlying4 rfl rfl) ?_
  refine WL.next ?_
  refine WC.cond rfl (fun hc10 => ?_) (fun hc10 => ?_)
  · rw [e] at hc10
    refine WC.region ?_
    refine WL.u rfl rfl (Wt.plain rfl) (Ex.move rfl) ?_
    refine WL.call callable93 rfl (Wt.plain rfl) rfl rfl (sl1Other _ _) ?_
    rintro _ _ ⟨rfl, hw⟩; obtain rfl := hw.symm
    refine WL.u rfl rfl (Wt.plain rfl) (Ex.assign rfl) ?_
    refine WL.next ?_
    refine WC.seq ?_
    refine WC.region ?_
    refine WL.u rfl rfl (Wt.plain rfl) (Ex.move rfl) ?_
    refine WL.lit Try.underlying32 ty5 rfl rfl rfl rfl rfl rfl rfl (Wt.plain rfl) hH (fun b128 wn hb128 hk128 hH => ?_)
    have ho128 := Own.bt1 (exch c)
    refine WL.u rfl rfl (Wt.plain rfl) (Ex.bytesStr Try.underlying32 Try.underlying5 Try.underlying9 rfl (ho128.slAt hH 0 rfl)) ?_
    refine WL.u rfl rfl (Wt.plain rfl) (Ex.assign rfl) ?_
    refine WL.next ?_
    refine WC.ret ?_
    refine WN.body1 rfl rfl ?_
    exact ⟨by rw [tidyS, if_pos (show (((decide (k % 2 = 1)) != f) != o) = true from hc10)], hH.keep⟩
  rw [e] at hc10
  refine WC.skip ?_
  refine WN.next ?_
  refine WC.seq ?_
  refine WC.region ?_
  refine WL.u rfl rfl (Wt.plain rfl) (Ex.move rfl) ?_
  refine WL.lit Try.underlying32 ty5 rfl rfl rfl rfl rfl rfl rfl (Wt.plain rfl) hH (fun b128 wn hb128 hk128 hH => ?_)
  have ho128 := Own.bt1 c
  refine WL.u rfl rfl (Wt.plain rfl) (Ex.bytesStr Try.underlying32 Try.underlying5 Try.underlying9 rfl (ho128.slAt hH 0 rfl)) ?_
  refine WL.u rfl rfl (Wt.plain rfl) (Ex.assign rfl) ?_
  refine WL.next ?_
  refine WC.ret ?_
  refine WN.body1 rfl rfl ?_
  exact ⟨by rw [tidyS, if_neg (by rw [show (((decide (k % 2 = 1)) != f) != o) = false from hc10]; decide)], hH.keep⟩

theorem stidyUna (lo b cap nn mm : Nat) (s : UInt8) (a : Tm) (qa : Qd) (k : Nat) (f o : Bool) (w : World) (iha : ∀ (w2 : World) (q : Qd) (k : Nat) (f o : Bool), k < 4 → TQ lo w2 a q → Fn Try.prog 65 [rQd.val q, vint k, .bool f, .bool o] w2 (fun v w3 => v = vstr (tidyS a k f o) ∧ Keep [] w2 w3)) (hU : isU s = true) (hk : k < 4) (hs : Sl rQd w (some ⟨b, 0, none⟩) [qa]) (hTa : TQ lo w a qa) : Fn Try.prog 65 [.agg #[.int .u8 s.toNat, vint nn, vint mm, .slice (some ⟨b, 0, none⟩) 1 cap], vint k, .bool f, .bool o] w (fun v w1 => v = vstr (tidyS (.una s a) k f o) ∧ Keep [] w w1) := by
  refine Fn.enter (n := 130) Try.func65 rfl rfl rfl ?_
  show WC _ _ _ _ [(0, .agg #[.int .u8 s.toNat, vint nn, vint mm, .slice (some ⟨b, 0, none⟩) 1 cap]), (1, vint k), (2, .bool f), (3, .bool o)] _
  have hH := Hp.start [] w
  refine WC.seq ?_
  refine WC.region ?_
  refine WL.box rfl rfl rfl (Wt.plain rfl) hH (fun b4 wn hb4 hk4 hH => ?_)
  refine WL.u rfl rfl (Wt.plain rfl) (Ex.assign rfl) ?_
  refine WL.next ?_
  refine WC.seq ?_
  refine WC.seq ?_
  refine WC.region ?_
  refine WL.u rfl rfl (Wt.plain rfl) (Ex.fieldAddr fd56_0 rfl) ?_
  refine WL.u rfl rfl (Wt.plain rfl) (Ex.loadHp flat5 rfl hH rfl) ?_
  refine WL.next ?_
  refine WC.block ?_
  refine WC.seq ?_
  refine WC.region ?_
  refine WL.u rfl rfl (Wt.plain rfl) (Ex.eql rfl rfl) ?_
  refine WL.u rfl rfl (Wt.plain rfl) (Ex.assign rfl) ?_
  refine WL.next ?_
  refine WC.cond rfl (fun hc1 => ?_) (fun hc1 => ?_)
  · have he : s = 62 := ubT 62 (by decide) hc1
    refine WC.seq ?_
    refine WC.seq ?_
    refine WC.region ?_
    refine WL.u rfl rfl (Wt.plain rfl) (Ex.move rfl) ?_
    refine WL.next ?_
    refine WC.cond rfl (fun hc2 => ?_) (fun hc2 => ?_)
    · have hc2' := hc2; try simp only [decide_eq_true_eq, decide_eq_false_iff_not, Bool.not_eq_true', Bool.not_eq_false', Bool.not_eq_true, Bool.not_eq_false] at hc2'
      refine WC.seq ?_
      refine WC.region ?_
      refine WL.u rfl rfl (Wt.plain rfl) (Ex.fieldAddr fd56_3 rfl) ?_
      refine WL.u rfl rfl (Wt.plain rfl) (Ex.loadHp flat54 rfl hH rfl) ?_
      refine WL.u rfl rfl (Wt.plain rfl) (Ex.indexAddr Try.underlying54 ty56 rfl rfl (by omega)) ?_
      refine WL.u rfl rfl (Wt.plain rfl) (Ex.loadSlS Try.underlying56 ty56 (hs.kept hH.keep) rfl (rfl) rfl) ?_
      refine WL.u rfl rfl (Wt.plain rfl) (Ex.move rfl) ?_
      refine WL.u rfl rfl (Wt.plain rfl) (Ex.add rfl rfl (by omega)) ?_
      refine WL.u rfl rfl (Wt.plain rfl) ((Ex.rem rfl rfl (by omega) (by omega)).to (congrArg (Value.int IntKind.i64) (show _ = (((k + 3) % 4 : Nat) : Int) by omega))) ?_
      refine WL.u rfl rfl (Wt.plain rfl) (Ex.move rfl) ?_
      refine WL.u rfl rfl (Wt.plain rfl) (Ex.move rfl) ?_
      refine WL.call callable65 rfl (Wt.plain rfl) rfl rfl (iha _ qa ((k + 3) % 4) f o (Nat.mod_lt _ (by omega)) (hTa.kept hH.keep)) ?_
      rintro _ wn ⟨rfl, hC⟩; replace hH := hH.call hC; clear hC
      refine WL.u rfl rfl (Wt.plain rfl) (Ex.assign rfl) ?_
      refine WL.next ?_
      refine WC.ret ?_
      refine WN.retThen ?_
      refine WN.retBlock ?_
      refine WN.retThen ?_
      refine WN.body1 rfl rfl ?_
      exact ⟨by rw [tidyS, if_pos he, if_pos hc2], hH.keep⟩
    have hc2' := hc2; try simp only [decide_eq_true_eq, decide_eq_false_iff_not, Bool.not_eq_true', Bool.not_eq_false', Bool.not_eq_true, Bool.not_eq_false] at hc2'
    refine WC.skip ?_
    refine WN.next ?_
    refine WC.seq ?_
    refine WC.region ?_
    refine WL.u rfl rfl (Wt.plain rfl) (Ex.fieldAddr fd56_3 rfl) ?_
    refine WL.u rfl rfl (Wt.plain rfl) (Ex.loadHp flat54 rfl hH rfl) ?_
    refine WL.u rfl rfl (Wt.plain rfl) (Ex.indexAddr Try.underlying54 ty56 rfl rfl (by omega)) ?_
    refine WL.u rfl rfl (Wt.plain rfl) (Ex.loadSlS Try.underlying56 ty56 (hs.kept hH.keep) rfl (rfl) rfl) ?_
    refine WL.u rfl rfl (Wt.plain rfl) (Ex.move rfl) ?_
    refine WL.u rfl rfl (Wt.plain rfl) (Ex.add rfl rfl (by omega)) ?_
    refine WL.u rfl rfl (Wt.plain rfl) ((Ex.rem rfl rfl (by omega) (by omega)).to (congrArg (Value.int IntKind.i64) (show _ = (((k + 1) % 4 : Nat) : Int) by omega))) ?_
    refine WL.u rfl rfl (Wt.plain rfl) (Ex.move rfl) ?_
    refine WL.u rfl rfl (Wt.plain rfl) (Ex.move rfl) ?_
    refine WL.call callable65 rfl (Wt.plain rfl) rfl rfl (iha _ qa ((k + 1) % 4) f o (Nat.mod_lt _ (by omega)) (hTa.kept hH.keep)) ?_
    rintro _ wn ⟨rfl, hC⟩; replace hH := hH.call hC; clear hC
    refine WL.u rfl rfl (Wt.plain rfl) (Ex.assign rfl) ?_
    refine WL.next ?_
    refine WC.ret ?_
    refine WN.retBlock ?_
    refine WN.retThen ?_
    refine WN.body1 rfl rfl ?_
    exact ⟨by rw [tidyS, if_pos he, if_neg (by rw [hc2]; decide)], hH.keep⟩
  have hs1 : s ≠ 62 := ubF 62 (by decide) hc1
  refine WC.seq ?_
  refine WC.region ?_
  refine WL.u rfl rfl (Wt.plain rfl) (Ex.eql rfl rfl) ?_
  refine WL.u rfl rfl (Wt.plain rfl) (Ex.assign rfl) ?_
  refine WL.next ?_
  refine WC.cond rfl (fun hc3 => ?_) (fun hc3 => ?_)
  · have he : s = 94 := ubT 94 (by decide) hc3
    refine WC.seq ?_
    refine WC.region ?_
    refine WL.u rfl rfl (Wt.plain rfl) (Ex.fieldAddr fd56_3 rfl) ?_
    refine WL.u rfl rfl (Wt.plain rfl) (Ex.loadHp flat54 rfl hH rfl) ?_
    refine WL.u rfl rfl (Wt.plain rfl) (Ex.indexAddr Try.underlying54 ty56 rfl rfl (by omega)) ?_
    refine WL.u rfl rfl (Wt.plain rfl) (Ex.loadSlS Try.underlying56 ty56 (hs.kept hH.keep) rfl (rfl) rfl) ?_
    refine WL.u rfl rfl (Wt.plain rfl) (Ex.move rfl) ?_
    refine WL.u rfl rfl (Wt.plain rfl) (Ex.move rfl) ?_
    refine WL.u rfl rfl (Wt.plain rfl) (Ex.not rfl) ?_
    refine WL.u rfl rfl (Wt.plain rfl) (Ex.move rfl) ?_
    refine WL.call callable65 rfl (Wt.plain rfl) rfl rfl (iha _ qa k (!f) o hk (hTa.kept hH.keep)) ?_
    rintro _ wn ⟨rfl, hC⟩; replace hH := hH.call hC; clear hC
    refine WL.u rfl rfl (Wt.plain rfl) (Ex.assign rfl) ?_
    refine WL.next ?_
    refine WC.ret ?_
    refine WN.retBlock ?_
    refine WN.retThen ?_
    refine WN.body1 rfl rfl ?_
    exact ⟨by rw [tidyS, if_neg hs1, if_pos he], hH.keep⟩
  have hs2 : s ≠ 94 := ubF 94 (by decide) hc3
  refine WC.seq ?_
  refine WC.region ?_
  refine WL.u rfl rfl (Wt.plain rfl) (Ex.eql rfl rfl) ?_
  refine WL.u rfl rfl (Wt.plain rfl) (Ex.assign rfl) ?_
  refine WL.next ?_
  refine WC.cond rfl (fun hc4 => ?_) (fun hc4 => ?_)
  · have he : s = 42 := ubT 42 (by decide) hc4
    refine WC.seq ?_
    refine WC.region ?_
    refine WL.u rfl rfl (Wt.plain rfl) (Ex.fieldAddr fd56_3 rfl) ?_
    refine WL.u rfl rfl (Wt.plain rfl) (Ex.loadHp flat54 rfl hH rfl) ?_
    refine WL.u rfl rfl (Wt.plain rfl) (Ex.indexAddr Try.underlying54 ty56 rfl rfl (by omega)) ?_
    refine WL.u rfl rfl (Wt.plain rfl) (Ex.loadSlS Try.underlying56 ty56 (hs.kept hH.keep) rfl (rfl) rfl) ?_
    refine WL.u rfl rfl (Wt.plain rfl) (Ex.move rfl) ?_
    refine WL.u rfl rfl (Wt.plain rfl) (Ex.move rfl) ?_
    refine WL.u rfl rfl (Wt.plain rfl) (Ex.move rfl) ?_
    refine WL.u rfl rfl (Wt.plain rfl) (Ex.not rfl) ?_
    refine WL.call callable65 rfl (Wt.plain rfl) rfl rfl (iha _ qa k f (!o) hk (hTa.kept hH.keep)) ?_
    rintro _ wn ⟨rfl, hC⟩; replace hH := hH.call hC; clear hC
    refine WL.u rfl rfl (Wt.plain rfl) (Ex.assign rfl) ?_
    refine WL.next ?_
    refine WC.ret ?_
    refine WN.retBlock ?_
    refine WN.retThen ?_
    refine WN.body1 rfl rfl ?_
    exact ⟨by rw [tidyS, if_neg hs1, if_neg hs2], hH.keep⟩
  exfalso
  have hs3 : s ≠ 42 := ubF 42 (by decide) hc4
  rcases isU_lt hU with h | h | h
  · exact hs1 h
  · exact hs2 h
  · exact hs3 h

set_option maxHeartbeats 1000000 in
theorem stidyBin (lo b cap nn mm : Nat) (s : UInt8) (a c : Tm) (qa qc : Qd) (k : Nat) (f o : Bool) (w : World) (iha : ∀ (w2 : World) (q : Qd) (k : Nat) (f o : Bool), k < 4 → TQ lo w2 a q → Fn Try.prog 65 [rQd.val q, vint k, .bool f, .bool o] w2 (fun v w3 => v = vstr (tidyS a k f o) ∧ Keep [] w2 w3)) (ihc : ∀ (w2 : World) (q : Qd) (k : Nat) (f o : Bool), k < 4 → TQ lo w2 c q → Fn Try.prog 65 [rQd.val q, vint k, .bool f, .bool o] w2 (fun v w3 => v = vstr (tidyS c k f o) ∧ Keep [] w2 w3)) (hB : s = 124 ∨ s = 45) (hk : k < 4) (hs : Sl rQd w (some ⟨b, 0, none⟩) [qa, qc]) (hTa : TQ lo w a qa) (hTc : TQ lo w c qc) (hla : lenT a ≤ 100000) (hlc : lenT c ≤ 100000) : Fn Try.prog 65 [.agg #[.int .u8 s.toNat, vint nn, vint mm, .slice (some ⟨b, 0, none⟩) 2 cap], vint k, .bool f, .bool o] w (fun v w1 => v = vstr (tidyS (.bin s a c) k f o) ∧ Keep [] w w1) := by
  refine Fn.enter (n := 130) Try.func65 rfl rfl rfl ?_
  show WC _ _ _ _ [(0, .agg #[.int .u8 s.toNat, vint nn, vint mm, .slice (some ⟨b, 0, none⟩) 2 cap]), (1, vint k), (2, .bool f), (3, .bool o)] _
  have hH := Hp.start [] w
  obtain ⟨hn62, hn94, hn42⟩ := bin_ne hB
  have hl1 := tidyS_len (t := a) k f o
  have hl2 := tidyS_len (t := c) k f o
  refine WC.seq ?_
  refine WC.region ?_
  refine WL.box rfl rfl rfl (Wt.plain rfl) hH (fun b4 wn hb4 hk4 hH => ?_)
  refine WL.u rfl rfl (Wt.plain rfl) (Ex.assign rfl) ?_
  refine WL.next ?_
  refine WC.seq ?_
  refine WC.seq ?_
  refine WC.region ?_
  refine WL.u rfl rfl (Wt.plain rfl) (Ex.fieldAddr fd56_0 rfl) ?_
  refine WL.u rfl rfl (Wt.plain rfl) (Ex.loadHp flat5 rfl hH rfl) ?_
  refine WL.next ?_
  refine WC.block ?_
  refine WC.seq ?_
  refine WC.region ?_
  refine WL.u rfl rfl (Wt.plain rfl) (Ex.eql rfl rfl) ?_
  refine WL.u rfl rfl (Wt.plain rfl) (Ex.assign rfl) ?_
  refine WL.next ?_
  refine WC.condF rfl (decide_eq_false (fun h => hn62 ((u8eq s 62 (by decide)).1 h))) ?_
  refine WC.seq ?_
  refine WC.region ?_
  refine WL.u rfl rfl (Wt.plain rfl) (Ex.eql rfl rfl) ?_
  refine WL.u rfl rfl (Wt.plain rfl) (Ex.assign rfl) ?_
  refine WL.next ?_
  refine WC.condF rfl (decide_eq_false (fun h => hn94 ((u8eq s 94 (by decide)).1 h))) ?_
  refine WC.seq ?_
  refine WC.region ?_
  refine WL.u rfl rfl (Wt.plain rfl) (Ex.eql rfl rfl) ?_
  refine WL.u rfl rfl (Wt.plain rfl) (Ex.assign rfl) ?_
  refine WL.next ?_
  refine WC.condF rfl (decide_eq_false (fun h => hn42 ((u8eq s 42 (by decide)).1 h))) ?_
  refine WC.seq ?_
  refine WC.seq ?_
  refine WC.region ?_
  refine WL.u rfl rfl (Wt.plain rfl) (Ex.eql rfl rfl) ?_
  refine WL.u rfl rfl (Wt.plain rfl) (Ex.assign rfl) ?_
  refine WL.next ?_
  refine WC.cond rfl (fun hc5 => ?_) (fun hc5 => ?_)
  · have hc5' := hc5; try simp only [decide_eq_true_eq, decide_eq_false_iff_not, Bool.not_eq_true', Bool.not_eq_false', Bool.not_eq_true, Bool.not_eq_false] at hc5'
    refine WC.skip ?_
    refine WN.next ?_
    refine WC.condT rfl hc5 ?_
    refine WC.seq ?_
    refine WC.region ?_
    refine WL.u rfl rfl (Wt.plain rfl) (Ex.fieldAddr fd56_0 rfl) ?_
    refine WL.u rfl rfl (Wt.plain rfl) (Ex.loadHp flat5 rfl hH rfl) ?_
    refine WL.u rfl rfl (Wt.plain rfl) (Ex.assign rfl) ?_
    refine WL.next ?_
    refine WC.seq ?_
    refine WC.region ?_
    refine WL.u rfl rfl (Wt.plain rfl) (Ex.fieldAddr fd56_3 rfl) ?_
    refine WL.u rfl rfl (Wt.plain rfl) (Ex.loadHp flat54 rfl hH rfl) ?_
    refine WL.u rfl rfl (Wt.plain rfl) (Ex.indexAddr Try.underlying54 ty56 rfl rfl (by omega)) ?_
    refine WL.u rfl rfl (Wt.plain rfl) (Ex.loadSlS Try.underlying56 ty56 (hs.kept hH.keep) rfl (rfl) rfl) ?_
    refine WL.u rfl rfl (Wt.plain rfl) (Ex.move rfl) ?_
    refine WL.u rfl rfl (Wt.plain rfl) (Ex.move rfl) ?_
    refine WL.u rfl rfl (Wt.plain rfl) (Ex.move rfl) ?_
    refine WL.call callable65 rfl (Wt.plain rfl) rfl rfl (iha _ qa k f o hk (hTa.kept hH.keep)) ?_
    rintro _ wn ⟨rfl, hC⟩; replace hH := hH.call hC; clear hC
    refine WL.u rfl rfl (Wt.plain rfl) (Ex.assign rfl) ?_
    refine WL.next ?_
    refine WC.seq ?_
    refine WC.region ?_
    refine WL.u rfl rfl (Wt.plain rfl) (Ex.fieldAddr fd56_3 rfl) ?_
    refine WL.u rfl rfl (Wt.plain rfl) (Ex.loadHp flat54 rfl hH rfl) ?_
    refine WL.u rfl rfl (Wt.plain rfl) (Ex.indexAddr Try.underlying54 ty56 rfl rfl (by omega)) ?_
    refine WL.u rfl rfl (Wt.plain rfl) (Ex.loadSlS Try.underlying56 ty56 (hs.kept hH.keep) rfl (rfl) rfl) ?_
    refine WL.u rfl rfl (Wt.plain rfl) (Ex.move rfl) ?_
    refine WL.u rfl rfl (Wt.plain rfl) (Ex.move rfl) ?_
    refine WL.u rfl rfl (Wt.plain rfl) (Ex.move rfl) ?_
    refine WL.call callable65 rfl (Wt.plain rfl) rfl rfl (ihc _ qc k f o hk (hTc.kept hH.keep)) ?_
    rintro _ wn ⟨rfl, hC⟩; replace hH := hH.call hC; clear hC
    refine WL.u rfl rfl (Wt.plain rfl) (Ex.assign rfl) ?_
    refine WL.next ?_
    refine WC.seq ?_
    refine WC.region ?_
    refine WL.u rfl rfl (Wt.plain rfl) (Ex.move rfl) ?_
    refine WL.u rfl rfl (Wt.plain rfl) (Ex.move rfl) ?_
    refine WL.split (t := 84) rfl (fun hg15_1 => ?_) (fun hg15_1 => ?_)
    · have hx0 : decide ((s.toNat : Int) = 124) = (f && decide (s = 124)) := by rw [hg15_1, Bool.true_and, Bool.eq_iff_iff, decide_eq_true_eq, decide_eq_true_eq]; exact u8eq s 124 (by decide)
      refine WL.u rfl rfl (Wt.guard' rfl rfl rfl hg15_1 rfl) (Ex.move rfl) ?_
      refine WL.u rfl rfl (Wt.guard' rfl rfl rfl hg15_1 rfl) (Ex.eql rfl rfl) ?_
      refine WL.u rfl rfl (Wt.plain rfl) (Ex.pickT rfl hg15_1 rfl) ?_
      refine WL.u rfl rfl (Wt.plain rfl) (Ex.assign rfl) ?_
      refine WL.next ?_
      refine WC.seq ?_
      refine WC.seq ?_
      refine WC.region ?_
      refine WL.u rfl rfl (Wt.plain rfl) (Ex.assign rfl) ?_
      refine WL.next ?_
      refine WC.block ?_
      refine WC.loop (ι := Nat) (fun i => [(1, vint k), (9, .int .u8 (stepsS i (s, f && decide (s = 124))).1.toNat), (10, vstr (tidyS a k f o)), (11, vstr (tidyS c k f o)), (12, .bool (stepsS i (s, f && decide (s = 124))).2), (13, vint i)]) (fun i wn => Hp [] w wn [] ∧ i ≤ k) (fun i => k - i) (0) (by exact ⟨rfl, rfl, rfl, rfl, congrArg (fun x : Bool => some (Value.bool x)) hx0, rfl, trivial⟩) ?_ ?_
      · exact ⟨hH.first0, Nat.zero_le _⟩
      rintro i wn ⟨hH, hi⟩
      intro mu0 hmu; try dsimp only at hmu
      show WC _ _ _ _ [(1, vint k), (9, .int .u8 (stepsS i (s, f && decide (s = 124))).1.toNat), (10, vstr (tidyS a k f o)), (11, vstr (tidyS c k f o)), (12, .bool (stepsS i (s, f && decide (s = 124))).2), (13, vint i)] _
      refine WC.seq ?_
      refine WC.seq ?_
      refine WC.region ?_
      refine WL.u rfl rfl (Wt.plain rfl) (Ex.move rfl) ?_
      refine WL.u rfl rfl (Wt.plain rfl) (Ex.move rfl) ?_
      refine WL.u rfl rfl (Wt.plain rfl) (Ex.lss rfl rfl) ?_
      refine WL.next ?_
      refine WC.cond rfl (fun hc7 => ?_) (fun hc7 => ?_)
      · have hc7' := hc7; try simp only [decide_eq_true_eq, decide_eq_false_iff_not, Bool.not_eq_true', Bool.not_eq_false', Bool.not_eq_true, Bool.not_eq_false] at hc7'
        refine WC.skip ?_
        refine WN.next ?_
        refine WC.seq ?_
        refine WC.block ?_
        refine WC.seq ?_
        refine WC.region ?_
        refine WL.u rfl rfl (Wt.plain rfl) (Ex.move rfl) ?_
        refine WL.u rfl rfl (Wt.plain rfl) (Ex.eql rfl rfl) ?_
        refine WL.next ?_
        refine WC.cond rfl (fun hc8 => ?_) (fun hc8 => ?_)
        · have h124 : (stepsS i (s, f && decide (s = 124))).1 = 124 := ubT 124 (by decide) hc8
          refine WC.region ?_
          refine WL.u rfl rfl (Wt.plain rfl) (Ex.assign rfl) ?_
          refine WL.last ?_
          refine WN.normalBlock ?_
          refine WN.next ?_
          refine WC.region ?_
          refine WL.u rfl rfl (Wt.plain rfl) (Ex.move rfl) ?_
          refine WL.u rfl rfl (Wt.plain rfl) (Ex.add rfl rfl (by omega)) ?_
          refine WL.u rfl rfl (Wt.plain rfl) (Ex.assign rfl) ?_
          refine WL.last ?_
          refine WN.round (i + 1) (by rw [stepsS_T h124]; exact ⟨rfl, rfl, rfl, rfl, rfl, rfl, trivial⟩) ?_ ?_
          · exact ⟨hH, by omega⟩
          · (try dsimp only); omega
        have hn124 : (stepsS i (s, f && decide (s = 124))).1 ≠ 124 := ubF 124 (by decide) hc8
        refine WC.seq ?_
        refine WC.region ?_
        refine WL.u rfl rfl (Wt.plain rfl) (Ex.assign rfl) ?_
        refine WL.next ?_
        refine WC.region ?_
        refine WL.u rfl rfl (Wt.plain rfl) (Ex.move rfl) ?_
        refine WL.u rfl rfl (Wt.plain rfl) (Ex.not rfl) ?_
        refine WL.u rfl rfl (Wt.plain rfl) (Ex.assign rfl) ?_
        refine WL.last ?_
        refine WN.normalBlock ?_
        refine WN.next ?_
        refine WC.region ?_
        refine WL.u rfl rfl (Wt.plain rfl) (Ex.move rfl) ?_
        refine WL.u rfl rfl (Wt.plain rfl) (Ex.add rfl rfl (by omega)) ?_
        refine WL.u rfl rfl (Wt.plain rfl) (Ex.assign rfl) ?_
        refine WL.last ?_
        refine WN.round (i + 1) (by rw [stepsS_F hn124]; exact ⟨rfl, rfl, rfl, rfl, rfl, rfl, trivial⟩) ?_ ?_
        · exact ⟨hH, by omega⟩
        · (try dsimp only); omega
      have hc7' := hc7; try simp only [decide_eq_true_eq, decide_eq_false_iff_not, Bool.not_eq_true', Bool.not_eq_false', Bool.not_eq_true, Bool.not_eq_false] at hc7'
      obtain rfl : i = k := by omega
      refine WC.exit ?_
      refine WN.exitThen ?_
      refine WN.exitThen ?_
      refine WN.exitHere ?_
      refine WN.next ?_
      refine WC.seq ?_
      refine WC.seq ?_
      refine WC.region ?_
      refine WL.u rfl rfl (Wt.plain rfl) (Ex.move rfl) ?_
      refine WL.next ?_
      refine WC.cond rfl (fun hc9 => ?_) (fun hc9 => ?_)
      · have hc9' := hc9; try simp only [decide_eq_true_eq, decide_eq_false_iff_not, Bool.not_eq_true', Bool.not_eq_false', Bool.not_eq_true, Bool.not_eq_false] at hc9'
        refine WC.seq ?_
        refine WC.region ?_
        refine WL.u rfl rfl (Wt.plain rfl) (Ex.move rfl) ?_
        refine WL.u rfl rfl (Wt.plain rfl) (Ex.concat rfl rfl (by (try simp only [List.length_append, List.length_cons, List.length_nil]); omega)) ?_
        refine WL.u rfl rfl (Wt.plain rfl) (Ex.move rfl) ?_
        refine WL.lit Try.underlying32 ty5 rfl rfl rfl rfl rfl rfl rfl (Wt.plain rfl) hH (fun b101 wn hb101 hk101 hH => ?_)
        have ho101 := Own.bt1 (stepsS i (s, f && decide (s = 124))).1
        refine WL.u rfl rfl (Wt.plain rfl) (Ex.bytesStr Try.underlying32 Try.underlying5 Try.underlying9 rfl (ho101.slAt hH 0 rfl)) ?_
        refine WL.u rfl rfl (Wt.plain rfl) (Ex.concat rfl rfl (by (try simp only [List.length_append, List.length_cons, List.length_nil]); omega)) ?_
        refine WL.u rfl rfl (Wt.plain rfl) (Ex.move rfl) ?_
        refine WL.u rfl rfl (Wt.plain rfl) (Ex.concat rfl rfl (by (try simp only [List.length_append, List.length_cons, List.length_nil]); omega)) ?_
        refine WL.u rfl rfl (Wt.plain rfl) (Ex.concat rfl rfl (by (try simp only [List.length_append, List.length_cons, List.length_nil]); omega)) ?_
        refine WL.u rfl rfl (Wt.plain rfl) (Ex.assign rfl) ?_
        refine WL.next ?_
        refine WC.ret ?_
        refine WN.retThen ?_
        refine WN.retBlock ?_
        refine WN.retThen ?_
        refine WN.body1 rfl rfl ?_
        exact ⟨by rw [tidyS, if_pos hc9] <;> rfl, hH.keep⟩
      have hc9' := hc9; try simp only [decide_eq_true_eq, decide_eq_false_iff_not, Bool.not_eq_true', Bool.not_eq_false', Bool.not_eq_true, Bool.not_eq_false] at hc9'
      refine WC.skip ?_
      refine WN.next ?_
      refine WC.seq ?_
      refine WC.region ?_
      refine WL.u rfl rfl (Wt.plain rfl) (Ex.move rfl) ?_
      refine WL.u rfl rfl (Wt.plain rfl) (Ex.concat rfl rfl (by (try simp only [List.length_append, List.length_cons, List.length_nil]); omega)) ?_
      refine WL.u rfl rfl (Wt.plain rfl) (Ex.move rfl) ?_
      refine WL.lit Try.underlying32 ty5 rfl rfl rfl rfl rfl rfl rfl (Wt.plain rfl) hH (fun b110 wn hb110 hk110 hH => ?_)
      have ho110 := Own.bt1 (stepsS i (s, f && decide (s = 124))).1
      refine WL.u rfl rfl (Wt.plain rfl) (Ex.bytesStr Try.underlying32 Try.underlying5 Try.underlying9 rfl (ho110.slAt hH 0 rfl)) ?_
      refine WL.u rfl rfl (Wt.plain rfl) (Ex.concat rfl rfl (by (try simp only [List.length_append, List.length_cons, List.length_nil]); omega)) ?_
      refine WL.u rfl rfl (Wt.plain rfl) (Ex.move rfl) ?_
      refine WL.u rfl rfl (Wt.plain rfl) (Ex.concat rfl rfl (by (try simp only [List.length_append, List.length_cons, List.length_nil]); omega)) ?_
      refine WL.u rfl rfl (Wt.plain rfl) (Ex.concat rfl rfl (by (try simp only [List.length_append, List.length_cons, List.length_nil]); omega)) ?_
      refine WL.u rfl rfl (Wt.plain rfl) (Ex.assign rfl) ?_
      refine WL.next ?_
      refine WC.ret ?_
      refine WN.retBlock ?_
      refine WN.retThen ?_
      refine WN.body1 rfl rfl ?_
      exact ⟨by rw [tidyS, if_neg (by rw [hc9]; decide)] <;> rfl, hH.keep⟩
    have hx0 : false = (f && decide (s = 124)) := by rw [hg15_1]; rfl
    refine WL.pass rfl rfl (Wt.guard' rfl rfl rfl hg15_1 rfl) ?_
    refine WL.pass rfl rfl (Wt.guard' rfl rfl rfl hg15_1 rfl) ?_
    refine WL.u rfl rfl (Wt.plain rfl) (Ex.pickF rfl hg15_1 rfl) ?_
    refine WL.u rfl rfl (Wt.plain rfl) (Ex.assign rfl) ?_
    refine WL.next ?_
    refine WC.seq ?_
    refine WC.seq ?_
    refine WC.region ?_
    refine WL.u rfl rfl (Wt.plain rfl) (Ex.assign rfl) ?_
    refine WL.next ?_
    refine WC.block ?_
    refine WC.loop (ι := Nat) (fun i => [(1, vint k), (9, .int .u8 (stepsS i (s, f && decide (s = 124))).1.toNat), (10, vstr (tidyS a k f o)), (11, vstr (tidyS c k f o)), (12, .bool (stepsS i (s, f && decide (s = 124))).2), (13, vint i)]) (fun i wn => Hp [] w wn [] ∧ i ≤ k) (fun i => k - i) (0) (by exact ⟨rfl, rfl, rfl, rfl, congrArg (fun x : Bool => some (Value.bool x)) hx0, rfl, trivial⟩) ?_ ?_
    · exact ⟨hH.first0, Nat.zero_le _⟩
    rintro i wn ⟨hH, hi⟩
    intro mu0 hmu; try dsimp only at hmu
    show WC _ _ _ _ [(1, vint k), (9, .int .u8 (stepsS i (s, f && decide (s = 124))).1.toNat), (10, vstr (tidyS a k f o)), (11, vstr (tidyS c k f o)), (12, .bool (stepsS i (s, f && decide (s = 124))).2), (13, vint i)] _
    refine WC.seq ?_
    refine WC.seq ?_
    refine WC.region ?_
    refine WL.u rfl rfl (Wt.plain rfl) (Ex.move rfl) ?_
    refine WL.u rfl rfl (Wt.plain rfl) (Ex.move rfl) ?_
    refine WL.u rfl rfl (Wt.plain rfl) (Ex.lss rfl rfl) ?_
    refine WL.next ?_
    refine WC.cond rfl (fun hc7 => ?_) (fun hc7 => ?_)
    · have hc7' := hc7; try simp only [decide_eq_true_eq, decide_eq_false_iff_not, Bool.not_eq_true', Bool.not_eq_false', Bool.not_eq_true, Bool.not_eq_false] at hc7'
      refine WC.skip ?_
      refine WN.next ?_
      refine WC.seq ?_
      refine WC.block ?_
      refine WC.seq ?_
      refine WC.region ?_
      refine WL.u rfl rfl (Wt.plain rfl) (Ex.move rfl) ?_
      refine WL.u rfl rfl (Wt.plain rfl) (Ex.eql rfl rfl) ?_
      refine WL.next ?_
      refine WC.cond rfl (fun hc8 => ?_) (fun hc8 => ?_)
      · have h124 : (stepsS i (s, f && decide (s = 124))).1 = 124 := ubT 124 (by decide) hc8
        refine WC.region ?_
        refine WL.u rfl rfl (Wt.plain rfl) (Ex.assign rfl) ?_
        refine WL.last ?_
        refine WN.normalBlock ?_
        refine WN.next ?_
        refine WC.region ?_
        refine WL.u rfl rfl (Wt.plain rfl) (Ex.move rfl) ?_
        refine WL.u rfl rfl (Wt.plain rfl) (Ex.add rfl rfl (by omega)) ?_
        refine WL.u rfl rfl (Wt.plain rfl) (Ex.assign rfl) ?_
        refine WL.last ?_
        refine WN.round (i + 1) (by rw [stepsS_T h124]; exact ⟨rfl, rfl, rfl, rfl, rfl, rfl, trivial⟩) ?_ ?_
        · exact ⟨hH, by omega⟩
        · (try dsimp only); omega
      have hn124 : (stepsS i (s, f && decide (s = 124))).1 ≠ 124 := ubF 124 (by decide) hc8
      refine WC.seq ?_
      refine WC.region ?_
      refine WL.u rfl rfl (Wt.plain rfl) (Ex.assign rfl) ?_
      refine WL.next ?_
      refine WC.region ?_
      refine WL.u rfl rfl (Wt.plain rfl) (Ex.move rfl) ?_
      refine WL.u rfl rfl (Wt.plain rfl) (Ex.not rfl) ?_
      refine WL.u rfl rfl (Wt.plain rfl) (Ex.assign rfl) ?_
      refine WL.last ?_
      refine WN.normalBlock ?_
      refine WN.next ?_
      refine WC.region ?_
      refine WL.u rfl rfl (Wt.plain rfl) (Ex.move rfl) ?_
      refine WL.u rfl rfl (Wt.plain rfl) (Ex.add rfl rfl (by omega)) ?_
      refine WL.u rfl rfl (Wt.plain rfl) (Ex.assign rfl) ?_
      refine WL.last ?_
      refine WN.round (i + 1) (by rw [stepsS_F hn124]; exact ⟨rfl, rfl, rfl, rfl, rfl, rfl, trivial⟩) ?_ ?_
      · exact ⟨hH, by omega⟩
      · (try dsimp only); omega
    have hc7' := hc7; try simp only [decide_eq_true_eq, decide_eq_false_iff_not, Bool.not_eq_true', Bool.not_eq_false', Bool.not_eq_true, Bool.not_eq_false] at hc7'
    obtain rfl : i = k := by omega
    refine WC.exit ?_
    refine WN.exitThen ?_
    refine WN.exitThen ?_
    refine WN.exitHere ?_
    refine WN.next ?_
    refine WC.seq ?_
    refine WC.seq ?_
    refine WC.region ?_
    refine WL.u rfl rfl (Wt.plain rfl) (Ex.move rfl) ?_
    refine WL.next ?_
    refine WC.cond rfl (fun hc9 => ?_) (fun hc9 => ?_)
    · have hc9' := hc9; try simp only [decide_eq_true_eq, decide_eq_false_iff_not, Bool.not_eq_true', Bool.not_eq_false', Bool.not_eq_true, Bool.not_eq_false] at hc9'
      refine WC.seq ?_
      refine WC.region ?_
      refine WL.u rfl rfl (Wt.plain rfl) (Ex.move rfl) ?_
      refine WL.u rfl rfl (Wt.plain rfl) (Ex.concat rfl rfl (by (try simp only [List.length_append, List.length_cons, List.length_nil]); omega)) ?_
      refine WL.u rfl rfl (Wt.plain rfl) (Ex.move rfl) ?_
      refine WL.lit Try.underlying32 ty5 rfl rfl rfl rfl rfl rfl rfl (Wt.plain rfl) hH (fun b101 wn hb101 hk101 hH => ?_)
      have ho101 := Own.bt1 (stepsS i (s, f && decide (s = 124))).1
      refine WL.u rfl rfl (Wt.plain rfl) (Ex.bytesStr Try.underlying32 Try.underlying5 Try.underlying9 rfl (ho101.slAt hH 0 rfl)) ?_
      refine WL.u rfl rfl (Wt.plain rfl) (Ex.concat rfl rfl (by (try simp only [List.length_append, List.length_cons, List.length_nil]); omega)) ?_
      refine WL.u rfl rfl (Wt.plain rfl) (Ex.move rfl) ?_
      refine WL.u rfl rfl (Wt.plain rfl) (Ex.concat rfl rfl (by (try simp only [List.length_append, List.length_cons, List.length_nil]); omega)) ?_
      refine WL.u rfl rfl (Wt.plain rfl) (Ex.concat rfl rfl (by (try simp only [List.length_append, List.length_cons, List.length_nil]); omega)) ?_
      refine WL.u rfl rfl (Wt.plain rfl) (Ex.assign rfl) ?_
      refine WL.next ?_
      refine WC.ret ?_
      refine WN.retThen ?_
      refine WN.retBlock ?_
      refine WN.retThen ?_
      refine WN.body1 rfl rfl ?_
      exact ⟨by rw [tidyS, if_pos hc9] <;> rfl, hH.keep⟩
    have hc9' := hc9; try simp only [decide_eq_true_eq, decide_eq_false_iff_not, Bool.not_eq_true', Bool.not_eq_false', Bool.not_eq_true, Bool.not_eq_false] at hc9'
    refine WC.skip ?_
    refine WN.next ?_
    refine WC.seq ?_
    refine WC.region ?_
    refine WL.u rfl rfl (Wt.plain rfl) (Ex.move rfl) ?_
    refine WL.u rfl rfl (Wt.plain rfl) (Ex.concat rfl rfl (by (try simp only [List.length_append, List.length_cons, List.length_nil]); omega)) ?_
    refine WL.u rfl rfl (Wt.plain rfl) (Ex.move rfl) ?_
    refine WL.lit Try.underlying32 ty5 rfl rfl rfl rfl rfl rfl rfl (Wt.plain rfl) hH (fun b110 wn hb110 hk110 hH => ?_)
    have ho110 := Own.bt1 (stepsS i (s, f && decide (s = 124))).1
    refine WL.u rfl rfl (Wt.plain rfl) (Ex.bytesStr Try.underlying32 Try.underlying5 Try.underlying9 rfl (ho110.slAt hH 0 rfl)) ?_
    refine WL.u rfl rfl (Wt.plain rfl) (Ex.concat rfl rfl (by (try simp only [List.length_append, List.length_cons, List.length_nil]); omega)) ?_
    refine WL.u rfl rfl (Wt.plain rfl) (Ex.move rfl) ?_
    refine WL.u rfl rfl (Wt.plain rfl) (Ex.concat rfl rfl (by (try simp only [List.length_append, List.length_cons, List.length_nil]); omega)) ?_
    refine WL.u rfl rfl (Wt.plain rfl) (Ex.concat rfl rfl (by (try simp only [List.length_append, List.length_cons, List.length_nil]); omega)) ?_
    refine WL.u rfl rfl (Wt.plain rfl) (Ex.assign rfl) ?_
    refine WL.next ?_
    refine WC.ret ?_
    refine WN.retBlock ?_
    refine WN.retThen ?_
    refine WN.body1 rfl rfl ?_
    exact ⟨by rw [tidyS, if_neg (by rw [hc9]; decide)] <;> rfl, hH.keep⟩
  have hc5' := hc5; try simp only [decide_eq_true_eq, decide_eq_false_iff_not, Bool.not_eq_true', Bool.not_eq_false', Bool.not_eq_true, Bool.not_eq_false] at hc5'
  refine WC.region ?_
  refine WL.u rfl rfl (Wt.plain rfl) (Ex.eql rfl rfl) ?_
  refine WL.u rfl rfl (Wt.plain rfl) (Ex.assign rfl) ?_
  refine WL.next ?_
  refine WC.cond rfl (fun hc6 => ?_) (fun hc6 => ?_)
  · have hc6' := hc6; try simp only [decide_eq_true_eq, decide_eq_false_iff_not, Bool.not_eq_true', Bool.not_eq_false', Bool.not_eq_true, Bool.not_eq_false] at hc6'
    refine WC.seq ?_
    refine WC.region ?_
    refine WL.u rfl rfl (Wt.plain rfl) (Ex.fieldAddr fd56_0 rfl) ?_
    refine WL.u rfl rfl (Wt.plain rfl) (Ex.loadHp flat5 rfl hH rfl) ?_
    refine WL.u rfl rfl (Wt.plain rfl) (Ex.assign rfl) ?_
    refine WL.next ?_
    refine WC.seq ?_
    refine WC.region ?_
    refine WL.u rfl rfl (Wt.plain rfl) (Ex.fieldAddr fd56_3 rfl) ?_
    refine WL.u rfl rfl (Wt.plain rfl) (Ex.loadHp flat54 rfl hH rfl) ?_
    refine WL.u rfl rfl (Wt.plain rfl) (Ex.indexAddr Try.underlying54 ty56 rfl rfl (by omega)) ?_
    refine WL.u rfl rfl (Wt.plain rfl) (Ex.loadSlS Try.underlying56 ty56 (hs.kept hH.keep) rfl (rfl) rfl) ?_
    refine WL.u rfl rfl (Wt.plain rfl) (Ex.move rfl) ?_
    refine WL.u rfl rfl (Wt.plain rfl) (Ex.move rfl) ?_
    refine WL.u rfl rfl (Wt.plain rfl) (Ex.move rfl) ?_
    refine WL.call callable65 rfl (Wt.plain rfl) rfl rfl (iha _ qa k f o hk (hTa.kept hH.keep)) ?_
    rintro _ wn ⟨rfl, hC⟩; replace hH := hH.call hC; clear hC
    refine WL.u rfl rfl (Wt.plain rfl) (Ex.assign rfl) ?_
    refine WL.next ?_
    refine WC.seq ?_
    refine WC.region ?_
    refine WL.u rfl rfl (Wt.plain rfl) (Ex.fieldAddr fd56_3 rfl) ?_
    refine WL.u rfl rfl (Wt.plain rfl) (Ex.loadHp flat54 rfl hH rfl) ?_
    refine WL.u rfl rfl (Wt.plain rfl) (Ex.indexAddr Try.underlying54 ty56 rfl rfl (by omega)) ?_
    refine WL.u rfl rfl (Wt.plain rfl) (Ex.loadSlS Try.underlying56 ty56 (hs.kept hH.keep) rfl (rfl) rfl) ?_
    refine WL.u rfl rfl (Wt.plain rfl) (Ex.move rfl) ?_
    refine WL.u rfl rfl (Wt.plain rfl) (Ex.move rfl) ?_
    refine WL.u rfl rfl (Wt.plain rfl) (Ex.move rfl) ?_
    refine WL.call callable65 rfl (Wt.plain rfl) rfl rfl (ihc _ qc k f o hk (hTc.kept hH.keep)) ?_
    rintro _ wn ⟨rfl, hC⟩; replace hH := hH.call hC; clear hC
    refine WL.u rfl rfl (Wt.plain rfl) (Ex.assign rfl) ?_
    refine WL.next ?_
    refine WC.seq ?_
    refine WC.region ?_
    refine WL.u rfl rfl (Wt.plain rfl) (Ex.move rfl) ?_
    refine WL.u rfl rfl (Wt.plain rfl) (Ex.move rfl) ?_
    refine WL.split (t := 84) rfl (fun hg15_1 => ?_) (fun hg15_1 => ?_)
    · have hx0 : decide ((s.toNat : Int) = 124) = (f && decide (s = 124)) := by rw [hg15_1, Bool.true_and, Bool.eq_iff_iff, decide_eq_true_eq, decide_eq_true_eq]; exact u8eq s 124 (by decide)
      refine WL.u rfl rfl (Wt.guard' rfl rfl rfl hg15_1 rfl) (Ex.move rfl) ?_
      refine WL.u rfl rfl (Wt.guard' rfl rfl rfl hg15_1 rfl) (Ex.eql rfl rfl) ?_
      refine WL.u rfl rfl (Wt.plain rfl) (Ex.pickT rfl hg15_1 rfl) ?_
      refine WL.u rfl rfl (Wt.plain rfl) (Ex.assign rfl) ?_
      refine WL.next ?_
      refine WC.seq ?_
      refine WC.seq ?_
      refine WC.region ?_
      refine WL.u rfl rfl (Wt.plain rfl) (Ex.assign rfl) ?_
      refine WL.next ?_
      refine WC.block ?_
      refine WC.loop (ι := Nat) (fun i => [(1, vint k), (9, .int .u8 (stepsS i (s, f && decide (s = 124))).1.toNat), (10, vstr (tidyS a k f o)), (11, vstr (tidyS c k f o)), (12, .bool (stepsS i (s, f && decide (s = 124))).2), (13, vint i)]) (fun i wn => Hp [] w wn [] ∧ i ≤ k) (fun i => k - i) (0) (by exact ⟨rfl, rfl, rfl, rfl, congrArg (fun x : Bool => some (Value.bool x)) hx0, rfl, trivial⟩) ?_ ?_
      · exact ⟨hH.first0, Nat.zero_le _⟩
      rintro i wn ⟨hH, hi⟩
      intro mu0 hmu; try dsimp only at hmu
      show WC _ _ _ _ [(1, vint k), (9, .int .u8 (stepsS i (s, f && decide (s = 124))).1.toNat), (10, vstr (tidyS a k f o)), (11, vstr (tidyS c k f o)), (12, .bool (stepsS i (s, f && decide (s = 124))).2), (13, vint i)] _
      refine WC.seq ?_
      refine WC.seq ?_
      refine WC.region ?_
      refine WL.u rfl rfl (Wt.plain rfl) (Ex.move rfl) ?_
      refine WL.u rfl rfl (Wt.plain rfl) (Ex.move rfl) ?_
      refine WL.u rfl rfl (Wt.plain rfl) (Ex.lss rfl rfl) ?_
      refine WL.next ?_
      refine WC.cond rfl (fun hc7 => ?_) (fun hc7 => ?_)
      · have hc7' := hc7; try simp only [decide_eq_true_eq, decide_eq_false_iff_not, Bool.not_eq_true', Bool.not_eq_false', Bool.not_eq_true, Bool.not_eq_false] at hc7'
        refine WC.skip ?_
        refine WN.next ?_
        refine WC.seq ?_
        refine WC.block ?_
        refine WC.seq ?_
        refine WC.region ?_
        refine WL.u rfl rfl (Wt.plain rfl) (Ex.move rfl) ?_
        refine WL.u rfl rfl (Wt.plain rfl) (Ex.eql rfl rfl) ?_
        refine WL.next ?_
        refine WC.cond rfl (fun hc8 => ?_) (fun hc8 => ?_)
        · have h124 : (stepsS i (s, f && decide (s = 124))).1 = 124 := ubT 124 (by decide) hc8
          refine WC.region ?_
          refine WL.u rfl rfl (Wt.plain rfl) (Ex.assign rfl) ?_
          refine WL.last ?_
          refine WN.normalBlock ?_
          refine WN.next ?_
          refine WC.region ?_
          refine WL.u rfl rfl (Wt.plain rfl) (Ex.move rfl) ?_
          refine WL.u rfl rfl (Wt.plain rfl) (Ex.add rfl rfl (by omega)) ?_
          refine WL.u rfl rfl (Wt.plain rfl) (Ex.assign rfl) ?_
          refine WL.last ?_
          refine WN.round (i + 1) (by rw [stepsS_T h124]; exact ⟨rfl, rfl, rfl, rfl, rfl, rfl, trivial⟩) ?_ ?_
          · exact ⟨hH, by omega⟩
          · (try dsimp only); omega
        have hn124 : (stepsS i (s, f && decide (s = 124))).1 ≠ 124 := ubF 124 (by decide) hc8
        refine WC.seq ?_
        refine WC.region ?_
        refine WL.u rfl rfl (Wt.plain rfl) (Ex.assign rfl) ?_
        refine WL.next ?_
        refine WC.region ?_
        refine WL.u rfl rfl (Wt.plain rfl) (Ex.move rfl) ?_
        refine WL.u rfl rfl (Wt.plain rfl) (Ex.not rfl) ?_
        refine WL.u rfl rfl (Wt.plain rfl) (Ex.assign rfl) ?_
        refine WL.last ?_
        refine WN.normalBlock ?_
        refine WN.next ?_
        refine WC.region ?_
        refine WL.u rfl rfl (Wt.plain rfl) (Ex.move rfl) ?_
        refine WL.u rfl rfl (Wt.plain rfl) (Ex.add rfl rfl (by omega)) ?_
        refine WL.u rfl rfl (Wt.plain rfl) (Ex.assign rfl) ?_
        refine WL.last ?_
        refine WN.round (i + 1) (by rw [stepsS_F hn124]; exact ⟨rfl, rfl, rfl, rfl, rfl, rfl, trivial⟩) ?_ ?_
        · exact ⟨hH, by omega⟩
        · (try dsimp only); omega
      have hc7' := hc7; try simp only [decide_eq_true_eq, decide_eq_false_iff_not, Bool.not_eq_true', Bool.not_eq_false', Bool.not_eq_true, Bool.not_eq_false] at hc7'
      obtain rfl : i = k := by omega
      refine WC.exit ?_
      refine WN.exitThen ?_
      refine WN.exitThen ?_
      refine WN.exitHere ?_
      refine WN.next ?_
      refine WC.seq ?_
      refine WC.seq ?_
      refine WC.region ?_
      refine WL.u rfl rfl (Wt.plain rfl) (Ex.move rfl) ?_
      refine WL.next ?_
      refine WC.cond rfl (fun hc9 => ?_) (fun hc9 => ?_)
      · have hc9' := hc9; try simp only [decide_eq_true_eq, decide_eq_false_iff_not, Bool.not_eq_true', Bool.not_eq_false', Bool.not_eq_true, Bool.not_eq_false] at hc9'
        refine WC.seq ?_
        refine WC.region ?_
        refine WL.u rfl rfl (Wt.plain rfl) (Ex.move rfl) ?_
        refine WL.u rfl rfl (Wt.plain rfl) (Ex.concat rfl rfl (by (try simp only [List.length_append, List.length_cons, List.length_nil]); omega)) ?_
        refine WL.u rfl rfl (Wt.plain rfl) (Ex.move rfl) ?_
        refine WL.lit Try.underlying32 ty5 rfl rfl rfl rfl rfl rfl rfl (Wt.plain rfl) hH (fun b101 wn hb101 hk101 hH => ?_)
        have ho101 := Own.bt1 (stepsS i (s, f && decide (s = 124))).1
        refine WL.u rfl rfl (Wt.plain rfl) (Ex.bytesStr Try.underlying32 Try.underlying5 Try.underlying9 rfl (ho101.slAt hH 0 rfl)) ?_
        refine WL.u rfl rfl (Wt.plain rfl) (Ex.concat rfl rfl (by (try simp only [List.length_append, List.length_cons, List.length_nil]); omega)) ?_
        refine WL.u rfl rfl (Wt.plain rfl) (Ex.move rfl) ?_
        refine WL.u rfl rfl (Wt.plain rfl) (Ex.concat rfl rfl (by (try simp only [List.length_append, List.length_cons, List.length_nil]); omega)) ?_
        refine WL.u rfl rfl (Wt.plain rfl) (Ex.concat rfl rfl (by (try simp only [List.length_append, List.length_cons, List.length_nil]); omega)) ?_
        refine WL.u rfl rfl (Wt.plain rfl) (Ex.assign rfl) ?_
        refine WL.next ?_
        refine WC.ret ?_
        refine WN.retThen ?_
        refine WN.retBlock ?_
        refine WN.retThen ?_
        refine WN.body1 rfl rfl ?_
        exact ⟨by rw [tidyS, if_pos hc9] <;> rfl, hH.keep⟩
      have hc9' := hc9; try simp only [decide_eq_true_eq, decide_eq_false_iff_not, Bool.not_eq_true', Bool.not_eq_false', Bool.not_eq_true, Bool.not_eq_false] at hc9'
      refine WC.skip ?_
      refine WN.next ?_
      refine WC.seq ?_
      refine WC.region ?_
      refine WL.u rfl rfl (Wt.plain rfl) (Ex.move rfl) ?_
      refine WL.u rfl rfl (Wt.plain rfl) (Ex.concat rfl rfl (by (try simp only [List.length_append, List.length_cons, List.length_nil]); omega)) ?_
      refine WL.u rfl rfl (Wt.plain rfl) (Ex.move rfl) ?_
      refine WL.lit Try.underlying32 ty5 rfl rfl rfl rfl rfl rfl rfl (Wt.plain rfl) hH (fun b110 wn hb110 hk110 hH => ?_)
      have ho110 := Own.bt1 (stepsS i (s, f && decide (s = 124))).1
      refine WL.u rfl rfl (Wt.plain rfl) (Ex.bytesStr Try.underlying32 Try.underlying5 Try.underlying9 rfl (ho110.slAt hH 0 rfl)) ?_
      refine WL.u rfl rfl (Wt.plain rfl) (Ex.concat rfl rfl (by (try simp only [List.length_append, List.length_cons, List.length_nil]); omega)) ?_
      refine WL.u rfl rfl (Wt.plain rfl) (Ex.move rfl) ?_
      refine WL.u rfl rfl (Wt.plain rfl) (Ex.concat rfl rfl (by (try simp only [List.length_append, List.length_cons, List.length_nil]); omega)) ?_
      refine WL.u rfl rfl (Wt.plain rfl) (Ex.concat rfl rfl (by (try simp only [List.length_append, List.length_cons, List.length_nil]); omega)) ?_
      refine WL.u rfl rfl (Wt.plain rfl) (Ex.assign rfl) ?_
      refine WL.next ?_
      refine WC.ret ?_
      refine WN.retBlock ?_
      refine WN.retThen ?_
      refine WN.body1 rfl rfl ?_
      exact ⟨by rw [tidyS, if_neg (by rw [hc9]; decide)] <;> rfl, hH.keep⟩
    have hx0 : false = (f && decide (s = 124)) := by rw [hg15_1]; rfl
    refine WL.pass rfl rfl (Wt.guard' rfl rfl rfl hg15_1 rfl) ?_
    refine WL.pass rfl rfl (Wt.guard' rfl rfl rfl hg15_1 rfl) ?_
    refine WL.u rfl rfl (Wt.plain rfl) (Ex.pickF rfl hg15_1 rfl) ?_
    refine WL.u rfl rfl (Wt.plain rfl) (Ex.assign rfl) ?_
    refine WL.next ?_
    refine WC.seq ?_
    refine WC.seq ?_
    refine WC.region ?_
    refine WL.u rfl rfl (Wt.plain rfl) (Ex.assign rfl) ?_
    refine WL.next ?_
    refine WC.block ?_
    refine WC.loop (ι := Nat) (fun i => [(1, vint k), (9, .int .u8 (stepsS i (s, f && decide (s = 124))).1.toNat), (10, vstr (tidyS a k f o)), (11, vstr (tidyS c k f o)), (12, .bool (stepsS i (s, f && decide (s = 124))).2), (13, vint i)]) (fun i wn => Hp [] w wn [] ∧ i ≤ k) (fun i => k - i) (0) (by exact ⟨rfl, rfl, rfl, rfl, congrArg (fun x : Bool => some (Value.bool x)) hx0, rfl, trivial⟩) ?_ ?_
    · exact ⟨hH.first0, Nat.zero_le _⟩
    rintro i wn ⟨hH, hi⟩
    intro mu0 hmu; try dsimp only at hmu
    show WC _ _ _ _ [(1, vint k), (9, .int .u8 (stepsS i (s, f && decide (s = 124))).1.toNat), (10, vstr (tidyS a k f o)), (11, vstr (tidyS c k f o)), (12, .bool (stepsS i (s, f && decide (s = 124))).2), (13, vint i)] _
    refine WC.seq ?_
    refine WC.seq ?_
    refine WC.region ?_
    refine WL.u rfl rfl (Wt.plain rfl) (Ex.move rfl) ?_
    refine WL.u rfl rfl (Wt.plain rfl) (Ex.move rfl) ?_
    refine WL.u rfl rfl (Wt.plain rfl) (Ex.lss rfl rfl) ?_
    refine WL.next ?_
    refine WC.cond rfl (fun hc7 => ?_) (fun hc7 => ?_)
    · have hc7' := hc7; try simp only [decide_eq_true_eq, decide_eq_false_iff_not, Bool.not_eq_true', Bool.not_eq_false', Bool.not_eq_true, Bool.not_eq_false] at hc7'
      refine WC.skip ?_
      refine WN.next ?_
      refine WC.seq ?_
      refine WC.block ?_
      refine WC.seq ?_
      refine WC.region ?_
      refine WL.u rfl rfl (Wt.plain rfl) (Ex.move rfl) ?_
      refine WL.u rfl rfl (Wt.plain rfl) (Ex.eql rfl rfl) ?_
      refine WL.next ?_
      refine WC.cond rfl (fun hc8 => ?_) (fun hc8 => ?_)
      · have h124 : (stepsS i (s, f && decide (s = 124))).1 = 124 := ubT 124 (by decide) hc8
        refine WC.region ?_
        refine WL.u rfl rfl (Wt.plain rfl) (Ex.assign rfl) ?_
        refine WL.last ?_
        refine WN.normalBlock ?_
        refine WN.next ?_
        refine WC.region ?_
        refine WL.u rfl rfl (Wt.plain rfl) (Ex.move rfl) ?_
        refine WL.u rfl rfl (Wt.plain rfl) (Ex.add rfl rfl (by omega)) ?_
        refine WL.u rfl rfl (Wt.plain rfl) (Ex.assign rfl) ?_
        refine WL.last ?_
        refine WN.round (i + 1) (by rw [stepsS_T h124]; exact ⟨rfl, rfl, rfl, rfl, rfl, rfl, trivial⟩) ?_ ?_
        · exact ⟨hH, by omega⟩
        · (try dsimp only); omega
      have hn124 : (stepsS i (s, f && decide (s = 124))).1 ≠ 124 := ubF 124 (by decide) hc8
      refine WC.seq ?_
      refine WC.region ?_
      refine WL.u rfl rfl (Wt.plain rfl) (Ex.assign rfl) ?_
      refine WL.next ?_
      refine WC.region ?_
      refine WL.u rfl rfl (Wt.plain rfl) (Ex.move rfl) ?_
      refine WL.u rfl rfl (Wt.plain rfl) (Ex.not rfl) ?_
      refine WL.u rfl rfl (Wt.plain rfl) (Ex.assign rfl) ?_
      refine WL.last ?_
      refine WN.normalBlock ?_
      refine WN.next ?_
      refine WC.region ?_
      refine WL.u rfl rfl (Wt.plain rfl) (Ex.move rfl) ?_
      refine WL.u rfl rfl (Wt.plain rfl) (Ex.add rfl rfl (by omega)) ?_
      refine WL.u rfl rfl (Wt.plain rfl) (Ex.assign rfl) ?_
      refine WL.last ?_
      refine WN.round (i + 1) (by rw [stepsS_F hn124]; exact ⟨rfl, rfl, rfl, rfl, rfl, rfl, trivial⟩) ?_ ?_
      · exact ⟨hH, by omega⟩
      · (try dsimp only); omega
    have hc7' := hc7; try simp only [decide_eq_true_eq, decide_eq_false_iff_not, Bool.not_eq_true', Bool.not_eq_false', Bool.not_eq_true, Bool.not_eq_false] at hc7'
    obtain rfl : i = k := by omega
    refine WC.exit ?_
    refine WN.exitThen ?_
    refine WN.exitThen ?_
    refine WN.exitHere ?_
    refine WN.next ?_
    refine WC.seq ?_
    refine WC.seq ?_
    refine WC.region ?_
    refine WL.u rfl rfl (Wt.plain rfl) (Ex.move rfl) ?_
    refine WL.next ?_
    refine WC.cond rfl (fun hc9 => ?_) (fun hc9 => ?_)
    · have hc9' := hc9; try simp only [decide_eq_true_eq, decide_eq_false_iff_not, Bool.not_eq_true', Bool.not_eq_false', Bool.not_eq_true, Bool.not_eq_false] at hc9'
      refine WC.seq ?_
      refine WC.region ?_
      refine WL.u rfl rfl (Wt.plain rfl) (Ex.move rfl) ?_
      refine WL.u rfl rfl (Wt.plain rfl) (Ex.concat rfl rfl (by (try simp only [List.length_append, List.length_cons, List.length_nil]); omega)) ?_
      refine WL.u rfl rfl (Wt.plain rfl) (Ex.move rfl) ?_
      refine WL.lit Try.underlying32 ty5 rfl rfl rfl rfl rfl rfl rfl (Wt.plain rfl) hH (fun b101 wn hb101 hk101 hH => ?_)
      have ho101 := Own.bt1 (stepsS i (s, f && decide (s = 124))).1
      refine WL.u rfl rfl (Wt.plain rfl) (Ex.bytesStr Try.underlying32 Try.underlying5 Try.underlying9 rfl (ho101.slAt hH 0 rfl)) ?_
      refine WL.u rfl rfl (Wt.plain rfl) (Ex.concat rfl rfl (by (try simp only [List.length_append, List.length_cons, List.length_nil]); omega)) ?_
      refine WL.u rfl rfl (Wt.plain rfl) (Ex.move rfl) ?_
      refine WL.u rfl rfl (Wt.plain rfl) (Ex.concat rfl rfl (by (try simp only [List.length_append, List.length_cons, List.length_nil]); omega)) ?_
      refine WL.u rfl rfl (Wt.plain rfl) (Ex.concat rfl rfl (by (try simp only [List.length_append, List.length_cons, List.length_nil]); omega)) ?_
      refine WL.u rfl rfl (Wt.plain rfl) (Ex.assign rfl) ?_
      refine WL.next ?_
      refine WC.ret ?_
      refine WN.retThen ?_
      refine WN.retBlock ?_
      refine WN.retThen ?_
      refine WN.body1 rfl rfl ?_
      exact ⟨by rw [tidyS, if_pos hc9] <;> rfl, hH.keep⟩
    have hc9' := hc9; try simp only [decide_eq_true_eq, decide_eq_false_iff_not, Bool.not_eq_true', Bool.not_eq_false', Bool.not_eq_true, Bool.not_eq_false] at hc9'
    refine WC.skip ?_
    refine WN.next ?_
    refine WC.seq ?_
    refine WC.region ?_
    refine WL.u rfl rfl (Wt.plain rfl) (Ex.move rfl) ?_
    refine WL.u rfl rfl (Wt.plain rfl) (Ex.concat rfl rfl (by (try simp only [List.length_append, List.length_cons, List.length_nil]); omega)) ?_
    refine WL.u rfl rfl (Wt.plain rfl) (Ex.move rfl) ?_
    refine WL.lit Try.underlying32 ty5 rfl rfl rfl rfl rfl rfl rfl (Wt.plain rfl) hH (fun b110 wn hb110 hk110 hH => ?_)
    have ho110 := Own.bt1 (stepsS i (s, f && decide (s = 124))).1
    refine WL.u rfl rfl (Wt.plain rfl) (Ex.bytesStr Try.underlying32 Try.underlying5 Try.underlying9 rfl (ho110.slAt hH 0 rfl)) ?_
    refine WL.u rfl rfl (Wt.plain rfl) (Ex.concat rfl rfl (by (try simp only [List.length_append, List.length_cons, List.length_nil]); omega)) ?_
    refine WL.u rfl rfl (Wt.plain rfl) (Ex.move rfl) ?_
    refine WL.u rfl rfl (Wt.plain rfl) (Ex.concat rfl rfl (by (try simp only [List.length_append, List.length_cons, List.length_nil]); omega)) ?_
    refine WL.u rfl rfl (Wt.plain rfl) (Ex.concat rfl rfl (by (try simp only [List.length_append, List.length_cons, List.length_nil]); omega)) ?_
    refine WL.u rfl rfl (Wt.plain rfl) (Ex.assign rfl) ?_
    refine WL.next ?_
    refine WC.ret ?_
    refine WN.retBlock ?_
    refine WN.retThen ?_
    refine WN.body1 rfl rfl ?_
    exact ⟨by rw [tidyS, if_neg (by rw [hc9]; decide)] <;> rfl, hH.keep⟩
  exfalso
  rcases hB with h | h
  · exact (show s ≠ 124 from ubF 124 (by decide) hc5) h
  · exact (show s ≠ 45 from ubF 45 (by decide) hc6) h


theorem stidyT (lo : Nat) : ∀ (t : Tm), Wf t → lenT t ≤ 100000 → ∀ (w : World) (q : Qd) (k : Nat) (f o : Bool), k < 4 → TQ lo w t q → Fn Try.prog 65 [rQd.val q, vint k, .bool f, .bool o] w (fun v w3 => v = vstr (tidyS t k f o) ∧ Keep [] w w3)
  | .leaf c, h, _, w, q, k, f, o, hk, ⟨hd, e⟩ => by
    cases h with
    | leaf hc => subst e; exact stidyLeaf c hd k f o w hc hk
  | .una s a, h, hl, w, q, k, f, o, hk, hT => by
    cases h with
    | una hs ha =>
      obtain ⟨b, cap, qa, e, hlo, hsl, hTa⟩ := hT
      subst e
      simp only [lenT] at hl
      exact stidyUna lo b cap _ _ s a qa k f o w (fun w2 q2 k2 f2 o2 hk2 h => stidyT lo a ha (by omega) w2 q2 k2 f2 o2 hk2 h) hs hk hsl hTa
  | .bin s a c, h, hl, w, q, k, f, o, hk, hT => by
    cases h with
    | bin hs ha hc =>
      obtain ⟨b, cap, qa, qc, e, hlo, hsl, hTa, hTc⟩ := hT
      subst e
      simp only [lenT] at hl
      exact stidyBin lo b cap _ _ s a c qa qc k f o w (fun w2 q2 k2 f2 o2 hk2 h => stidyT lo a ha (by omega) w2 q2 k2 f2 o2 hk2 h) (fun w2 q2 k2 f2 o2 hk2 h => stidyT lo c hc (by omega) w2 q2 k2 f2 o2 hk2 h) (isB_or hs) hk hsl hTa hTc (by omega) (by omega)

theorem sTermTidy (s : Str) (w : World) (hs : s.length ≤ 1048577) : Fn Try.prog 31 [vstr s] w (fun v w1 => v = .tuple #[vstr (termTidy s).1, .bool (termTidy s).2] ∧ Keep [] w w1) := by
  refine Fn.enter (n := 15) Try.func31 rfl rfl rfl ?_
  show WC _ _ _ _ [(0, vstr s)] _
  have hH := Hp.start [] w
  refine WC.seq ?_
  refine WC.region ?_
  refine WL.u rfl rfl (Wt.plain rfl) (Ex.assign rfl) ?_
  refine WL.u rfl rfl (Wt.plain rfl) (Ex.assign rfl) ?_
  refine WL.next ?_
  refine WC.seq ?_
  refine WC.region ?_
  refine WL.u rfl rfl (Wt.plain rfl) (Ex.move rfl) ?_
  refine WL.call callable62 rfl (Wt.plain rfl) rfl rfl (sl11Of _ _ (by omega)) ?_
  have hsK := hH.keep.size; rintro _ wn ⟨q8, rfl, hC, hT8⟩; obtain ⟨c8, n8, m8, a8, l8, k8⟩ := q8; replace hH := hH.call hC
  have hV := Keep.refl [] wn
  refine WL.u rfl rfl (Wt.plain rfl) (Ex.move rfl) ?_
  refine WL.u rfl rfl (Wt.plain rfl) (Ex.extract rfl rfl) ?_
  refine WL.u rfl rfl (Wt.plain rfl) (Ex.extract rfl rfl) ?_
  have hsV4 := hV.size
  refine WL.alloc ty56 rfl rfl (Wt.plain rfl) hH (fun b4 wn hb4 hk4 hH => ?_)
  replace hV := hV.trans (hk4.nil)
  refine WL.store4 ty56 rfl rfl rfl rfl rfl rfl (Wt.plain rfl) hH (fun wn hk hH => ?_)
  replace hV := hV.shr hk (by intro x hx; rw [List.mem_singleton.1 hx]; omega)
  refine WL.u rfl rfl (Wt.plain rfl) (Ex.assign rfl) ?_
  refine WL.next ?_
  refine WC.seq ?_
  refine WC.seq ?_
  refine WC.region ?_
  refine WL.u rfl rfl (Wt.plain rfl) (Ex.move rfl) ?_
  refine WL.u rfl rfl (Wt.plain rfl) (Ex.not rfl) ?_
  refine WL.next ?_
  refine WC.cond rfl (fun hc1 => ?_) (fun hc1 => ?_)
  · have htn : termT s = none := by simpa using hc1
    refine WC.seq ?_
    refine WC.region ?_
    refine WL.u rfl rfl (Wt.plain rfl) (Ex.assign rfl) ?_
    refine WL.u rfl rfl (Wt.plain rfl) (Ex.assign rfl) ?_
    refine WL.next ?_
    refine WC.ret ?_
    refine WN.retThen ?_
    refine WN.body2 rfl rfl rfl ?_
    exact ⟨by rw [termTidy_not htn] <;> rfl, hH.keep⟩
  have hts : (termT s).isSome = true := by simpa using hc1
  obtain ⟨t, ht⟩ := Option.isSome_iff_exists.1 hts
  have hTq := TQ.keep hV (by simp) (hT8 t ht)
  obtain ⟨hW, hv⟩ := termT_ok ht
  have hlt := termT_len ht
  refine WC.skip ?_
  refine WN.next ?_
  refine WC.seq ?_
  refine WC.region ?_
  refine WL.u rfl rfl (Wt.plain rfl) (Ex.loadHp4 Try.underlying56 ty56 rfl hH) ?_
  refine WL.call callable65 rfl (Wt.plain rfl) rfl rfl (stidyT _ t hW (by omega) _ (c8, n8, m8, (a8, l8, k8)) 0 false false (by omega) hTq) ?_
  rintro _ wn ⟨rfl, hC⟩; replace hH := hH.call hC; clear hC
  refine WL.u rfl rfl (Wt.plain rfl) (Ex.assign rfl) ?_
  refine WL.u rfl rfl (Wt.plain rfl) (Ex.assign rfl) ?_
  refine WL.next ?_
  refine WC.ret ?_
  refine WN.body2 rfl rfl rfl ?_
  exact ⟨by rw [termTidy_at ht, ← tidyS_0 hW] <;> rfl, hH.keep⟩

theorem lawExactTermTidy (s : Str) (w : World) (hy : (s.length : Int) ≤ 9223372036854775807) : Fn Try.prog 8 [vstr s] w (fun v w1 => v = .bool true ∧ Keep [] w w1) := by
  refine Fn.enter (n := 28) Try.func8 rfl rfl rfl ?_
  show WC _ _ _ _ [(0, vstr s)] _
  have hH := Hp.start [] w
  refine WC.seq ?_
  refine WC.region ?_
  refine WL.u rfl rfl (Wt.plain rfl) (Ex.assign rfl) ?_
  refine WL.next ?_
  refine WC.seq ?_
  refine WC.seq ?_
  refine WC.region ?_
  refine WL.u rfl rfl (Wt.plain rfl) (Ex.move rfl) ?_
  refine WL.u rfl rfl (Wt.plain rfl) (Ex.lenStr Try.underlying9 rfl) ?_
  refine WL.u rfl rfl (Wt.plain rfl) (Ex.gtr rfl rfl) ?_
  refine WL.next ?_
  refine WC.cond rfl (fun hc1 => ?_) (fun hc1 => ?_)
  · have hc1' := hc1; try simp only [decide_eq_true_eq, decide_eq_false_iff_not, Bool.not_eq_true', Bool.not_eq_false', Bool.not_eq_true, Bool.not_eq_false] at hc1'
    refine WC.seq ?_
    refine WC.region ?_
    refine WL.u rfl rfl (Wt.plain rfl) (Ex.assign rfl) ?_
    refine WL.next ?_
    refine WC.ret ?_
    refine WN.retThen ?_
    refine WN.body1 rfl rfl ?_
    exact ⟨rfl, hH.keep⟩
  have hc1' := hc1; try simp only [decide_eq_true_eq, decide_eq_false_iff_not, Bool.not_eq_true', Bool.not_eq_false', Bool.not_eq_true, Bool.not_eq_false] at hc1'
  refine WC.skip ?_
  refine WN.next ?_
  refine WC.seq ?_
  refine WC.region ?_
  refine WL.u rfl rfl (Wt.plain rfl) (Ex.move rfl) ?_
  refine WL.call callable31 rfl (Wt.plain rfl) rfl rfl (sTermTidy _ _ (by omega)) ?_
  rintro _ wn ⟨rfl, hC⟩; replace hH := hH.call hC; clear hC
  refine WL.u rfl rfl (Wt.plain rfl) (Ex.move rfl) ?_
  refine WL.u rfl rfl (Wt.plain rfl) (Ex.extract rfl rfl) ?_
  refine WL.u rfl rfl (Wt.plain rfl) (Ex.extract rfl rfl) ?_
  refine WL.u rfl rfl (Wt.plain rfl) (Ex.assign rfl) ?_
  refine WL.u rfl rfl (Wt.plain rfl) (Ex.assign rfl) ?_
  refine WL.next ?_
  refine WC.seq ?_
  refine WC.region ?_
  refine WL.u rfl rfl (Wt.plain rfl) (Ex.move rfl) ?_
  refine WL.call callable32 rfl (Wt.plain rfl) rfl rfl (iTermTidy _ _ (by omega)) ?_
  rintro _ wn ⟨rfl, hC⟩; replace hH := hH.call hC; clear hC
  refine WL.u rfl rfl (Wt.plain rfl) (Ex.move rfl) ?_
  refine WL.u rfl rfl (Wt.plain rfl) (Ex.extract rfl rfl) ?_
  refine WL.u rfl rfl (Wt.plain rfl) (Ex.extract rfl rfl) ?_
  refine WL.u rfl rfl (Wt.plain rfl) (Ex.assign rfl) ?_
  refine WL.u rfl rfl (Wt.plain rfl) (Ex.assign rfl) ?_
  refine WL.next ?_
  refine WC.seq ?_
  refine WC.seq ?_
  refine WC.region ?_
  refine WL.u rfl rfl (Wt.plain rfl) (Ex.move rfl) ?_
  refine WL.u rfl rfl (Wt.plain rfl) (Ex.move rfl) ?_
  refine WL.u rfl rfl (Wt.plain rfl) (Ex.neqStr rfl rfl) ?_
  refine WL.u rfl rfl (Wt.plain rfl) (Ex.move rfl) ?_
  refine WL.split (t := 23) rfl (fun hg5_3 => ?_) (fun hg5_3 => ?_)
  · exfalso; simp at hg5_3
  have hg5_3' := hg5_3; try simp only [decide_eq_true_eq, decide_eq_false_iff_not, Bool.not_eq_true', Bool.not_eq_false', Bool.not_eq_true, Bool.not_eq_false] at hg5_3'
  refine WL.u rfl rfl (Wt.guard' rfl rfl rfl hg5_3 rfl) (Ex.move rfl) ?_
  refine WL.u rfl rfl (Wt.guard' rfl rfl rfl hg5_3 rfl) (Ex.move rfl) ?_
  refine WL.u rfl rfl (Wt.guard' rfl rfl rfl hg5_3 rfl) (Ex.neqB Try.underlying4 rfl rfl) ?_
  refine WL.u rfl rfl (Wt.plain rfl) (Ex.pickF rfl hg5_3 rfl) ?_
  refine WL.next ?_
  refine WC.condF rfl (by simp) ?_
  refine WC.skip ?_
  refine WN.next ?_
  refine WC.seq ?_
  refine WC.region ?_
  refine WL.u rfl rfl (Wt.plain rfl) (Ex.assign rfl) ?_
  refine WL.next ?_
  refine WC.ret ?_
  refine WN.body1 rfl rfl ?_
  exact ⟨rfl, hH.keep⟩

end Go.Proofs.Ytnilefmlbedfcaa

/- The laws: tidy terms, terms of grids, the same terms. -/
namespace Go.Proofs.Ytnilefmlbedfcaa
set_option maxRecDepth 100000
set_option linter.unusedSimpArgs false
set_option linter.unusedVariables false
open Go Go.RowKit
def rowTm : Str → Tm
  | [] => .leaf 46
  | [c] => .leaf c
  | c :: d :: r => .bin 124 (.leaf c) (rowTm (d :: r))
def gridTm : Grid → Tm
  | [] => .leaf 46
  | [r] => rowTm r
  | r :: s :: g => .bin 45 (rowTm r) (gridTm (s :: g))
theorem rowTm_ok : ∀ (r : Str), 0 < r.length → (∀ c ∈ r, okL c = true) → Td (rowTm r) ∧ textT (rowTm r) = rowT r ∧ sz (rowTm r) = (1, r.length) ∧ gridT (rowTm r) = [r] ∧ (r.length ≤ 5 → valid (rowTm r) = true)
  | [], h, _ => by simp at h
  | [c], _, h => ⟨.leaf (h c (by simp)), rfl, rfl, rfl, fun _ => rfl⟩
  | c :: d :: r, _, h => by
    obtain ⟨k1, k2, k3, k4, k5⟩ := rowTm_ok (d :: r) (by simp) (fun x hx => h x (List.mem_cons_of_mem _ hx))
    refine ⟨.bin (.inl rfl) (.leaf (h c (by simp))) k1, by rw [rowTm, textT, k2]; rfl, ?_, ?_, fun h5 => ?_⟩
    · rw [rowTm, sz_b, k3]; simp [sz]; omega
    · rw [rowTm, g_b, k4]; rfl
    · have h5' : (d :: r).length ≤ 5 := by simp only [List.length_cons] at h5 ⊢; omega
      rw [rowTm]
      exact valid_mkb rfl (k5 h5') (by rw [k3]; rfl) (by rw [k3]; simp only [List.length_cons, sz] at h5 ⊢; omega)
theorem gridTm_ok {m : Nat} : ∀ (g : Grid), 0 < g.length → (∀ r ∈ g, r.length = m ∧ ∀ c ∈ r, okL c = true) → 1 ≤ m → m ≤ 5 → Td (gridTm g) ∧ textT (gridTm g) = writeT g ∧ sz (gridTm g) = (g.length, m) ∧ gridT (gridTm g) = g ∧ (g.length ≤ 5 → valid (gridTm g) = true)
  | [], h, _, _, _ => by simp at h
  | [r], _, h, h1, h5 => by
    obtain ⟨hl, hc⟩ := h r (by simp)
    obtain ⟨k1, k2, k3, k4, k5⟩ := rowTm_ok r (by omega) hc
    exact ⟨k1, k2, by rw [gridTm, k3, hl]; rfl, k4, fun _ => k5 (by omega)⟩
  | r :: s :: g, _, h, h1, h5 => by
    obtain ⟨hl, hc⟩ := h r (by simp)
    obtain ⟨k1, k2, k3, k4, k5⟩ := rowTm_ok r (by omega) hc
    obtain ⟨j1, j2, j3, j4, j5⟩ := gridTm_ok (m := m) (s :: g) (by simp) (fun x hx => h x (List.mem_cons_of_mem _ hx)) h1 h5
    refine ⟨.bin (.inr rfl) k1 j1, by rw [gridTm, textT, k2, j2]; rfl, ?_, ?_, fun h6 => ?_⟩
    · rw [gridTm, sz_u, k3, j3, hl]; simp only [List.length_cons]; exact Prod.ext (by omega) rfl
    · rw [gridTm, g_u, k4, j4]; rfl
    · rw [gridTm]
      exact valid_mku (k5 (by omega)) (j5 (by simp only [List.length_cons] at h6 ⊢; omega)) (by rw [k3, j3, hl]) (by rw [k3, j3]; simp only [List.length_cons] at h6 ⊢; omega)
theorem GridOk.cells {g : Grid} (h : GridOk g) : ∀ r ∈ g, r.length = nC g ∧ ∀ c ∈ r, okL c = true := fun r hr => by
  obtain ⟨i, hi, rfl⟩ := List.getElem_of_mem hr
  have e : g.getD i [] = g[i] := by rw [List.getD_eq_getElem?_getD, List.getElem?_eq_getElem hi, Option.getD_some]
  have h1 := h.row i hi
  rw [e] at h1
  refine ⟨h1, fun c hc => ?_⟩
  obtain ⟨j, hj, rfl⟩ := List.getElem_of_mem hc
  have h2 := h.ok i hi j (by rw [← h1]; exact hj)
  rw [e, List.getD_eq_getElem?_getD, List.getElem?_eq_getElem hj, Option.getD_some] at h2
  exact h2
theorem termOf_ex {g : Grid} (h : (termOf g).2 = true) : GridOk g ∧ (writeT g).length ≤ 60 ∧ termOf g = (writeT g, true) := by
  by_cases hc : gridIn g = true ∧ (writeT g).length ≤ 60
  · exact ⟨(gridOk_iff g).1 hc.1, hc.2, termOf_at hc.1 hc.2⟩
  · rw [termOf_not hc] at h; cases h
theorem writeT_term {g : Grid} (hG : GridOk g) (hl : (writeT g).length ≤ 60) : termGrid (writeT g) = (g, true) ∧ termTidy (writeT g) = (writeT g, true) := by
  obtain ⟨k1, k2, k3, k4, k5⟩ := gridTm_ok (m := nC g) g hG.n1 hG.cells hG.m1 hG.m5
  have ht := termT_text k1 (k5 hG.n5) (by rw [k2]; exact hl)
  rw [k2] at ht
  exact ⟨by rw [termGrid_at ht, k4], by rw [termTidy_at ht, tidy_td k1, k2]⟩

theorem lawTidy (a : Option Addr) (l : List UInt8) (cap : Nat) (w : World) (hc : Sl rByte w a l) (hcap : l.length ≤ cap) : Fn Try.prog 12 [.slice a l.length cap] w (fun v w1 => v = .bool true ∧ Keep [] w w1) := by
  refine Fn.enter (n := 91) Try.func12 rfl rfl rfl ?_
  show WC _ _ _ _ [(0, .slice a l.length cap)] _
  have hH := Hp.start [] w
  refine WC.seq ?_
  refine WC.region ?_
  refine WL.u rfl rfl (Wt.plain rfl) (Ex.assign rfl) ?_
  refine WL.next ?_
  refine WC.seq ?_
  refine WC.seq ?_
  refine WC.region ?_
  refine WL.u rfl rfl (Wt.plain rfl) (Ex.move rfl) ?_
  refine WL.u rfl rfl (Wt.plain rfl) (Ex.lenSl Try.underlying32 rfl) ?_
  refine WL.u rfl rfl (Wt.plain rfl) (Ex.gtr rfl rfl) ?_
  refine WL.next ?_
  refine WC.cond rfl (fun hc1 => ?_) (fun hc1 => ?_)
  · have hc1' := hc1; try simp only [decide_eq_true_eq, decide_eq_false_iff_not, Bool.not_eq_true', Bool.not_eq_false', Bool.not_eq_true, Bool.not_eq_false] at hc1'
    refine WC.seq ?_
    refine WC.region ?_
    refine WL.u rfl rfl (Wt.plain rfl) (Ex.assign rfl) ?_
    refine WL.next ?_
    refine WC.ret ?_
    refine WN.retThen ?_
    refine WN.body1 rfl rfl ?_
    exact ⟨rfl, hH.keep⟩
  have hc1' := hc1; try simp only [decide_eq_true_eq, decide_eq_false_iff_not, Bool.not_eq_true', Bool.not_eq_false', Bool.not_eq_true, Bool.not_eq_false] at hc1'
  refine WC.skip ?_
  refine WN.next ?_
  refine WC.seq ?_
  refine WC.region ?_
  refine WL.u rfl rfl (Wt.plain rfl) (Ex.move rfl) ?_
  refine WL.call callable40 rfl (Wt.plain rfl) rfl rfl (sDrawTermTidy _ _ _ _ (hc.kept hH.keep) hcap) ?_
  rintro _ wn ⟨s, rfl, hls, hC⟩; replace hH := hH.call hC; clear hC
  refine WL.u rfl rfl (Wt.plain rfl) (Ex.assign rfl) ?_
  refine WL.next ?_
  refine WC.seq ?_
  refine WC.region ?_
  refine WL.u rfl rfl (Wt.plain rfl) (Ex.move rfl) ?_
  refine WL.call callable32 rfl (Wt.plain rfl) rfl rfl (iTermTidy _ _ (by omega)) ?_
  rintro _ wn ⟨rfl, hC⟩; replace hH := hH.call hC; clear hC
  refine WL.u rfl rfl (Wt.plain rfl) (Ex.move rfl) ?_
  refine WL.u rfl rfl (Wt.plain rfl) (Ex.extract rfl rfl) ?_
  refine WL.u rfl rfl (Wt.plain rfl) (Ex.extract rfl rfl) ?_
  refine WL.u rfl rfl (Wt.plain rfl) (Ex.assign rfl) ?_
  refine WL.u rfl rfl (Wt.plain rfl) (Ex.assign rfl) ?_
  refine WL.next ?_
  refine WC.seq ?_
  refine WC.region ?_
  refine WL.u rfl rfl (Wt.plain rfl) (Ex.move rfl) ?_
  refine WL.call callable31 rfl (Wt.plain rfl) rfl rfl (sTermTidy _ _ (by omega)) ?_
  rintro _ wn ⟨rfl, hC⟩; replace hH := hH.call hC; clear hC
  refine WL.u rfl rfl (Wt.plain rfl) (Ex.move rfl) ?_
  refine WL.u rfl rfl (Wt.plain rfl) (Ex.extract rfl rfl) ?_
  refine WL.u rfl rfl (Wt.plain rfl) (Ex.extract rfl rfl) ?_
  refine WL.u rfl rfl (Wt.plain rfl) (Ex.assign rfl) ?_
  refine WL.u rfl rfl (Wt.plain rfl) (Ex.assign rfl) ?_
  refine WL.next ?_
  refine WC.seq ?_
  refine WC.seq ?_
  refine WC.region ?_
  refine WL.u rfl rfl (Wt.plain rfl) (Ex.move rfl) ?_
  refine WL.u rfl rfl (Wt.plain rfl) (Ex.move rfl) ?_
  refine WL.u rfl rfl (Wt.plain rfl) (Ex.neqB Try.underlying4 rfl rfl) ?_
  refine WL.u rfl rfl (Wt.plain rfl) (Ex.move rfl) ?_
  refine WL.split (t := 29) rfl (fun hg6_3 => ?_) (fun hg6_3 => ?_)
  · exfalso; simp at hg6_3
  have hg6_3' := hg6_3; try simp only [decide_eq_true_eq, decide_eq_false_iff_not, Bool.not_eq_true', Bool.not_eq_false', Bool.not_eq_true, Bool.not_eq_false] at hg6_3'
  refine WL.u rfl rfl (Wt.guard' rfl rfl rfl hg6_3 rfl) (Ex.move rfl) ?_
  refine WL.u rfl rfl (Wt.guard' rfl rfl rfl hg6_3 rfl) (Ex.move rfl) ?_
  refine WL.u rfl rfl (Wt.guard' rfl rfl rfl hg6_3 rfl) (Ex.neqStr rfl rfl) ?_
  refine WL.u rfl rfl (Wt.plain rfl) (Ex.pickF rfl hg6_3 rfl) ?_
  refine WL.u rfl rfl (Wt.plain rfl) (Ex.move rfl) ?_
  refine WL.split (t := 34) rfl (fun hg6_8 => ?_) (fun hg6_8 => ?_)
  · exfalso; simp at hg6_8
  have hg6_8' := hg6_8; try simp only [decide_eq_true_eq, decide_eq_false_iff_not, Bool.not_eq_true', Bool.not_eq_false', Bool.not_eq_true, Bool.not_eq_false] at hg6_8'
  refine WL.u rfl rfl (Wt.guard' rfl rfl rfl hg6_8 rfl) (Ex.move rfl) ?_
  refine WL.u rfl rfl (Wt.guard' rfl rfl rfl hg6_8 rfl) (Ex.not rfl) ?_
  refine WL.u rfl rfl (Wt.plain rfl) (Ex.pickF rfl hg6_8 rfl) ?_
  refine WL.next ?_
  refine WC.cond rfl (fun hc2 => ?_) (fun hc2 => ?_)
  · have hc2' := hc2; try simp only [decide_eq_true_eq, decide_eq_false_iff_not, Bool.not_eq_true', Bool.not_eq_false', Bool.not_eq_true, Bool.not_eq_false] at hc2'
    refine WC.seq ?_
    refine WC.region ?_
    refine WL.u rfl rfl (Wt.plain rfl) (Ex.move rfl) ?_
    refine WL.u rfl rfl (Wt.plain rfl) (Ex.move rfl) ?_
    refine WL.u rfl rfl (Wt.plain rfl) (Ex.eqlB Try.underlying4 rfl rfl) ?_
    refine WL.u rfl rfl (Wt.plain rfl) (Ex.move rfl) ?_
    refine WL.split (t := 41) rfl (fun hg7_3 => ?_) (fun hg7_3 => ?_)
    · have hg7_3' := hg7_3; try simp only [decide_eq_true_eq, decide_eq_false_iff_not, Bool.not_eq_true', Bool.not_eq_false', Bool.not_eq_true, Bool.not_eq_false] at hg7_3'
      refine WL.u rfl rfl (Wt.guard' rfl rfl rfl hg7_3 rfl) (Ex.move rfl) ?_
      refine WL.u rfl rfl (Wt.guard' rfl rfl rfl hg7_3 rfl) (Ex.move rfl) ?_
      refine WL.u rfl rfl (Wt.guard' rfl rfl rfl hg7_3 rfl) (Ex.eqlStr rfl rfl) ?_
      refine WL.u rfl rfl (Wt.plain rfl) (Ex.pickT rfl hg7_3 rfl) ?_
      refine WL.u rfl rfl (Wt.plain rfl) (Ex.assign rfl) ?_
      refine WL.next ?_
      refine WC.ret ?_
      refine WN.retThen ?_
      refine WN.body1 rfl rfl ?_
      exact ⟨congrArg Value.bool (by simp), hH.keep⟩
    exfalso; simp at hg7_3
  have hts : (termTidy s).2 = true := by simpa using hc2
  obtain ⟨t, ht⟩ := termTidy_ex hts
  have ey := termTidy_at ht
  obtain ⟨hu, hul, hug⟩ := termT_tidy ht
  have hTd := Td.of (wf_of_termT ht)
  have hsg := text_signs hTd
  have h60 := termTidy_len s
  have e1 : (termTidy s).1 = textT (tidyT t) := by rw [ey]
  have ez : termTidy (termTidy s).1 = ((termTidy s).1, true) := by rw [e1, termTidy_at hu, tidy_td hTd]
  have es : termSame s (termTidy s).1 = true := by rw [e1, termSame_at ht hu, hug]; exact decide_eq_true rfl
  have hle : (termTidy s).1.length ≤ s.length := by rw [e1]; exact hul
  rw [← e1] at hsg
  have hy2 : decide ((termTidy (termTidy s).1).1 = (termTidy s).1) = true := by rw [decide_eq_true_eq, ez]
  refine WC.skip ?_
  refine WN.next ?_
  refine WC.seq ?_
  refine WC.seq ?_
  refine WC.region ?_
  refine WL.u rfl rfl (Wt.plain rfl) (Ex.assign rfl) ?_
  refine WL.next ?_
  refine WC.block ?_
  refine WC.loop (ι := Nat) (fun i => [(3, vstr s), (4, vstr (termTidy s).1), (8, vint i)]) (fun i wn => Hp [] w wn [] ∧ i ≤ (termTidy s).1.length) (fun i => (termTidy s).1.length - i) (0) (by exact ⟨rfl, rfl, rfl, trivial⟩) ?_ ?_
  · exact ⟨hH.first0, Nat.zero_le _⟩
  rintro i wn ⟨hH, hi⟩
  intro mu0 hmu; try dsimp only at hmu
  show WC _ _ _ _ [(3, vstr s), (4, vstr (termTidy s).1), (8, vint i)] _
  refine WC.seq ?_
  refine WC.seq ?_
  refine WC.region ?_
  refine WL.u rfl rfl (Wt.plain rfl) (Ex.move rfl) ?_
  refine WL.u rfl rfl (Wt.plain rfl) (Ex.move rfl) ?_
  refine WL.u rfl rfl (Wt.plain rfl) (Ex.lenStr Try.underlying9 rfl) ?_
  refine WL.u rfl rfl (Wt.plain rfl) (Ex.lss rfl rfl) ?_
  refine WL.next ?_
  refine WC.cond rfl (fun hc3 => ?_) (fun hc3 => ?_)
  · have hc3' := hc3; try simp only [decide_eq_true_eq, decide_eq_false_iff_not, Bool.not_eq_true', Bool.not_eq_false', Bool.not_eq_true, Bool.not_eq_false] at hc3'
    have hli : i < (termTidy s).1.length := by omega
    obtain ⟨hs1, hs2, hs3⟩ := hsg _ (List.mem_of_getElem? (getD_get (termTidy s).1 i 0 hli))
    refine WC.skip ?_
    refine WN.next ?_
    refine WC.seq ?_
    refine WC.block ?_
    refine WC.seq ?_
    refine WC.region ?_
    refine WL.u rfl rfl (Wt.plain rfl) (Ex.move rfl) ?_
    refine WL.u rfl rfl (Wt.plain rfl) (Ex.move rfl) ?_
    refine WL.u rfl rfl (Wt.plain rfl) (Ex.indexStr Try.underlying9 rfl rfl (by omega)) ?_
    refine WL.u rfl rfl (Wt.plain rfl) (Ex.eql rfl rfl) ?_
    refine WL.u rfl rfl (Wt.plain rfl) (Ex.move rfl) ?_
    refine WL.u rfl rfl (Wt.guard' rfl rfl rfl (decide_eq_false (fun h => hs1 ((u8eq _ 62 (by decide)).1 h))) rfl) (Ex.move rfl) ?_
    refine WL.u rfl rfl (Wt.guard' rfl rfl rfl (decide_eq_false (fun h => hs1 ((u8eq _ 62 (by decide)).1 h))) rfl) (Ex.move rfl) ?_
    refine WL.u rfl rfl (Wt.guard' rfl rfl rfl (decide_eq_false (fun h => hs1 ((u8eq _ 62 (by decide)).1 h))) rfl) (Ex.indexStr Try.underlying9 rfl rfl (by omega)) ?_
    refine WL.u rfl rfl (Wt.guard' rfl rfl rfl (decide_eq_false (fun h => hs1 ((u8eq _ 62 (by decide)).1 h))) rfl) (Ex.eql rfl rfl) ?_
    refine WL.u rfl rfl (Wt.plain rfl) (Ex.pickF rfl (decide_eq_false (fun h => hs1 ((u8eq _ 62 (by decide)).1 h))) rfl) ?_
    refine WL.u rfl rfl (Wt.plain rfl) (Ex.move rfl) ?_
    refine WL.u rfl rfl (Wt.guard' rfl rfl rfl (decide_eq_false (fun h => hs2 ((u8eq _ 94 (by decide)).1 h))) rfl) (Ex.move rfl) ?_
    refine WL.u rfl rfl (Wt.guard' rfl rfl rfl (decide_eq_false (fun h => hs2 ((u8eq _ 94 (by decide)).1 h))) rfl) (Ex.move rfl) ?_
    refine WL.u rfl rfl (Wt.guard' rfl rfl rfl (decide_eq_false (fun h => hs2 ((u8eq _ 94 (by decide)).1 h))) rfl) (Ex.indexStr Try.underlying9 rfl rfl (by omega)) ?_
    refine WL.u rfl rfl (Wt.guard' rfl rfl rfl (decide_eq_false (fun h => hs2 ((u8eq _ 94 (by decide)).1 h))) rfl) (Ex.eql rfl rfl) ?_
    refine WL.u rfl rfl (Wt.plain rfl) (Ex.pickF rfl (decide_eq_false (fun h => hs2 ((u8eq _ 94 (by decide)).1 h))) rfl) ?_
    refine WL.next ?_
    refine WC.condF rfl (decide_eq_false (fun h => hs3 ((u8eq _ 42 (by decide)).1 h))) ?_
    refine WC.skip ?_
    refine WN.normalBlock ?_
    refine WN.next ?_
    refine WC.region ?_
    refine WL.u rfl rfl (Wt.plain rfl) (Ex.move rfl) ?_
    refine WL.u rfl rfl (Wt.plain rfl) (Ex.add rfl rfl (by omega)) ?_
    refine WL.u rfl rfl (Wt.plain rfl) (Ex.assign rfl) ?_
    refine WL.last ?_
    refine WN.round (i + 1) (by exact ⟨rfl, rfl, rfl, trivial⟩) ?_ ?_
    · exact ⟨hH, by omega⟩
    · (try dsimp only); omega
  have hc3' := hc3; try simp only [decide_eq_true_eq, decide_eq_false_iff_not, Bool.not_eq_true', Bool.not_eq_false', Bool.not_eq_true, Bool.not_eq_false] at hc3'
  refine WC.exit ?_
  refine WN.exitThen ?_
  refine WN.exitThen ?_
  refine WN.exitHere ?_
  refine WN.next ?_
  refine WC.seq ?_
  refine WC.region ?_
  refine WL.u rfl rfl (Wt.plain rfl) (Ex.move rfl) ?_
  refine WL.call callable32 rfl (Wt.plain rfl) rfl rfl (iTermTidy (termTidy s).1 _ (by omega)) ?_
  rintro _ wn ⟨rfl, hC⟩; replace hH := hH.call hC; clear hC
  refine WL.u rfl rfl (Wt.plain rfl) (Ex.move rfl) ?_
  refine WL.u rfl rfl (Wt.plain rfl) (Ex.extract rfl rfl) ?_
  refine WL.u rfl rfl (Wt.plain rfl) (Ex.extract rfl rfl) ?_
  refine WL.u rfl rfl (Wt.plain rfl) (Ex.assign rfl) ?_
  refine WL.u rfl rfl (Wt.plain rfl) (Ex.assign rfl) ?_
  refine WL.next ?_
  refine WC.seq ?_
  refine WC.region ?_
  refine WL.u rfl rfl (Wt.plain rfl) (Ex.move rfl) ?_
  refine WL.u rfl rfl (Wt.plain rfl) (Ex.move rfl) ?_
  refine WL.u rfl rfl (Wt.guard' rfl rfl rfl (by rw [ez]) rfl) (Ex.move rfl) ?_
  refine WL.u rfl rfl (Wt.guard' rfl rfl rfl (by rw [ez]) rfl) (Ex.move rfl) ?_
  refine WL.u rfl rfl (Wt.guard' rfl rfl rfl (by rw [ez]) rfl) (Ex.eqlStr rfl rfl) ?_
  refine WL.u rfl rfl (Wt.plain rfl) (Ex.pickT rfl (by rw [ez]) rfl) ?_
  refine WL.u rfl rfl (Wt.plain rfl) (Ex.move rfl) ?_
  refine WL.u rfl rfl (Wt.guard' rfl rfl rfl (hy2) rfl) (Ex.move rfl) ?_
  refine WL.u rfl rfl (Wt.guard' rfl rfl rfl (hy2) rfl) (Ex.lenStr Try.underlying9 rfl) ?_
  refine WL.u rfl rfl (Wt.guard' rfl rfl rfl (hy2) rfl) (Ex.move rfl) ?_
  refine WL.u rfl rfl (Wt.guard' rfl rfl rfl (hy2) rfl) (Ex.lenStr Try.underlying9 rfl) ?_
  refine WL.u rfl rfl (Wt.guard' rfl rfl rfl (hy2) rfl) (Ex.leq rfl rfl) ?_
  refine WL.u rfl rfl (Wt.plain rfl) (Ex.pickT rfl (hy2) rfl) ?_
  refine WL.u rfl rfl (Wt.plain rfl) (Ex.move rfl) ?_
  refine WL.u rfl rfl (Wt.guard' rfl rfl rfl (decide_eq_true (by omega)) rfl) (Ex.move rfl) ?_
  refine WL.u rfl rfl (Wt.guard' rfl rfl rfl (decide_eq_true (by omega)) rfl) (Ex.move rfl) ?_
  refine WL.call callable36 rfl (Wt.guard' rfl rfl rfl (decide_eq_true (by omega)) rfl) rfl rfl (iTermSame s (termTidy s).1 _ (by omega) (by omega)) ?_
  rintro _ wn ⟨rfl, hC⟩; replace hH := hH.call hC; clear hC
  refine WL.u rfl rfl (Wt.plain rfl) (Ex.pickT rfl (decide_eq_true (by omega)) rfl) ?_
  refine WL.u rfl rfl (Wt.plain rfl) (Ex.assign rfl) ?_
  refine WL.next ?_
  refine WC.ret ?_
  refine WN.body1 rfl rfl ?_
  exact ⟨congrArg Value.bool es, hH.keep⟩

theorem sl91One (a : Option Addr) (l : List UInt8) (cap : Nat) (w : World) (hc : Sl rByte w a l) (hcap : l.length ≤ cap) : Fn Try.prog 68 [.slice a l.length cap] w (fun v w1 => ∃ g, Keep [] w w1 ∧ New rStr 9 w w1 v g ∧ (1 ≤ g.length ∧ g.length ≤ 4) ∧ (∀ s ∈ g, s.length ≤ 5)) := by
  refine Fn.enter (n := 6) Try.func68 rfl rfl rfl ?_
  show WC _ _ _ _ [(0, .slice a l.length cap)] _
  have hH := Hp.start [] w
  replace hc := hc.take 2000
  have hl := List.length_take_le 2000 l
  refine WC.seq ?_
  refine WC.region ?_
  refine WL.u rfl rfl (Wt.plain rfl) (Ex.assign rfl) ?_
  refine WL.next ?_
  refine WC.seq ?_
  refine WC.region ?_
  refine WL.u rfl rfl (Wt.plain rfl) (Ex.move rfl) ?_
  refine WL.call callable83 rfl (Wt.plain rfl) rfl rfl (sl6Open _ _ _ _ hcap) ?_
  rintro _ wn ⟨r, rfl, hrn, hC, hro⟩; have hca := (hc.kept hH.keep).offNew hrn; replace hH := hH.push hC hrn hro; clear hC hro
  refine WL.call callable95 rfl (Wt.plain rfl) rfl rfl (sl91Some _ _ _ _ _ 4 4 _ (hH.at 0 rfl) (hc.kept hH.keep) hca hl (by omega) (by omega) (by omega)) ?_
  rintro _ wn ⟨g, q, hN, hgl, hgr, hKK, ho, hq⟩; obtain ⟨b5, cap5, cur5, rfl, hge5, hbb5, ho5⟩ := hN.own; replace hH := hH.turnPush hKK ho hge5 hbb5; clear hKK ho hN
  refine WL.u rfl rfl (Wt.plain rfl) (Ex.assign rfl) ?_
  refine WL.next ?_
  refine WC.ret ?_
  refine WN.body1 rfl rfl ?_
  exact ⟨g, hH.keep, New.of (hH.front 0 rfl) ho5 (hH.base 0 rfl), by omega, fun s hs => by have := hgr s hs; omega⟩

theorem sDrawTermOf (a : Option Addr) (l : List UInt8) (cap : Nat) (w : World) (hc : Sl rByte w a l) (hcap : l.length ≤ cap) : Fn Try.prog 33 [.slice a l.length cap] w (fun v w1 => ∃ g, Keep [] w w1 ∧ New rStr 9 w w1 v g ∧ (1 ≤ g.length ∧ g.length ≤ 4) ∧ (∀ s ∈ g, s.length ≤ 5)) := by
  refine Fn.enter (n := 5) Try.func33 rfl rfl rfl ?_
  show WC _ _ _ _ [(0, .slice a l.length cap)] _
  have hH := Hp.start [] w
  refine WC.seq ?_
  refine WC.region ?_
  refine WL.u rfl rfl (Wt.plain rfl) (Ex.assign rfl) ?_
  refine WL.next ?_
  refine WC.seq ?_
  refine WC.region ?_
  refine WL.u rfl rfl (Wt.plain rfl) (Ex.move rfl) ?_
  refine WL.call callable68 rfl (Wt.plain rfl) rfl rfl (sl91One _ _ _ _ (hc.kept hH.keep) hcap) ?_
  rintro _ wn ⟨g, hC, hN, hgl, hgr⟩; obtain ⟨b4, cap4, cur4, rfl, hge4, hbb4, ho4⟩ := hN.own; replace hH := hH.push hC hge4 hbb4; clear hC hN; have hs := short_of hgr (by omega)
  refine WL.u rfl rfl (Wt.plain rfl) (Ex.assign rfl) ?_
  refine WL.next ?_
  refine WC.ret ?_
  refine WN.body1 rfl rfl ?_
  exact ⟨g, hH.keep, New.of hH ho4 (hH.base 0 rfl), hgl, hgr⟩

theorem lawTermOf (a : Option Addr) (l : List UInt8) (cap : Nat) (w : World) (hc : Sl rByte w a l) (hcap : l.length ≤ cap) : Fn Try.prog 9 [.slice a l.length cap] w (fun v w1 => v = .bool true ∧ Keep [] w w1) := by
  refine Fn.enter (n := 71) Try.func9 rfl rfl rfl ?_
  show WC _ _ _ _ [(0, .slice a l.length cap)] _
  have hH := Hp.start [] w
  refine WC.seq ?_
  refine WC.region ?_
  refine WL.u rfl rfl (Wt.plain rfl) (Ex.assign rfl) ?_
  refine WL.next ?_
  refine WC.seq ?_
  refine WC.seq ?_
  refine WC.region ?_
  refine WL.u rfl rfl (Wt.plain rfl) (Ex.move rfl) ?_
  refine WL.u rfl rfl (Wt.plain rfl) (Ex.lenSl Try.underlying32 rfl) ?_
  refine WL.u rfl rfl (Wt.plain rfl) (Ex.gtr rfl rfl) ?_
  refine WL.next ?_
  refine WC.cond rfl (fun hc1 => ?_) (fun hc1 => ?_)
  · have hc1' := hc1; try simp only [decide_eq_true_eq, decide_eq_false_iff_not, Bool.not_eq_true', Bool.not_eq_false', Bool.not_eq_true, Bool.not_eq_false] at hc1'
    refine WC.seq ?_
    refine WC.region ?_
    refine WL.u rfl rfl (Wt.plain rfl) (Ex.assign rfl) ?_
    refine WL.next ?_
    refine WC.ret ?_
    refine WN.retThen ?_
    refine WN.body1 rfl rfl ?_
    exact ⟨rfl, hH.keep⟩
  have hc1' := hc1; try simp only [decide_eq_true_eq, decide_eq_false_iff_not, Bool.not_eq_true', Bool.not_eq_false', Bool.not_eq_true, Bool.not_eq_false] at hc1'
  refine WC.skip ?_
  refine WN.next ?_
  refine WC.seq ?_
  refine WC.region ?_
  refine WL.u rfl rfl (Wt.plain rfl) (Ex.move rfl) ?_
  refine WL.call callable33 rfl (Wt.plain rfl) rfl rfl (sDrawTermOf _ _ _ _ (hc.kept hH.keep) hcap) ?_
  rintro _ wn ⟨g, hC, hN, hgl, hgr⟩; obtain ⟨b16, cap16, cur16, rfl, hge16, hbb16, ho16⟩ := hN.own; replace hH := hH.push hC hge16 hbb16; clear hC hN; have hs := short_of hgr (by omega)
  refine WL.u rfl rfl (Wt.plain rfl) (Ex.assign rfl) ?_
  refine WL.next ?_
  refine WC.seq ?_
  refine WC.region ?_
  refine WL.u rfl rfl (Wt.plain rfl) (Ex.move rfl) ?_
  refine WL.call callable22 rfl (Wt.plain rfl) rfl rfl (iTermOf g _ _ _ (ho16.slAt hH 0 rfl) hs) ?_
  rintro _ wn ⟨rfl, hC⟩; replace hH := hH.dr hC; clear hC
  refine WL.u rfl rfl (Wt.plain rfl) (Ex.move rfl) ?_
  refine WL.u rfl rfl (Wt.plain rfl) (Ex.extract rfl rfl) ?_
  refine WL.u rfl rfl (Wt.plain rfl) (Ex.extract rfl rfl) ?_
  refine WL.u rfl rfl (Wt.plain rfl) (Ex.assign rfl) ?_
  refine WL.u rfl rfl (Wt.plain rfl) (Ex.assign rfl) ?_
  refine WL.next ?_
  refine WC.seq ?_
  refine WC.region ?_
  refine WL.u rfl rfl (Wt.plain rfl) (Ex.move rfl) ?_
  refine WL.call callable20 rfl (Wt.plain rfl) rfl rfl (sTermOf g _ _ _ (ho16.slAt hH 0 rfl) hs ho16.le) ?_
  rintro _ wn ⟨rfl, hC⟩; replace hH := hH.dr hC; clear hC
  refine WL.u rfl rfl (Wt.plain rfl) (Ex.move rfl) ?_
  refine WL.u rfl rfl (Wt.plain rfl) (Ex.extract rfl rfl) ?_
  refine WL.u rfl rfl (Wt.plain rfl) (Ex.extract rfl rfl) ?_
  refine WL.u rfl rfl (Wt.plain rfl) (Ex.assign rfl) ?_
  refine WL.u rfl rfl (Wt.plain rfl) (Ex.assign rfl) ?_
  refine WL.next ?_
  refine WC.seq ?_
  refine WC.seq ?_
  refine WC.region ?_
  refine WL.u rfl rfl (Wt.plain rfl) (Ex.move rfl) ?_
  refine WL.u rfl rfl (Wt.plain rfl) (Ex.move rfl) ?_
  refine WL.u rfl rfl (Wt.plain rfl) (Ex.neqB Try.underlying4 rfl rfl) ?_
  refine WL.u rfl rfl (Wt.plain rfl) (Ex.move rfl) ?_
  refine WL.split (t := 30) rfl (fun hg6_3 => ?_) (fun hg6_3 => ?_)
  · exfalso; simp at hg6_3
  have hg6_3' := hg6_3; try simp only [decide_eq_true_eq, decide_eq_false_iff_not, Bool.not_eq_true', Bool.not_eq_false', Bool.not_eq_true, Bool.not_eq_false] at hg6_3'
  refine WL.u rfl rfl (Wt.guard' rfl rfl rfl hg6_3 rfl) (Ex.move rfl) ?_
  refine WL.u rfl rfl (Wt.guard' rfl rfl rfl hg6_3 rfl) (Ex.move rfl) ?_
  refine WL.u rfl rfl (Wt.guard' rfl rfl rfl hg6_3 rfl) (Ex.neqStr rfl rfl) ?_
  refine WL.u rfl rfl (Wt.plain rfl) (Ex.pickF rfl hg6_3 rfl) ?_
  refine WL.u rfl rfl (Wt.plain rfl) (Ex.move rfl) ?_
  refine WL.split (t := 35) rfl (fun hg6_8 => ?_) (fun hg6_8 => ?_)
  · exfalso; simp at hg6_8
  have hg6_8' := hg6_8; try simp only [decide_eq_true_eq, decide_eq_false_iff_not, Bool.not_eq_true', Bool.not_eq_false', Bool.not_eq_true, Bool.not_eq_false] at hg6_8'
  refine WL.u rfl rfl (Wt.guard' rfl rfl rfl hg6_8 rfl) (Ex.move rfl) ?_
  refine WL.u rfl rfl (Wt.guard' rfl rfl rfl hg6_8 rfl) (Ex.not rfl) ?_
  refine WL.u rfl rfl (Wt.plain rfl) (Ex.pickF rfl hg6_8 rfl) ?_
  refine WL.next ?_
  refine WC.cond rfl (fun hc2 => ?_) (fun hc2 => ?_)
  · have hc2' := hc2; try simp only [decide_eq_true_eq, decide_eq_false_iff_not, Bool.not_eq_true', Bool.not_eq_false', Bool.not_eq_true, Bool.not_eq_false] at hc2'
    refine WC.seq ?_
    refine WC.region ?_
    refine WL.u rfl rfl (Wt.plain rfl) (Ex.move rfl) ?_
    refine WL.u rfl rfl (Wt.plain rfl) (Ex.move rfl) ?_
    refine WL.u rfl rfl (Wt.plain rfl) (Ex.eqlB Try.underlying4 rfl rfl) ?_
    refine WL.u rfl rfl (Wt.plain rfl) (Ex.move rfl) ?_
    refine WL.split (t := 42) rfl (fun hg7_3 => ?_) (fun hg7_3 => ?_)
    · have hg7_3' := hg7_3; try simp only [decide_eq_true_eq, decide_eq_false_iff_not, Bool.not_eq_true', Bool.not_eq_false', Bool.not_eq_true, Bool.not_eq_false] at hg7_3'
      refine WL.u rfl rfl (Wt.guard' rfl rfl rfl hg7_3 rfl) (Ex.move rfl) ?_
      refine WL.u rfl rfl (Wt.guard' rfl rfl rfl hg7_3 rfl) (Ex.move rfl) ?_
      refine WL.u rfl rfl (Wt.guard' rfl rfl rfl hg7_3 rfl) (Ex.eqlStr rfl rfl) ?_
      refine WL.u rfl rfl (Wt.plain rfl) (Ex.pickT rfl hg7_3 rfl) ?_
      refine WL.u rfl rfl (Wt.plain rfl) (Ex.assign rfl) ?_
      refine WL.next ?_
      refine WC.ret ?_
      refine WN.retThen ?_
      refine WN.body1 rfl rfl ?_
      exact ⟨congrArg Value.bool (by simp), hH.keep⟩
    exfalso; simp at hg7_3
  have hts : (termOf g).2 = true := by simpa using hc2
  obtain ⟨hG, h60, eo⟩ := termOf_ex hts
  have e1 : (termOf g).1 = writeT g := by rw [eo]
  obtain ⟨eg, ey⟩ := writeT_term hG h60
  rw [← e1] at eg ey h60
  refine WC.skip ?_
  refine WN.next ?_
  refine WC.seq ?_
  refine WC.region ?_
  refine WL.u rfl rfl (Wt.plain rfl) (Ex.move rfl) ?_
  refine WL.call callable30 rfl (Wt.plain rfl) rfl rfl (iTermGrid (termOf g).1 _ (by omega)) ?_
  rintro _ wn ⟨x, rfl, hC, hN⟩; rw [eg] at hN ⊢; obtain ⟨b49, cap49, cur49, rfl, hge49, hbb49, ho49⟩ := hN.own; replace hH := hH.push hC hge49 hbb49; clear hC hN
  refine WL.u rfl rfl (Wt.plain rfl) (Ex.move rfl) ?_
  refine WL.u rfl rfl (Wt.plain rfl) (Ex.extract rfl rfl) ?_
  refine WL.u rfl rfl (Wt.plain rfl) (Ex.extract rfl rfl) ?_
  refine WL.u rfl rfl (Wt.plain rfl) (Ex.assign rfl) ?_
  refine WL.u rfl rfl (Wt.plain rfl) (Ex.assign rfl) ?_
  refine WL.next ?_
  refine WC.seq ?_
  refine WC.region ?_
  refine WL.u rfl rfl (Wt.plain rfl) (Ex.move rfl) ?_
  refine WL.call callable32 rfl (Wt.plain rfl) rfl rfl (iTermTidy (termOf g).1 _ (by omega)) ?_
  rintro _ wn ⟨rfl, hC⟩; replace hH := hH.call hC; clear hC
  refine WL.u rfl rfl (Wt.plain rfl) (Ex.move rfl) ?_
  refine WL.u rfl rfl (Wt.plain rfl) (Ex.extract rfl rfl) ?_
  refine WL.u rfl rfl (Wt.plain rfl) (Ex.extract rfl rfl) ?_
  refine WL.u rfl rfl (Wt.plain rfl) (Ex.assign rfl) ?_
  refine WL.u rfl rfl (Wt.plain rfl) (Ex.assign rfl) ?_
  refine WL.next ?_
  refine WC.seq ?_
  refine WC.region ?_
  refine WL.u rfl rfl (Wt.plain rfl) (Ex.move rfl) ?_
  refine WL.u rfl rfl (Wt.plain rfl) (Ex.move rfl) ?_
  refine WL.u rfl rfl (Wt.guard' rfl rfl rfl (rfl) rfl) (Ex.move rfl) ?_
  refine WL.u rfl rfl (Wt.plain rfl) (Ex.pickT rfl (rfl) rfl) ?_
  refine WL.u rfl rfl (Wt.plain rfl) (Ex.move rfl) ?_
  refine WL.u rfl rfl (Wt.guard' rfl rfl rfl (by rw [ey]) rfl) (Ex.move rfl) ?_
  refine WL.u rfl rfl (Wt.guard' rfl rfl rfl (by rw [ey]) rfl) (Ex.move rfl) ?_
  refine WL.call callable34 rfl (Wt.guard' rfl rfl rfl (by rw [ey]) rfl) rfl rfl (sameTexts (g) (g) _ _ _ _ _ (ho49.slAt hH 0 rfl) (ho16.slAt hH 1 rfl)) ?_
  rintro _ wn ⟨rfl, hC⟩; replace hH := hH.dr hC; clear hC
  refine WL.u rfl rfl (Wt.plain rfl) (Ex.pickT rfl (by rw [ey]) rfl) ?_
  refine WL.u rfl rfl (Wt.plain rfl) (Ex.move rfl) ?_
  refine WL.u rfl rfl (Wt.guard' rfl rfl rfl ((decide_eq_true rfl)) rfl) (Ex.move rfl) ?_
  refine WL.u rfl rfl (Wt.guard' rfl rfl rfl ((decide_eq_true rfl)) rfl) (Ex.move rfl) ?_
  refine WL.u rfl rfl (Wt.guard' rfl rfl rfl ((decide_eq_true rfl)) rfl) (Ex.eqlStr rfl rfl) ?_
  refine WL.u rfl rfl (Wt.plain rfl) (Ex.pickT rfl ((decide_eq_true rfl)) rfl) ?_
  refine WL.u rfl rfl (Wt.plain rfl) (Ex.assign rfl) ?_
  refine WL.next ?_
  refine WC.ret ?_
  refine WN.body1 rfl rfl ?_
  exact ⟨congrArg Value.bool (by rw [ey]; exact decide_eq_true rfl), hH.keep⟩

end Go.Proofs.Ytnilefmlbedfcaa
