/- The laws on the first port's partners. -/
import Derived.Test.YtmdjekikefbhpaaCP
namespace Go.Proofs.Ytmdjekikefbhpaa
set_option maxRecDepth 100000
set_option linter.unusedSimpArgs false
set_option linter.unusedVariables false
open Go Go.RowKit
theorem countPorts_len (n m : Int) : (countPorts n m).1.length ≤ 1000 := by
  unfold countPorts
  split
  · next h =>
    obtain ⟨n, m, rfl, rfl, h1, h2, h3, h4, h9⟩ := fewB_ex h
    show (cntBy _ _ _).length ≤ 1000
    rw [cntBy_len, Int.toNat_natCast, Int.toNat_natCast]; omega
  · simp

theorem lawExactCountPorts (n m : Int) (w : World) : Fn Try.prog 3 [vint n, vint m] w (fun v w1 => v = .bool true ∧ Keep [] w w1) := by
  refine Fn.enter (n := 68) Try.func3 rfl rfl rfl ?_
  show WC _ _ _ _ [(0, vint n), (1, vint m)] _
  have hH := Hp.start [] w
  have hlen : ((countPorts n m).1).length ≤ 1000 := countPorts_len n m
  refine WC.seq ?_
  refine WC.region ?_
  refine WL.u rfl rfl (Wt.plain rfl) (Ex.assign rfl) ?_
  refine WL.next ?_
  refine WC.seq ?_
  refine WC.region ?_
  refine WL.u rfl rfl (Wt.plain rfl) (Ex.move rfl) ?_
  refine WL.u rfl rfl (Wt.plain rfl) (Ex.move rfl) ?_
  refine WL.call callable23 rfl (Wt.plain rfl) rfl rfl (sCountPorts n m _) ?_
  rintro _ wn ⟨x, rfl, hC, hN⟩; obtain ⟨b16, cap16, cur16, rfl, hge16, hbb16, ho16⟩ := hN.own; replace hH := hH.push hC hge16 hbb16; clear hC hN
  refine WL.u rfl rfl (Wt.plain rfl) (Ex.move rfl) ?_
  refine WL.u rfl rfl (Wt.plain rfl) (Ex.extract rfl rfl) ?_
  refine WL.u rfl rfl (Wt.plain rfl) (Ex.extract rfl rfl) ?_
  refine WL.u rfl rfl (Wt.plain rfl) (Ex.assign rfl) ?_
  refine WL.u rfl rfl (Wt.plain rfl) (Ex.assign rfl) ?_
  refine WL.next ?_
  refine WC.seq ?_
  refine WC.region ?_
  refine WL.u rfl rfl (Wt.plain rfl) (Ex.move rfl) ?_
  refine WL.u rfl rfl (Wt.plain rfl) (Ex.move rfl) ?_
  refine WL.call callable24 rfl (Wt.plain rfl) rfl rfl (iCountPorts n m _) ?_
  rintro _ wn ⟨x, rfl, hC, hN⟩; obtain ⟨b22, cap22, cur22, rfl, hge22, hbb22, ho22⟩ := hN.own; replace hH := hH.push hC hge22 hbb22; clear hC hN
  refine WL.u rfl rfl (Wt.plain rfl) (Ex.move rfl) ?_
  refine WL.u rfl rfl (Wt.plain rfl) (Ex.extract rfl rfl) ?_
  refine WL.u rfl rfl (Wt.plain rfl) (Ex.extract rfl rfl) ?_
  refine WL.u rfl rfl (Wt.plain rfl) (Ex.assign rfl) ?_
  refine WL.u rfl rfl (Wt.plain rfl) (Ex.assign rfl) ?_
  refine WL.next ?_
  refine WC.seq ?_
  refine WC.seq ?_
  refine WC.region ?_
  refine WL.u rfl rfl (Wt.plain rfl) (Ex.move rfl) ?_
  refine WL.u rfl rfl (Wt.plain rfl) (Ex.move rfl) ?_
  refine WL.call callable25 rfl (Wt.plain rfl) rfl rfl (eqIntS ((countPorts n m).1) ((countPorts n m).1) _ _ _ _ _ (ho22.slAt hH 0 rfl) (ho16.slAt hH 1 rfl)) ?_
  rintro _ wn ⟨rfl, hC⟩; replace hH := hH.dr hC; clear hC
  refine WL.u rfl rfl (Wt.plain rfl) (Ex.not rfl) ?_
  refine WL.u rfl rfl (Wt.plain rfl) (Ex.move rfl) ?_
  refine WL.split (t := 29) rfl (fun hg3_4 => ?_) (fun hg3_4 => ?_)
  · exfalso; simp at hg3_4
  have hg3_4' := hg3_4; try simp only [decide_eq_true_eq, decide_eq_false_iff_not, Bool.not_eq_true', Bool.not_eq_false', Bool.not_eq_true, Bool.not_eq_false] at hg3_4'
  refine WL.u rfl rfl (Wt.guard' rfl rfl rfl hg3_4 rfl) (Ex.move rfl) ?_
  refine WL.u rfl rfl (Wt.guard' rfl rfl rfl hg3_4 rfl) (Ex.move rfl) ?_
  refine WL.u rfl rfl (Wt.guard' rfl rfl rfl hg3_4 rfl) (Ex.neqB Try.underlying4 rfl rfl) ?_
  refine WL.u rfl rfl (Wt.plain rfl) (Ex.pickF rfl hg3_4 rfl) ?_
  refine WL.next ?_
  refine WC.condF rfl (by simp) ?_
  refine WC.skip ?_
  refine WN.next ?_
  refine WC.seq ?_
  refine WC.region ?_
  refine WL.u rfl rfl (Wt.plain rfl) (Ex.assign rfl) ?_
  refine WL.next ?_
  refine WC.seq ?_
  refine WC.region ?_
  refine WL.u rfl rfl (Wt.plain rfl) (Ex.move rfl) ?_
  refine WL.u rfl rfl (Wt.plain rfl) (Ex.move rfl) ?_
  refine WL.call callable26 rfl (Wt.plain rfl) rfl rfl (markIntS b22 cap22 cur22 ((countPorts n m).1) 1 _ (hH.at 0 rfl) ho22 (by omega) (by omega)) ?_
  rintro _ wn ⟨cur1, rfl, hK, hb, ho22⟩; replace hH := hH.turn hK hb; clear hK hb
  refine WL.u rfl rfl (Wt.plain rfl) (Ex.assign rfl) ?_
  refine WL.next ?_
  refine WC.seq ?_
  refine WC.region ?_
  refine WL.u rfl rfl (Wt.plain rfl) (Ex.assign rfl) ?_
  refine WL.next ?_
  refine WC.seq ?_
  refine WC.region ?_
  refine WL.u rfl rfl (Wt.plain rfl) (Ex.move rfl) ?_
  refine WL.u rfl rfl (Wt.plain rfl) (Ex.move rfl) ?_
  refine WL.call callable27 rfl (Wt.plain rfl) rfl rfl (heldIntS (some ⟨b22, 0, none⟩) cap22 1 ((countPorts n m).1).length _ (ho22.slAt hH 0 rfl) (by omega) (by omega)) ?_
  rintro _ _ ⟨rfl, hw⟩; obtain rfl := hw.symm
  refine WL.u rfl rfl (Wt.plain rfl) (Ex.assign rfl) ?_
  refine WL.next ?_
  refine WC.seq ?_
  refine WC.seq ?_
  refine WC.region ?_
  refine WL.u rfl rfl (Wt.plain rfl) (Ex.move rfl) ?_
  refine WL.u rfl rfl (Wt.plain rfl) (Ex.lss rfl rfl) ?_
  refine WL.next ?_
  refine WC.condF rfl (decide_eq_false (by omega)) ?_
  refine WC.skip ?_
  refine WN.next ?_
  refine WC.seq ?_
  refine WC.seq ?_
  refine WC.region ?_
  refine WL.u rfl rfl (Wt.plain rfl) (Ex.move rfl) ?_
  refine WL.u rfl rfl (Wt.plain rfl) (Ex.move rfl) ?_
  refine WL.u rfl rfl (Wt.plain rfl) (Ex.neq rfl rfl) ?_
  refine WL.next ?_
  refine WC.condF rfl (by simp) ?_
  refine WC.skip ?_
  refine WN.next ?_
  refine WC.seq ?_
  refine WC.region ?_
  refine WL.u rfl rfl (Wt.plain rfl) (Ex.move rfl) ?_
  refine WL.u rfl rfl (Wt.plain rfl) (Ex.move rfl) ?_
  refine WL.call callable24 rfl (Wt.plain rfl) rfl rfl (iCountPorts n m _) ?_
  rintro _ wn ⟨x, rfl, hC, hN⟩; obtain ⟨b48, cap48, cur48, rfl, hge48, hbb48, ho48⟩ := hN.own; replace hH := hH.push hC hge48 hbb48; clear hC hN
  refine WL.u rfl rfl (Wt.plain rfl) (Ex.move rfl) ?_
  refine WL.u rfl rfl (Wt.plain rfl) (Ex.extract rfl rfl) ?_
  refine WL.u rfl rfl (Wt.plain rfl) (Ex.extract rfl rfl) ?_
  refine WL.u rfl rfl (Wt.plain rfl) (Ex.assign rfl) ?_
  refine WL.u rfl rfl (Wt.plain rfl) (Ex.assign rfl) ?_
  refine WL.next ?_
  refine WC.seq ?_
  refine WC.seq ?_
  refine WC.region ?_
  refine WL.u rfl rfl (Wt.plain rfl) (Ex.move rfl) ?_
  refine WL.u rfl rfl (Wt.plain rfl) (Ex.move rfl) ?_
  refine WL.call callable25 rfl (Wt.plain rfl) rfl rfl (eqIntS ((countPorts n m).1) ((countPorts n m).1) _ _ _ _ _ (ho48.slAt hH 0 rfl) (ho16.slAt hH 2 rfl)) ?_
  rintro _ wn ⟨rfl, hC⟩; replace hH := hH.dr hC; clear hC
  refine WL.u rfl rfl (Wt.plain rfl) (Ex.not rfl) ?_
  refine WL.u rfl rfl (Wt.plain rfl) (Ex.move rfl) ?_
  refine WL.split (t := 55) rfl (fun hg14_4 => ?_) (fun hg14_4 => ?_)
  · exfalso; simp at hg14_4
  have hg14_4' := hg14_4; try simp only [decide_eq_true_eq, decide_eq_false_iff_not, Bool.not_eq_true', Bool.not_eq_false', Bool.not_eq_true, Bool.not_eq_false] at hg14_4'
  refine WL.u rfl rfl (Wt.guard' rfl rfl rfl hg14_4 rfl) (Ex.move rfl) ?_
  refine WL.u rfl rfl (Wt.guard' rfl rfl rfl hg14_4 rfl) (Ex.move rfl) ?_
  refine WL.u rfl rfl (Wt.guard' rfl rfl rfl hg14_4 rfl) (Ex.neqB Try.underlying4 rfl rfl) ?_
  refine WL.u rfl rfl (Wt.plain rfl) (Ex.pickF rfl hg14_4 rfl) ?_
  refine WL.next ?_
  refine WC.condF rfl (by simp) ?_
  refine WC.skip ?_
  refine WN.next ?_
  refine WC.seq ?_
  refine WC.region ?_
  refine WL.u rfl rfl (Wt.plain rfl) (Ex.assign rfl) ?_
  refine WL.next ?_
  refine WC.seq ?_
  refine WC.region ?_
  refine WL.u rfl rfl (Wt.plain rfl) (Ex.move rfl) ?_
  refine WL.u rfl rfl (Wt.plain rfl) (Ex.move rfl) ?_
  refine WL.call callable27 rfl (Wt.plain rfl) rfl rfl (heldIntS (some ⟨b22, 0, none⟩) cap22 1 ((countPorts n m).1).length _ (ho22.slAt hH 1 rfl) (by omega) (by omega)) ?_
  rintro _ _ ⟨rfl, hw⟩; obtain rfl := hw.symm
  refine WL.u rfl rfl (Wt.plain rfl) (Ex.assign rfl) ?_
  refine WL.next ?_
  refine WC.seq ?_
  refine WC.seq ?_
  refine WC.region ?_
  refine WL.u rfl rfl (Wt.plain rfl) (Ex.move rfl) ?_
  refine WL.u rfl rfl (Wt.plain rfl) (Ex.lss rfl rfl) ?_
  refine WL.next ?_
  refine WC.condF rfl (decide_eq_false (by omega)) ?_
  refine WC.skip ?_
  refine WN.next ?_
  refine WC.seq ?_
  refine WC.seq ?_
  refine WC.region ?_
  refine WL.u rfl rfl (Wt.plain rfl) (Ex.move rfl) ?_
  refine WL.u rfl rfl (Wt.plain rfl) (Ex.move rfl) ?_
  refine WL.u rfl rfl (Wt.plain rfl) (Ex.neq rfl rfl) ?_
  refine WL.next ?_
  refine WC.condF rfl (by simp) ?_
  refine WC.skip ?_
  refine WN.next ?_
  refine WC.seq ?_
  refine WC.region ?_
  refine WL.u rfl rfl (Wt.plain rfl) (Ex.assign rfl) ?_
  refine WL.next ?_
  refine WC.ret ?_
  refine WN.body1 rfl rfl ?_
  exact ⟨rfl, hH.keep⟩

end Go.Proofs.Ytmdjekikefbhpaa
