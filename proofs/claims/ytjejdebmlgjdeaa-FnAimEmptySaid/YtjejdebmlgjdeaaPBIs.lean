/- Proofs of beams are compared; where a beam ends. -/
import Derived.Test.YtjejdebmlgjdeaaLawPB
namespace Go.Proofs.Ytjejdebmlgjdeaa
set_option maxRecDepth 100000
set_option linter.unusedSimpArgs false
set_option linter.unusedVariables false
open Go Go.RowKit

def beamEnd (g : Grid) (port : Int) : Int × Bool := if portIn g port = true then (((way g port.toNat).2 : Nat), true) else (0, false)
def proofBeamIs (g : Grid) (port : Int) (t : Str) : Int × Bool := if (proofBeam g port).2 = true ∧ (proofBeam g port).1 = t then beamEnd g port else (0, false)
theorem proofBeam_ok (g : Grid) (port : Int) : (proofBeam g port).2 = portIn g port := by
  unfold proofBeam; split
  · next h => exact h.symm
  · next h => simpa using h
theorem portIn_ex {g : Grid} {port : Int} (h : portIn g port = true) : GridOk g ∧ ∃ p : Nat, port = (p : Int) ∧ p < ports g := by
  simp only [portIn, Bool.and_eq_true, decide_eq_true_eq] at h
  obtain ⟨hG1, hp0, hpl⟩ := h
  obtain ⟨p, rfl⟩ := Int.eq_ofNat_of_zero_le hp0
  exact ⟨(gridOk_iff g).1 hG1, p, rfl, by omega⟩

theorem iBeamEnd (g : Grid) (a : Option Addr) (cap : Nat) (port : Int) (w : World) (hg : Sl rStr w a g) (hs : Short g) : Fn Try.prog 23 [.slice a g.length cap, vint port] w (fun v w1 => v = .tuple #[vint (beamEnd g port).1, .bool (beamEnd g port).2] ∧ Keep [] w w1) := by
  refine Fn.enter (n := 19) Try.func23 rfl rfl rfl ?_
  show WC _ _ _ _ [(0, .slice a g.length cap), (1, vint port)] _
  have hH := Hp.start [] w
  refine WC.seq ?_
  refine WC.region ?_
  refine WL.u rfl rfl (Wt.plain rfl) (Ex.assign rfl) ?_
  refine WL.u rfl rfl (Wt.plain rfl) (Ex.assign rfl) ?_
  refine WL.next ?_
  refine WC.seq ?_
  refine WC.seq ?_
  refine WC.region ?_
  refine WL.u rfl rfl (Wt.plain rfl) (Ex.move rfl) ?_
  refine WL.u rfl rfl (Wt.plain rfl) (Ex.move rfl) ?_
  refine WL.call callable57 rfl (Wt.plain rfl) rfl rfl (iportOk _ _ _ _ _ (hg.kept hH.keep) hs) ?_
  rintro _ _ ⟨rfl, hw⟩; obtain rfl := hw.symm
  refine WL.u rfl rfl (Wt.plain rfl) (Ex.not rfl) ?_
  refine WL.next ?_
  refine WC.cond rfl (fun hc1 => ?_) (fun hc1 => ?_)
  · have hc1' := hc1; try simp only [decide_eq_true_eq, decide_eq_false_iff_not, Bool.not_eq_true', Bool.not_eq_false', Bool.not_eq_true, Bool.not_eq_false] at hc1'
    have hpi : portIn g port = false := by simpa using hc1
    refine WC.seq ?_
    refine WC.region ?_
    refine WL.u rfl rfl (Wt.plain rfl) (Ex.assign rfl) ?_
    refine WL.u rfl rfl (Wt.plain rfl) (Ex.assign rfl) ?_
    refine WL.next ?_
    refine WC.ret ?_
    refine WN.retThen ?_
    refine WN.body2 rfl rfl rfl ?_
    exact ⟨by rw [beamEnd, hpi]; rfl, hH.keep⟩
  have hc1' := hc1; try simp only [decide_eq_true_eq, decide_eq_false_iff_not, Bool.not_eq_true', Bool.not_eq_false', Bool.not_eq_true, Bool.not_eq_false] at hc1'
  have hpi : portIn g port = true := by simpa using hc1
  have hpi2 := portIn_ex hpi
  obtain ⟨hG, p, rfl, hp⟩ := hpi2
  refine WC.skip ?_
  refine WN.next ?_
  refine WC.seq ?_
  refine WC.region ?_
  refine WL.u rfl rfl (Wt.plain rfl) (Ex.move rfl) ?_
  refine WL.u rfl rfl (Wt.plain rfl) (Ex.move rfl) ?_
  refine WL.call callable58 rfl (Wt.plain rfl) rfl rfl (ibeam _ _ _ _ _ (hg.kept hH.keep) hG hp) ?_
  rintro _ wn ⟨x, rfl, hC, hN1⟩; replace hH := hH.call hC; obtain ⟨b1, cap1, cur1, rfl, _, hb1, ho1⟩ := hN1.own
  refine WL.u rfl rfl (Wt.plain rfl) (Ex.move rfl) ?_
  refine WL.u rfl rfl (Wt.plain rfl) (Ex.extract rfl rfl) ?_
  refine WL.u rfl rfl (Wt.plain rfl) (Ex.extract rfl rfl) ?_
  refine WL.u rfl rfl (Wt.plain rfl) (Ex.assign rfl) ?_
  refine WL.u rfl rfl (Wt.plain rfl) (Ex.assign rfl) ?_
  refine WL.next ?_
  refine WC.seq ?_
  refine WC.region ?_
  refine WL.u rfl rfl (Wt.plain rfl) (Ex.move rfl) ?_
  refine WL.u rfl rfl (Wt.plain rfl) (Ex.assign rfl) ?_
  refine WL.u rfl rfl (Wt.plain rfl) (Ex.assign rfl) ?_
  refine WL.next ?_
  refine WC.ret ?_
  refine WN.body2 rfl rfl rfl ?_
  exact ⟨by rw [beamEnd, if_pos hpi]; rfl, hH.keep⟩

end Go.Proofs.Ytjejdebmlgjdeaa
