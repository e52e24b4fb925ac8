/- Proofs of beams are compared; where a beam ends. -/
import Derived.Test.YtmlkabddhdkpaaaLawPB
namespace Go.Proofs.Ytmlkabddhdkpaaa
set_option maxRecDepth 100000
set_option linter.unusedSimpArgs false
set_option linter.unusedVariables false
open Go Go.RowKit

def beamEnd (g : Grid) (port : Int) : Int × Bool := if portIn g port = true then (((way g port.toNat).2 : Nat), true) else (0, false)
def proofBeamIs (g : Grid) (port : Int) (t : Str) : Int × Bool := if (proofBeam g port).2 = true ∧ (proofBeam g port).1 = t then beamEnd g port else (0, false)
theorem proofBeam_ok (g : Grid) (port : Int) : (proofBeam g port).2 = portIn g port := by
  unfold proofBeam; split
  · next h => exact h.symm
  · next h => simpa using h
theorem portIn_ex {g : Grid} {port : Int} (h : portIn g port = true) : GridOk g ∧ ∃ p : Nat, port = (p : Int) ∧ p < ports g := by
  simp only [portIn, Bool.and_eq_true, decide_eq_true_eq] at h
  obtain ⟨hG1, hp0, hpl⟩ := h
  obtain ⟨p, rfl⟩ := Int.eq_ofNat_of_zero_le hp0
  exact ⟨(gridOk_iff g).1 hG1, p, rfl, by omega⟩

end Go.Proofs.Ytmlkabddhdkpaaa
