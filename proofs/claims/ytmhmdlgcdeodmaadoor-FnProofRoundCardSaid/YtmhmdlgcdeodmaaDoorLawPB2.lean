/- The law: proofs of beams are checked. -/
import Derived.Test.YtmhmdlgcdeodmaaDoorLawBB
import Derived.Test.YtmhmdlgcdeodmaaDoorBLen
namespace Go.Proofs.YtmhmdlgcdeodmaaDoor
set_option maxRecDepth 100000
set_option linter.unusedSimpArgs false
set_option linter.unusedVariables false
open Go Go.RowKit

theorem proof_beam_all {g : Grid} {port : Int} (h : (proofBeam g port).2 = true) : proofBeamIs g port (proofBeam g port).1 = beamEnd g port ∧ (beamEnd g port).2 = true ∧ portIn g port = true ∧ (proofBeam g port).1.length = (beamWay g port).length + 5 ∧ (beamWay g port).length ≤ 1000 := by
  have hpi := (proofBeam_ok g port).symm.trans h
  obtain ⟨hG, p, rfl, hp⟩ := portIn_ex hpi
  refine ⟨if_pos ⟨h, rfl⟩, by rw [beamEnd_at hG hp], hpi, ?_, ?_⟩
  · rw [proofBeam_at hG hp, beamWay, if_pos hpi]
    simp
  · have := way_len g p
    have := cells_le hG
    rw [beamWay, if_pos hpi, List.length_map]
    show (way g p).1.length ≤ 1000
    omega

end Go.Proofs.YtmhmdlgcdeodmaaDoor
