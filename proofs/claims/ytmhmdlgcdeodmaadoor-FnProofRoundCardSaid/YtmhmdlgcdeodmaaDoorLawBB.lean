/- The law: proofs of beams back are as long. -/
import Derived.Test.YtmhmdlgcdeodmaaDoorDraw
import Derived.Test.YtmhmdlgcdeodmaaDoorMaths
namespace Go.Proofs.YtmhmdlgcdeodmaaDoor
set_option maxRecDepth 100000
set_option linter.unusedSimpArgs false
set_option linter.unusedVariables false
open Go Go.RowKit

theorem proofBeam_at {g : Grid} {p : Nat} (hG : GridOk g) (hp : p < ports g) : proofBeam g (p : Int) = ([98, 101, 97, 109, 32] ++ (way g p).1.map (fun s => dirL s.2), true) := by
  have hpi : portIn g (p : Int) = true := by
    rw [portIn, (gridOk_iff g).2 hG]; simp; omega
  rw [proofBeam, if_pos hpi]; rfl
theorem beamEnd_at {g : Grid} {p : Nat} (hG : GridOk g) (hp : p < ports g) : beamEnd g (p : Int) = ((((way g p).2 : Nat) : Int), true) := by
  have hpi : portIn g (p : Int) = true := by
    rw [portIn, (gridOk_iff g).2 hG]; simp; omega
  rw [beamEnd, if_pos hpi]; rfl
theorem beam_back_len {g : Grid} {port : Int} (h : (proofBeam g port).2 = true) : (beamEnd g port).2 = true ∧ (proofBeam g (beamEnd g port).1).2 = true ∧ (proofBeam g (beamEnd g port).1).1.length = (proofBeam g port).1.length := by
  obtain ⟨hG, p, rfl, hp⟩ := portIn_ex ((proofBeam_ok g port).symm.trans h)
  rw [beamEnd_at hG hp, proofBeam_at hG hp]
  simp only
  rw [proofBeam_at hG (way_end hG.sz hp)]
  refine ⟨trivial, rfl, ?_⟩
  simp only [List.length_append, List.length_map]
  rw [way_back_len hG.sz hp]

end Go.Proofs.YtmhmdlgcdeodmaaDoor
