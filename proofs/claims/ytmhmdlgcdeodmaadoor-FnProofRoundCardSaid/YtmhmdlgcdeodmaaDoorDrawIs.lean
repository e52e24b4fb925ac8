/- A text out of a list; the draw of a grid, a port and a text. -/
import Derived.Test.YtmhmdlgcdeodmaaDoorLawPB2
namespace Go.Proofs.YtmhmdlgcdeodmaaDoor
set_option maxRecDepth 100000
set_option linter.unusedSimpArgs false
set_option linter.unusedVariables false
open Go Go.RowKit

theorem Own.strs (L : List Str) (h : L.length ≤ 1000) : Own rStr (L.map rStr.val).toArray L.length L := by
  refine ⟨by simp [show rStr.sz = 1 from rfl], Nat.le_refl _, by omega, ?_⟩
  unfold Rw
  rw [flat_one rfl, show rStr.sz = 1 from rfl, Nat.mul_one]
  exact List.take_of_length_le (by simp)
theorem proofBeam_len (g : Grid) (port : Int) : (proofBeam g port).1.length ≤ 1005 := by
  by_cases h : (proofBeam g port).2 = true
  · have := proof_beam_all h
    omega
  · have hpi : portIn g port = false := by rw [← proofBeam_ok]; simpa using h
    rw [proofBeam, hpi]; simp

theorem sof (r : Nat) (a : Option Addr) (l : List UInt8) (cap p : Nat) (la : Option Addr) (L : List Str) (lcap : Nat) (w : World) (hr : w.heap[r]? = some (rdo a l.length cap p)) (hc : Sl rByte w a l) (hca : Off [r] a l) (hl : l.length ≤ 2000) (hp : p ≤ 900000) (hg : Sl rStr w la L) (hga : Off [r] la L) (hL : 1 ≤ L.length ∧ L.length ≤ 1000) : Fn Tryd.prog 45 [vptr r 0, .slice la L.length lcap] w (fun v w1 => ∃ s, s ∈ L ∧ v = vstr s ∧ Keep [r] w w1 ∧ w1.heap[r]? = some (rdo a l.length cap (p + 1))) := by
  refine Fn.enter (n := 12) Tryd.func45 rfl rfl rfl ?_
  show WC _ _ _ _ [(0, vptr r 0), (1, .slice la L.length lcap)] _
  have hH := Hp.at1 hr
  obtain ⟨b, off, rfl⟩ := hg.addr (by omega)
  refine WC.seq ?_
  refine WC.region ?_
  refine WL.u rfl rfl (Wt.plain rfl) (Ex.assign rfl) ?_
  refine WL.next ?_
  refine WC.seq ?_
  have hk0 : ∀ k : Nat, k < max L.length 1 → L[k]? = some (L.getD k []) := fun k hk => getD_get L k [] (by omega)
  refine WC.region ?_
  refine WL.u rfl rfl (Wt.plain rfl) (Ex.move rfl) ?_
  refine WL.u rfl rfl (Wt.plain rfl) (Ex.move rfl) ?_
  refine WL.u rfl rfl (Wt.plain rfl) (Ex.move rfl) ?_
  refine WL.u rfl rfl (Wt.plain rfl) (Ex.lenSl Tryd.underlying23 rfl) ?_
  refine WL.call callable44 rfl (Wt.plain rfl) rfl rfl (spick _ _ _ _ _ L.length _ (hH.at 0 rfl) (hc.keepO hH.keep hca) hca hl (by omega) (by omega)) ?_
  rintro _ wn ⟨k, rfl, hk, hKK, ho⟩; replace hH := hH.turn hKK ho; clear hKK ho
  refine WL.u rfl rfl (Wt.plain rfl) (Ex.indexAddr Tryd.underlying23 ty9 rfl rfl (by omega)) ?_
  refine WL.u rfl rfl (Wt.plain rfl) (Ex.loadSl flat9 (hg.keepO hH.keep hga) rfl rfl (hk0 k hk)) ?_
  refine WL.u rfl rfl (Wt.plain rfl) (Ex.assign rfl) ?_
  refine WL.next ?_
  refine WC.ret ?_
  refine WN.body1 rfl rfl ?_
  exact ⟨_, List.mem_of_getElem? (hk0 k hk), rfl, hH.keep, hH.at 0 rfl⟩


theorem beamIs_end {g : Grid} {port : Int} {t : Str} (h : (proofBeamIs g port t).2 = true) : proofBeamIs g port t = beamEnd g port := by
  unfold proofBeamIs at h ⊢
  split
  · rfl
  · next hn => rw [if_neg hn] at h; cases h

end Go.Proofs.YtmhmdlgcdeodmaaDoor
