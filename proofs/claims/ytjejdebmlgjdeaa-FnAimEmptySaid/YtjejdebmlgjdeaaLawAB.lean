/- The laws: aimed grids lead there; aiming from a grid that differs in a cell. -/
import Derived.Test.YtjejdebmlgjdeaaLawAG
import Derived.Test.YtjejdebmlgjdeaaPutW
namespace Go.Proofs.Ytjejdebmlgjdeaa
set_option maxRecDepth 100000
set_option linter.unusedSimpArgs false
set_option linter.unusedVariables false
open Go Go.RowKit
structure Found (g : Grid) (p q : Int) (out : Grid) (c : Int) (a b : Nat) (r : Nat × Nat) : Prop where
  ep : p = a
  eq : q = b
  hG : GridOk g
  hp : a < ports g
  hq : b < ports g
  ne : a ≠ b
  h6 : ((nR g * nC g : Nat) : Int) ≤ 6
  best : best g a b (3 ^ (nR g * nC g)) = some r
  out : out = numG (nR g) (nC g) r.2
  c : c = (r.1 : Int)
theorem aimRes_true {g : Grid} {p q : Int} {out : Grid} {c : Int} (h : aimRes g p q = (out, c, true)) : ∃ a b r, Found g p q out c a b r := by
  cases hai : aimB g p q 6 with
  | false => rw [aimRes_not hai] at h; cases h
  | true =>
    obtain ⟨hG, a, b, rfl, rfl, hp, hq, hpq, h6⟩ := aimB_ex hai
    obtain ⟨r, hr⟩ := best_some hG hp hq hpq (show nR g * nC g ≤ 9 by omega)
    rw [aimRes_at hai hr] at h
    cases h
    exact ⟨a, b, r, rfl, rfl, hG, hp, hq, hpq, h6, hr, rfl, rfl⟩
theorem aimRes_of {g : Grid} {p q : Nat} (hG : GridOk g) (hp : p < ports g) (hq : q < ports g) (hpq : p ≠ q) (h6 : ((nR g * nC g : Nat) : Int) ≤ 6) : ∃ r, best g p q (3 ^ (nR g * nC g)) = some r ∧ aimRes g p q = (numG (nR g) (nC g) r.2, (r.1 : Int), true) := by
  obtain ⟨r, hr⟩ := best_some hG hp hq hpq (show nR g * nC g ≤ 9 by omega)
  exact ⟨r, hr, aimRes_at (aimB_of hG hp hq hpq h6) hr⟩
theorem Found.leads {g : Grid} {p q : Int} {out : Grid} {c : Int} {a b : Nat} {r : Nat × Nat} (h : Found g p q out c a b r) : GridOk out ∧ nR out = nR g ∧ nC out = nC g ∧ ports out = ports g ∧ (way out a).2 = b ∧ (apart g out : Int) = c := by
  have hs := best_spec h.best
  have hG := h.hG
  obtain rfl := h.out
  refine ⟨numG_ok _ hG.n1 hG.n5 hG.m1 hG.m5, gridOf_nR _ _ _, gridOf_nC _ _ hG.n1, numG_ports _ _ hG.n1, hs.2.1, ?_⟩
  rw [h.c, ← hs.2.2.1]; rfl
theorem best_r_le {g : Grid} {p q N : Nat} {r : Nat × Nat} (hG : GridOk g) (h : best g p q N = some r) : r.1 ≤ 25 := by
  have h1 := (best_spec h).2.2.1
  have h2 := apart_le hG (numG (nR g) (nC g) r.2)
  have h3 : nR g * nC g ≤ 25 := Nat.mul_le_mul hG.n5 hG.m5
  unfold costN at h1
  omega
/-- a cost from another grid of the same size -/
theorem best_near {g h : Grid} {p q : Nat} {r s : Nat × Nat} (hG : GridOk g) (hH : GridOk h) (hn : nR h = nR g) (hm : nC h = nC g) (hr : best g p q (3 ^ (nR g * nC g)) = some r) (hs : best h p q (3 ^ (nR g * nC g)) = some s) : s.1 ≤ r.1 + apart g h := by
  obtain ⟨a1, a2, a3, a4⟩ := best_spec hr
  obtain ⟨b1, b2, b3, b4⟩ := best_spec hs
  rw [hn, hm] at b4
  have h1 := b4 r.2 a1 a2
  have h2 := apart_tri hH hG hn.symm hm.symm (k := numG (nR g) (nC g) r.2)
  unfold costN at a3 h1
  rw [hn, hm] at h1
  rw [a3, apart_comm hH hG hn.symm hm.symm] at h2
  omega

end Go.Proofs.Ytjejdebmlgjdeaa
