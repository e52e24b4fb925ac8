/- Aiming by trying: the first grid of least cost. -/
import Derived.Test.YtmlkabddhdkpaaaJnLc
import Derived.Test.YtmlkabddhdkpaaaTry
namespace Go.Proofs.Ytmlkabddhdkpaaa
set_option maxRecDepth 100000
set_option linter.unusedSimpArgs false
set_option linter.unusedVariables false
open Go Go.RowKit

theorem Hp.at2 {w : World} {r s : Nat} {o o' : Obj} (hr : w.heap[r]? = some o) (hs : w.heap[s]? = some o') (hne : r ≠ s) : Hp [r, s] w w [(r, o), (s, o')] :=
  ⟨Keep.refl _ w, by
    intro p hp
    rcases List.mem_cons.1 hp with rfl | hp
    · exact hr
    · rw [List.mem_singleton.1 hp]; exact hs, by
    intro p hp
    rcases List.mem_cons.1 hp with rfl | hp
    · exact .inr (by simp)
    · rw [List.mem_singleton.1 hp]; exact .inr (by simp), by simp [hne]⟩
def costN (g : Grid) (k : Nat) : Nat := apart g (numG (nR g) (nC g) k)
def best (g : Grid) (p q N : Nat) : Option (Nat × Nat) := tryN (costN g) (endN (nR g) (nC g) p) q N
def aimRes (g : Grid) (p q : Int) : Grid × Int × Bool := if aimB g p q 6 = true then match best g p.toNat q.toNat (3 ^ (nR g * nC g)) with
  | none => ([], 0, false)
  | some r => (numG (nR g) (nC g) r.2, (r.1 : Int), true) else ([], 0, false)
theorem aimRes_at {g : Grid} {p q : Nat} (h : aimB g p q 6 = true) {r : Nat × Nat} (hr : best g p q (3 ^ (nR g * nC g)) = some r) : aimRes g p q = (numG (nR g) (nC g) r.2, (r.1 : Int), true) := by
  rw [aimRes, if_pos h]
  show (match best g p q (3 ^ (nR g * nC g)) with
    | none => ([], 0, false)
    | some r => (numG (nR g) (nC g) r.2, (r.1 : Int), true)) = _
  rw [hr]
theorem best_spec {g : Grid} {p q N : Nat} {r : Nat × Nat} (hr : best g p q N = some r) : r.2 < N ∧ endN (nR g) (nC g) p r.2 = q ∧ costN g r.2 = r.1 ∧ ∀ k, k < N → endN (nR g) (nC g) p k = q → r.1 ≤ costN g k := by
  obtain ⟨c, j⟩ := r
  exact tryN_some hr
theorem best_some {g : Grid} {p q : Nat} (hG : GridOk g) (hp : p < ports g) (hq : q < ports g) (hpq : p ≠ q) (h9 : nR g * nC g ≤ 9) : ∃ r, best g p q (3 ^ (nR g * nC g)) = some r := by
  cases e : best g p q (3 ^ (nR g * nC g)) with
  | some r => exact ⟨r, rfl⟩
  | none =>
    exfalso
    obtain ⟨h, hH, hn, hm, hw⟩ := some_leads hG.n1 hG.n5 hG.m1 hG.m5 h9 (p := p) (q := q) hp hq hpq
    obtain ⟨k, hk, he⟩ := numG_surj hH
    rw [hn, hm] at hk he
    exact tryN_none e k hk (by unfold endN; rw [he]; exact hw)


def bestC (r : Option (Nat × Nat)) : Int := match r with
  | none => -1
  | some r => (r.1 : Int)
def bestF (r : Option (Nat × Nat)) : Nat := match r with
  | none => 0
  | some r => r.2
theorem best_le {g : Grid} (hG : GridOk g) (p q N : Nat) : -1 ≤ bestC (best g p q N) ∧ bestC (best g p q N) ≤ 25 := by
  cases e : best g p q N with
  | none => exact ⟨by decide, by decide⟩
  | some r =>
    obtain ⟨c, j⟩ := r
    have h1 := (tryN_some e).2.2.1
    have h2 := apart_le hG (numG (nR g) (nC g) j)
    have h3 : nR g * nC g ≤ 25 := Nat.mul_le_mul hG.n5 hG.m5
    unfold costN at h1
    show -1 ≤ (c : Int) ∧ (c : Int) ≤ 25
    omega
/-- one more grid -/
theorem best_succ_no {g : Grid} {p q i : Nat} (h : ¬ (endN (nR g) (nC g) p i = q ∧ (bestC (best g p q i) < 0 ∨ (costN g i : Int) < bestC (best g p q i)))) : best g p q (i + 1) = best g p q i := by
  unfold best at *
  rw [tryN]
  cases e : tryN (costN g) (endN (nR g) (nC g) p) q i with
  | none =>
    rw [e] at h
    simp only
    rw [if_neg (fun h1 => h ⟨h1, .inl (by decide)⟩)]
  | some r =>
    rw [e] at h
    simp only
    rw [if_neg (fun h1 => h ⟨h1.1, .inr (Int.ofNat_lt.2 h1.2)⟩)]
theorem best_succ_yes {g : Grid} {p q i : Nat} (h : endN (nR g) (nC g) p i = q ∧ (bestC (best g p q i) < 0 ∨ (costN g i : Int) < bestC (best g p q i))) : best g p q (i + 1) = some (costN g i, i) := by
  unfold best at *
  rw [tryN]
  cases e : tryN (costN g) (endN (nR g) (nC g) p) q i with
  | none =>
    simp only
    rw [if_pos h.1]
  | some r =>
    rw [e] at h
    simp only
    have h2 : costN g i < r.1 := by
      rcases h.2 with h3 | h3
      · exact absurd h3 (by show ¬ ((r.1 : Int) < 0); omega)
      · exact Int.ofNat_lt.1 h3
    rw [if_pos ⟨h.1, h2⟩]

end Go.Proofs.Ytmlkabddhdkpaaa
