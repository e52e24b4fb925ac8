/- Aiming by trying: the first grid of least cost. -/
import Derived.Test.YtnilefmlbedfcaaLawAM
import Derived.Test.YtnilefmlbedfcaaTry
namespace Go.Proofs.Ytnilefmlbedfcaa
set_option maxRecDepth 100000
set_option linter.unusedSimpArgs false
set_option linter.unusedVariables false
open Go Go.RowKit

theorem Hp.at2 {w : World} {r s : Nat} {o o' : Obj} (hr : w.heap[r]? = some o) (hs : w.heap[s]? = some o') (hne : r ≠ s) : Hp [r, s] w w [(r, o), (s, o')] :=
  ⟨Keep.refl _ w, by
    intro p hp
    rcases List.mem_cons.1 hp with rfl | hp
    · exact hr
    · rw [List.mem_singleton.1 hp]; exact hs, by
    intro p hp
    rcases List.mem_cons.1 hp with rfl | hp
    · exact .inr (by simp)
    · rw [List.mem_singleton.1 hp]; exact .inr (by simp), by simp [hne]⟩
def costN (g : Grid) (k : Nat) : Nat := apart g (numG (nR g) (nC g) k)
def best (g : Grid) (p q N : Nat) : Option (Nat × Nat) := tryN (costN g) (endN (nR g) (nC g) p) q N
def aimRes (g : Grid) (p q : Int) : Grid × Int × Bool := if aimB g p q 6 = true then match best g p.toNat q.toNat (3 ^ (nR g * nC g)) with
  | none => ([], 0, false)
  | some r => (numG (nR g) (nC g) r.2, (r.1 : Int), true) else ([], 0, false)
theorem aimRes_at {g : Grid} {p q : Nat} (h : aimB g p q 6 = true) {r : Nat × Nat} (hr : best g p q (3 ^ (nR g * nC g)) = some r) : aimRes g p q = (numG (nR g) (nC g) r.2, (r.1 : Int), true) := by
  rw [aimRes, if_pos h]
  show (match best g p q (3 ^ (nR g * nC g)) with
    | none => ([], 0, false)
    | some r => (numG (nR g) (nC g) r.2, (r.1 : Int), true)) = _
  rw [hr]
theorem best_spec {g : Grid} {p q N : Nat} {r : Nat × Nat} (hr : best g p q N = some r) : r.2 < N ∧ endN (nR g) (nC g) p r.2 = q ∧ costN g r.2 = r.1 ∧ ∀ k, k < N → endN (nR g) (nC g) p k = q → r.1 ≤ costN g k := by
  obtain ⟨c, j⟩ := r
  exact tryN_some hr
theorem best_some {g : Grid} {p q : Nat} (hG : GridOk g) (hp : p < ports g) (hq : q < ports g) (hpq : p ≠ q) (h9 : nR g * nC g ≤ 9) : ∃ r, best g p q (3 ^ (nR g * nC g)) = some r := by
  cases e : best g p q (3 ^ (nR g * nC g)) with
  | some r => exact ⟨r, rfl⟩
  | none =>
    exfalso
    obtain ⟨h, hH, hn, hm, hw⟩ := some_leads hG.n1 hG.n5 hG.m1 hG.m5 h9 (p := p) (q := q) hp hq hpq
    obtain ⟨k, hk, he⟩ := numG_surj hH
    rw [hn, hm] at hk he
    exact tryN_none e k hk (by unfold endN; rw [he]; exact hw)

theorem icost (g h : Grid) (a a2 : Option Addr) (cap cap2 : Nat) (w : World) (hg : Sl rStr w a g) (hh : Sl rStr w a2 h) (hG : GridOk g) (hGh : GridOk h) (hn : nR h = nR g) (hm : nC h = nC g) : Fn Try.prog 69 [.slice a g.length cap, .slice a2 h.length cap2] w (fun v w1 => v = vint (apart g h : Nat) ∧ Dr w w1) := by
  refine Fn.enter (n := 39) Try.func69 rfl rfl rfl ?_
  show WC _ _ _ _ [(0, .slice a g.length cap), (1, .slice a2 h.length cap2)] _
  have hD := Dr.refl w
  have hn1 := hG.n1
  have hn5 := hG.n5
  have hm5 := hG.m5
  have hrg := hG.row
  have hrh := hGh.row
  dsimp only [nR, nC] at hn hm
  obtain ⟨b, off, rfl⟩ := hg.addr (by omega)
  obtain ⟨b2, off2, rfl⟩ := hh.addr (by omega)
  refine WC.seq ?_
  refine WC.region ?_
  refine WL.u rfl rfl (Wt.plain rfl) (Ex.assign rfl) ?_
  refine WL.next ?_
  refine WC.seq ?_
  refine WC.region ?_
  refine WL.u rfl rfl (Wt.plain rfl) (Ex.assign rfl) ?_
  refine WL.next ?_
  refine WC.seq ?_
  refine WC.seq ?_
  refine WC.region ?_
  refine WL.u rfl rfl (Wt.plain rfl) (Ex.move rfl) ?_
  refine WL.u rfl rfl (Wt.plain rfl) (Ex.lenSl Try.underlying22 rfl) ?_
  refine WL.u rfl rfl (Wt.plain rfl) (Ex.move rfl) ?_
  refine WL.next ?_
  refine WC.block ?_
  refine WC.loop (ι := Nat) (fun i => [(0, .slice (some ⟨b, off, none⟩) g.length cap), (1, .slice (some ⟨b2, off2, none⟩) h.length cap2), (5, vint (apartN g h i : Nat)), (9, vint g.length), (10, vint i)]) (fun i wn => Dr w wn ∧ i ≤ g.length) (fun i => g.length - i) (0) (by exact ⟨rfl, rfl, rfl, rfl, rfl, trivial⟩) ?_ ?_
  · exact ⟨hD, Nat.zero_le _⟩
  rintro i wn ⟨hD, hi⟩
  intro mu0 hmu; try dsimp only at hmu
  show WC _ _ _ _ [(0, .slice (some ⟨b, off, none⟩) g.length cap), (1, .slice (some ⟨b2, off2, none⟩) h.length cap2), (5, vint (apartN g h i : Nat)), (9, vint g.length), (10, vint i)] _
  refine WC.seq ?_
  refine WC.region ?_
  refine WL.u rfl rfl (Wt.plain rfl) (Ex.lss rfl rfl) ?_
  refine WL.next ?_
  refine WC.seq ?_
  refine WC.cond rfl (fun hc1 => ?_) (fun hc1 => ?_)
  · have hc1' := hc1; try simp only [decide_eq_true_eq, decide_eq_false_iff_not, Bool.not_eq_true', Bool.not_eq_false', Bool.not_eq_true, Bool.not_eq_false] at hc1'
    have hlt : i < g.length := by omega
    have hr1 := hrg i hlt
    have hr2 := hrh i (by omega)
    refine WC.skip ?_
    refine WN.next ?_
    refine WC.seq ?_
    refine WC.block ?_
    refine WC.seq ?_
    refine WC.region ?_
    refine WL.u rfl rfl (Wt.plain rfl) (Ex.move rfl) ?_
    refine WL.u rfl rfl (Wt.plain rfl) (Ex.assign rfl) ?_
    refine WL.next ?_
    refine WC.seq ?_
    refine WC.region ?_
    refine WL.u rfl rfl (Wt.plain rfl) (Ex.move rfl) ?_
    refine WL.u rfl rfl (Wt.plain rfl) (Ex.move rfl) ?_
    refine WL.u rfl rfl (Wt.plain rfl) (Ex.indexAddr Try.underlying22 ty9 rfl rfl (by omega)) ?_
    refine WL.u rfl rfl (Wt.plain rfl) (Ex.loadSl flat9 (hg.dr hD) rfl rfl (getD_get g i [] hlt)) ?_
    refine WL.u rfl rfl (Wt.plain rfl) (Ex.lenStr Try.underlying9 rfl) ?_
    refine WL.u rfl rfl (Wt.plain rfl) (Ex.move rfl) ?_
    refine WL.next ?_
    refine WC.block ?_
    refine WC.loop (ι := Nat) (fun k => [(0, .slice (some ⟨b, off, none⟩) g.length cap), (1, .slice (some ⟨b2, off2, none⟩) h.length cap2), (5, vint (apartN g h i + apartRow (g.getD i []) (h.getD i []) k : Nat)), (6, vint i), (9, vint g.length), (10, vint i), (17, vint (g.getD i []).length), (18, vint k)]) (fun k wn => Dr w wn ∧ k ≤ (g.getD i []).length) (fun k => (g.getD i []).length - k) (0) (by exact ⟨rfl, rfl, rfl, rfl, rfl, rfl, rfl, rfl, trivial⟩) ?_ ?_
    · exact ⟨hD, Nat.zero_le _⟩
    rintro k wn ⟨hD, hk⟩
    intro mu0 hmu; try dsimp only at hmu
    show WC _ _ _ _ [(0, .slice (some ⟨b, off, none⟩) g.length cap), (1, .slice (some ⟨b2, off2, none⟩) h.length cap2), (5, vint (apartN g h i + apartRow (g.getD i []) (h.getD i []) k : Nat)), (6, vint i), (9, vint g.length), (10, vint i), (17, vint (g.getD i []).length), (18, vint k)] _
    refine WC.seq ?_
    refine WC.region ?_
    refine WL.u rfl rfl (Wt.plain rfl) (Ex.lss rfl rfl) ?_
    refine WL.next ?_
    refine WC.seq ?_
    refine WC.cond rfl (fun hc2 => ?_) (fun hc2 => ?_)
    · have hc2' := hc2; try simp only [decide_eq_true_eq, decide_eq_false_iff_not, Bool.not_eq_true', Bool.not_eq_false', Bool.not_eq_true, Bool.not_eq_false] at hc2'
      have hlk : k < (g.getD i []).length := by omega
      have hA1 := apartN_le g h 5 i (fun j hj => by rw [hrg j (by omega)]; exact hm5)
      have hA2 := apartRow_le (g.getD i []) (h.getD i []) k
      refine WC.skip ?_
      refine WN.next ?_
      refine WC.seq ?_
      refine WC.block ?_
      refine WC.seq ?_
      refine WC.region ?_
      refine WL.u rfl rfl (Wt.plain rfl) (Ex.move rfl) ?_
      refine WL.u rfl rfl (Wt.plain rfl) (Ex.assign rfl) ?_
      refine WL.next ?_
      refine WC.seq ?_
      refine WC.quiet rfl (by kernel_rfl) ?_
      refine WQ.u rfl rfl (Wt.plain rfl) (fun w hC => Ex.move rfl) ?_
      refine WQ.u rfl rfl (Wt.plain rfl) (fun w hC => Ex.move rfl) ?_
      refine WQ.u rfl rfl (Wt.plain rfl) (fun w hC => Ex.indexAddr Try.underlying22 ty9 rfl rfl (by omega)) ?_
      refine WQ.u rfl rfl (Wt.plain rfl) (fun w hC => Ex.loadSl flat9 (hg.dr (hD.trans hC)) rfl rfl (getD_get g i [] hlt)) ?_
      refine WQ.u rfl rfl (Wt.plain rfl) (fun w hC => Ex.move rfl) ?_
      refine WQ.u rfl rfl (Wt.plain rfl) (fun w hC => Ex.indexStr Try.underlying9 rfl rfl (by (try simp only [List.length_cons, List.length_nil]); omega)) ?_
      refine WQ.u rfl rfl (Wt.plain rfl) (fun w hC => Ex.move rfl) ?_
      refine WQ.u rfl rfl (Wt.plain rfl) (fun w hC => Ex.move rfl) ?_
      refine WQ.u rfl rfl (Wt.plain rfl) (fun w hC => Ex.indexAddr Try.underlying22 ty9 rfl rfl (by omega)) ?_
      refine WQ.u rfl rfl (Wt.plain rfl) (fun w hC => Ex.loadSl flat9 (hh.dr (hD.trans hC)) rfl rfl (getD_get h i [] (by omega))) ?_
      refine WQ.u rfl rfl (Wt.plain rfl) (fun w hC => Ex.move rfl) ?_
      refine WQ.u rfl rfl (Wt.plain rfl) (fun w hC => Ex.indexStr Try.underlying9 rfl rfl (by (try simp only [List.length_cons, List.length_nil]); omega)) ?_
      refine WQ.u rfl rfl (Wt.plain rfl) (fun w hC => Ex.neq rfl rfl) ?_
      refine WQ.nil ?_
      intro wn hC; replace hD := hD.trans hC; clear hC
      refine WN.next ?_
      refine WC.cond rfl (fun hc3 => ?_) (fun hc3 => ?_)
      · have hc3' := hc3; try simp only [decide_eq_true_eq, decide_eq_false_iff_not, Bool.not_eq_true', Bool.not_eq_false', Bool.not_eq_true, Bool.not_eq_false] at hc3'
        refine WC.region ?_
        refine WL.u rfl rfl (Wt.plain rfl) (Ex.move rfl) ?_
        refine WL.u rfl rfl (Wt.plain rfl) (Ex.add rfl rfl (by omega)) ?_
        refine WL.u rfl rfl (Wt.plain rfl) (Ex.assign rfl) ?_
        refine WL.last ?_
        refine WN.normalBlock ?_
        refine WN.next ?_
        refine WC.region ?_
        refine WL.u rfl rfl (Wt.plain rfl) (Ex.add rfl rfl (by omega)) ?_
        refine WL.u rfl rfl (Wt.plain rfl) (Ex.move rfl) ?_
        refine WL.last ?_
        refine WN.round (k + 1) (by exact ⟨rfl, rfl, congrArg (fun x : Int => some (vint x)) (show ((apartN g h i + apartRow (g.getD i []) (h.getD i []) k : Nat) : Int) + 1 = ((apartN g h i + apartRow (g.getD i []) (h.getD i []) (k + 1) : Nat) : Int) by rw [apartRow, if_neg (show ¬ (g.getD i []).getD k 0 = (h.getD i []).getD k 0 from fun e => absurd (congrArg (fun c : UInt8 => (c.toNat : Int)) e) (of_decide_eq_true hc3))]; omega), rfl, rfl, rfl, rfl, rfl, trivial⟩) ?_ ?_
        · exact ⟨hD, by omega⟩
        · (try dsimp only); omega
      have hc3' := hc3; try simp only [decide_eq_true_eq, decide_eq_false_iff_not, Bool.not_eq_true', Bool.not_eq_false', Bool.not_eq_true, Bool.not_eq_false] at hc3'
      refine WC.skip ?_
      refine WN.normalBlock ?_
      refine WN.next ?_
      refine WC.region ?_
      refine WL.u rfl rfl (Wt.plain rfl) (Ex.add rfl rfl (by omega)) ?_
      refine WL.u rfl rfl (Wt.plain rfl) (Ex.move rfl) ?_
      refine WL.last ?_
      refine WN.round (k + 1) (by exact ⟨rfl, rfl, congrArg (fun x : Int => some (vint x)) (show ((apartN g h i + apartRow (g.getD i []) (h.getD i []) k : Nat) : Int) = ((apartN g h i + apartRow (g.getD i []) (h.getD i []) (k + 1) : Nat) : Int) by rw [apartRow, if_pos (show (g.getD i []).getD k 0 = (h.getD i []).getD k 0 from UInt8.toNat_inj.1 (Int.ofNat.inj (Classical.not_not.1 (of_decide_eq_false hc3))))]; omega), rfl, rfl, rfl, rfl, rfl, trivial⟩) ?_ ?_
      · exact ⟨hD, by omega⟩
      · (try dsimp only); omega
    have hc2' := hc2; try simp only [decide_eq_true_eq, decide_eq_false_iff_not, Bool.not_eq_true', Bool.not_eq_false', Bool.not_eq_true, Bool.not_eq_false] at hc2'
    have hkl : k = (g.getD i []).length := by omega
    refine WC.exit ?_
    refine WN.exitThen ?_
    refine WN.exitThen ?_
    refine WN.exitHere ?_
    refine WN.normalBlock ?_
    refine WN.next ?_
    refine WC.region ?_
    refine WL.u rfl rfl (Wt.plain rfl) (Ex.add rfl rfl (by omega)) ?_
    refine WL.u rfl rfl (Wt.plain rfl) (Ex.move rfl) ?_
    refine WL.last ?_
    refine WN.round (i + 1) (by exact ⟨rfl, rfl, congrArg (fun x : Nat => some (vint x)) (show _ = apartN g h (i + 1) by rw [apartN, hkl]), rfl, rfl, trivial⟩) ?_ ?_
    · exact ⟨hD, by omega⟩
    · (try dsimp only); omega
  have hc1' := hc1; try simp only [decide_eq_true_eq, decide_eq_false_iff_not, Bool.not_eq_true', Bool.not_eq_false', Bool.not_eq_true, Bool.not_eq_false] at hc1'
  refine WC.exit ?_
  refine WN.exitThen ?_
  refine WN.exitThen ?_
  refine WN.exitHere ?_
  refine WN.next ?_
  refine WC.seq ?_
  refine WC.region ?_
  refine WL.u rfl rfl (Wt.plain rfl) (Ex.move rfl) ?_
  refine WL.u rfl rfl (Wt.plain rfl) (Ex.assign rfl) ?_
  refine WL.next ?_
  refine WC.ret ?_
  refine WN.body1 rfl rfl ?_
  have hiN : i = g.length := by omega
  exact ⟨by rw [hiN]; rfl, hD⟩


def bestC (r : Option (Nat × Nat)) : Int := match r with
  | none => -1
  | some r => (r.1 : Int)
def bestF (r : Option (Nat × Nat)) : Nat := match r with
  | none => 0
  | some r => r.2
theorem best_le {g : Grid} (hG : GridOk g) (p q N : Nat) : -1 ≤ bestC (best g p q N) ∧ bestC (best g p q N) ≤ 25 := by
  cases e : best g p q N with
  | none => exact ⟨by decide, by decide⟩
  | some r =>
    obtain ⟨c, j⟩ := r
    have h1 := (tryN_some e).2.2.1
    have h2 := apart_le hG (numG (nR g) (nC g) j)
    have h3 : nR g * nC g ≤ 25 := Nat.mul_le_mul hG.n5 hG.m5
    unfold costN at h1
    show -1 ≤ (c : Int) ∧ (c : Int) ≤ 25
    omega
/-- one more grid -/
theorem best_succ_no {g : Grid} {p q i : Nat} (h : ¬ (endN (nR g) (nC g) p i = q ∧ (bestC (best g p q i) < 0 ∨ (costN g i : Int) < bestC (best g p q i)))) : best g p q (i + 1) = best g p q i := by
  unfold best at *
  rw [tryN]
  cases e : tryN (costN g) (endN (nR g) (nC g) p) q i with
  | none =>
    rw [e] at h
    simp only
    rw [if_neg (fun h1 => h ⟨h1, .inl (by decide)⟩)]
  | some r =>
    rw [e] at h
    simp only
    rw [if_neg (fun h1 => h ⟨h1.1, .inr (Int.ofNat_lt.2 h1.2)⟩)]
theorem best_succ_yes {g : Grid} {p q i : Nat} (h : endN (nR g) (nC g) p i = q ∧ (bestC (best g p q i) < 0 ∨ (costN g i : Int) < bestC (best g p q i))) : best g p q (i + 1) = some (costN g i, i) := by
  unfold best at *
  rw [tryN]
  cases e : tryN (costN g) (endN (nR g) (nC g) p) q i with
  | none =>
    simp only
    rw [if_pos h.1]
  | some r =>
    rw [e] at h
    simp only
    have h2 : costN g i < r.1 := by
      rcases h.2 with h3 | h3
      · exact absurd h3 (by show ¬ ((r.1 : Int) < 0); omega)
      · exact Int.ofNat_lt.1 h3
    rw [if_pos ⟨h.1, h2⟩]

end Go.Proofs.Ytnilefmlbedfcaa
