/- Aiming by trying: the first grid of least cost. -/
import Derived.Test.YtjejdebmlgjdeaaLawAM
import Derived.Test.YtjejdebmlgjdeaaTry
namespace Go.Proofs.Ytjejdebmlgjdeaa
set_option maxRecDepth 100000
set_option linter.unusedSimpArgs false
set_option linter.unusedVariables false
open Go Go.RowKit

theorem Hp.at2 {w : World} {r s : Nat} {o o' : Obj} (hr : w.heap[r]? = some o) (hs : w.heap[s]? = some o') (hne : r ≠ s) : Hp [r, s] w w [(r, o), (s, o')] :=
  ⟨Keep.refl _ w, by
    intro p hp
    rcases List.mem_cons.1 hp with rfl | hp
    · exact hr
    · rw [List.mem_singleton.1 hp]; exact hs, by
    intro p hp
    rcases List.mem_cons.1 hp with rfl | hp
    · exact .inr (by simp)
    · rw [List.mem_singleton.1 hp]; exact .inr (by simp), by simp [hne]⟩
def costN (g : Grid) (k : Nat) : Nat := apart g (numG (nR g) (nC g) k)
def best (g : Grid) (p q N : Nat) : Option (Nat × Nat) := tryN (costN g) (endN (nR g) (nC g) p) q N
def aimRes (g : Grid) (p q : Int) : Grid × Int × Bool := if aimB g p q 6 = true then match best g p.toNat q.toNat (3 ^ (nR g * nC g)) with
  | none => ([], 0, false)
  | some r => (numG (nR g) (nC g) r.2, (r.1 : Int), true) else ([], 0, false)
theorem aimRes_at {g : Grid} {p q : Nat} (h : aimB g p q 6 = true) {r : Nat × Nat} (hr : best g p q (3 ^ (nR g * nC g)) = some r) : aimRes g p q = (numG (nR g) (nC g) r.2, (r.1 : Int), true) := by
  rw [aimRes, if_pos h]
  show (match best g p q (3 ^ (nR g * nC g)) with
    | none => ([], 0, false)
    | some r => (numG (nR g) (nC g) r.2, (r.1 : Int), true)) = _
  rw [hr]
theorem best_spec {g : Grid} {p q N : Nat} {r : Nat × Nat} (hr : best g p q N = some r) : r.2 < N ∧ endN (nR g) (nC g) p r.2 = q ∧ costN g r.2 = r.1 ∧ ∀ k, k < N → endN (nR g) (nC g) p k = q → r.1 ≤ costN g k := by
  obtain ⟨c, j⟩ := r
  exact tryN_some hr
theorem best_some {g : Grid} {p q : Nat} (hG : GridOk g) (hp : p < ports g) (hq : q < ports g) (hpq : p ≠ q) (h9 : nR g * nC g ≤ 9) : ∃ r, best g p q (3 ^ (nR g * nC g)) = some r := by
  cases e : best g p q (3 ^ (nR g * nC g)) with
  | some r => exact ⟨r, rfl⟩
  | none =>
    exfalso
    obtain ⟨h, hH, hn, hm, hw⟩ := some_leads hG.n1 hG.n5 hG.m1 hG.m5 h9 (p := p) (q := q) hp hq hpq
    obtain ⟨k, hk, he⟩ := numG_surj hH
    rw [hn, hm] at hk he
    exact tryN_none e k hk (by unfold endN; rw [he]; exact hw)

theorem icost (g h : Grid) (a a2 : Option Addr) (cap cap2 : Nat) (w : World) (hg : Sl rStr w a g) (hh : Sl rStr w a2 h) (hG : GridOk g) (hGh : GridOk h) (hn : nR h = nR g) (hm : nC h = nC g) : Fn Try.prog 96 [.slice a g.length cap, .slice a2 h.length cap2] w (fun v w1 => v = vint (apart g h : Nat) ∧ Dr w w1) := by
  refine Fn.enter (n := 39) Try.func96 rfl rfl rfl ?_
  show WC _ _ _ _ [(0, .slice a g.length cap), (1, .slice a2 h.length cap2)] _
  have hD := Dr.refl w
  have hn1 := hG.n1
  have hn5 := hG.n5
  have hm5 := hG.m5
  have hrg := hG.row
  have hrh := hGh.row
  dsimp only [nR, nC] at hn hm
  obtain ⟨b, off, rfl⟩ := hg.addr (by omega)
  obtain ⟨b2, off2, rfl⟩ := hh.addr (by omega)
  refine WC.seq ?_
  refine WC.region ?_
  refine WL.u rfl rfl (Wt.plain rfl) (Ex.assign rfl) ?_
  refine WL.next ?_
  refine WC.seq ?_
  refine WC.region ?_
  refine WL.u rfl rfl (Wt.plain rfl) (Ex.assign rfl) ?_
  refine WL.next ?_
  refine WC.seq ?_
  refine WC.seq ?_
  refine WC.region ?_
  refine WL.u rfl rfl (Wt.plain rfl) (Ex.move rfl) ?_
  refine WL.u rfl rfl (Wt.plain rfl) (Ex.lenSl Try.underlying22 rfl) ?_
  refine WL.u rfl rfl (Wt.plain rfl) (Ex.move rfl) ?_
  refine WL.next ?_
  refine WC.block ?_
  refine WC.loop (ι := Nat) (fun i => [(0, .slice (some ⟨b, off, none⟩) g.length cap), (1, .slice (some ⟨b2, off2, none⟩) h.length cap2), (5, vint (apartN g h i : Nat)), (9, vint g.length), (10, vint i)]) (fun i wn => Dr w wn ∧ i ≤ g.length) (fun i => g.length - i) (0) (by exact ⟨rfl, rfl, rfl, rfl, rfl, trivial⟩) ?_ ?_
  · exact ⟨hD, Nat.zero_le _⟩
  rintro i wn ⟨hD, hi⟩
  intro mu0 hmu; try dsimp only at hmu
  show WC _ _ _ _ [(0, .slice (some ⟨b, off, none⟩) g.length cap), (1, .slice (some ⟨b2, off2, none⟩) h.length cap2), (5, vint (apartN g h i : Nat)), (9, vint g.length), (10, vint i)] _
  refine WC.seq ?_
  refine WC.region ?_
  refine WL.u rfl rfl (Wt.plain rfl) (Ex.lss rfl rfl) ?_
  refine WL.next ?_
  refine WC.seq ?_
  refine WC.cond rfl (fun hc1 => ?_) (fun hc1 => ?_)
  · have hc1' := hc1; try simp only [decide_eq_true_eq, decide_eq_false_iff_not, Bool.not_eq_true', Bool.not_eq_false', Bool.not_eq_true, Bool.not_eq_false] at hc1'
    have hlt : i < g.length := by omega
    have hr1 := hrg i hlt
    have hr2 := hrh i (by omega)
    refine WC.skip ?_
    refine WN.next ?_
    refine WC.seq ?_
    refine WC.block ?_
    refine WC.seq ?_
    refine WC.region ?_
    refine WL.u rfl rfl (Wt.plain rfl) (Ex.move rfl) ?_
    refine WL.u rfl rfl (Wt.plain rfl) (Ex.assign rfl) ?_
    refine WL.next ?_
    refine WC.seq ?_
    refine WC.region ?_
    refine WL.u rfl rfl (Wt.plain rfl) (Ex.move rfl) ?_
    refine WL.u rfl rfl (Wt.plain rfl) (Ex.move rfl) ?_
    refine WL.u rfl rfl (Wt.plain rfl) (Ex.indexAddr Try.underlying22 ty9 rfl rfl (by omega)) ?_
    refine WL.u rfl rfl (Wt.plain rfl) (Ex.loadSl flat9 (hg.dr hD) rfl rfl (getD_get g i [] hlt)) ?_
    refine WL.u rfl rfl (Wt.plain rfl) (Ex.lenStr Try.underlying9 rfl) ?_
    refine WL.u rfl rfl (Wt.plain rfl) (Ex.move rfl) ?_
    refine WL.next ?_
    refine WC.block ?_
    refine WC.loop (ι := Nat) (fun k => [(0, .slice (some ⟨b, off, none⟩) g.length cap), (1, .slice (some ⟨b2, off2, none⟩) h.length cap2), (5, vint (apartN g h i + apartRow (g.getD i []) (h.getD i []) k : Nat)), (6, vint i), (9, vint g.length), (10, vint i), (17, vint (g.getD i []).length), (18, vint k)]) (fun k wn => Dr w wn ∧ k ≤ (g.getD i []).length) (fun k => (g.getD i []).length - k) (0) (by exact ⟨rfl, rfl, rfl, rfl, rfl, rfl, rfl, rfl, trivial⟩) ?_ ?_
    · exact ⟨hD, Nat.zero_le _⟩
    rintro k wn ⟨hD, hk⟩
    intro mu0 hmu; try dsimp only at hmu
    show WC _ _ _ _ [(0, .slice (some ⟨b, off, none⟩) g.length cap), (1, .slice (some ⟨b2, off2, none⟩) h.length cap2), (5, vint (apartN g h i + apartRow (g.getD i []) (h.getD i []) k : Nat)), (6, vint i), (9, vint g.length), (10, vint i), (17, vint (g.getD i []).length), (18, vint k)] _
    refine WC.seq ?_
    refine WC.region ?_
    refine WL.u rfl rfl (Wt.plain rfl) (Ex.lss rfl rfl) ?_
    refine WL.next ?_
    refine WC.seq ?_
    refine WC.cond rfl (fun hc2 => ?_) (fun hc2 => ?_)
    · have hc2' := hc2; try simp only [decide_eq_true_eq, decide_eq_false_iff_not, Bool.not_eq_true', Bool.not_eq_false', Bool.not_eq_true, Bool.not_eq_false] at hc2'
      have hlk : k < (g.getD i []).length := by omega
      have hA1 := apartN_le g h 5 i (fun j hj => by rw [hrg j (by omega)]; exact hm5)
      have hA2 := apartRow_le (g.getD i []) (h.getD i []) k
      refine WC.skip ?_
      refine WN.next ?_
      refine WC.seq ?_
      refine WC.block ?_
      refine WC.seq ?_
      refine WC.region ?_
      refine WL.u rfl rfl (Wt.plain rfl) (Ex.move rfl) ?_
      refine WL.u rfl rfl (Wt.plain rfl) (Ex.assign rfl) ?_
      refine WL.next ?_
      refine WC.seq ?_
      refine WC.quiet rfl (by kernel_rfl) ?_
      refine WQ.u rfl rfl (Wt.plain rfl) (fun w hC => Ex.move rfl) ?_
      refine WQ.u rfl rfl (Wt.plain rfl) (fun w hC => Ex.move rfl) ?_
      refine WQ.u rfl rfl (Wt.plain rfl) (fun w hC => Ex.indexAddr Try.underlying22 ty9 rfl rfl (by omega)) ?_
      refine WQ.u rfl rfl (Wt.plain rfl) (fun w hC => Ex.loadSl flat9 (hg.dr (hD.trans hC)) rfl rfl (getD_get g i [] hlt)) ?_
      refine WQ.u rfl rfl (Wt.plain rfl) (fun w hC => Ex.move rfl) ?_
      refine WQ.u rfl rfl (Wt.plain rfl) (fun w hC => Ex.indexStr Try.underlying9 rfl rfl (by (try simp only [List.length_cons, List.length_nil]); omega)) ?_
      refine WQ.u rfl rfl (Wt.plain rfl) (fun w hC => Ex.move rfl) ?_
      refine WQ.u rfl rfl (Wt.plain rfl) (fun w hC => Ex.move rfl) ?_
      refine WQ.u rfl rfl (Wt.plain rfl) (fun w hC => Ex.indexAddr Try.underlying22 ty9 rfl rfl (by omega)) ?_
      refine WQ.u rfl rfl (Wt.plain rfl) (fun w hC => Ex.loadSl flat9 (hh.dr (hD.trans hC)) rfl rfl (getD_get h i [] (by omega))) ?_
      refine WQ.u rfl rfl (Wt.plain rfl) (fun w hC => Ex.move rfl) ?_
      refine WQ.u rfl rfl (Wt.plain rfl) (fun w hC => Ex.indexStr Try.underlying9 rfl rfl (by (try simp only [List.length_cons, List.length_nil]); omega)) ?_
      refine WQ.u rfl rfl (Wt.plain rfl) (fun w hC => Ex.neq rfl rfl) ?_
      refine WQ.nil ?_
      intro wn hC; replace hD := hD.trans hC; clear hC
      refine WN.next ?_
      refine WC.cond rfl (fun hc3 => ?_) (fun hc3 => ?_)
      · have hc3' := hc3; try simp only [decide_eq_true_eq, decide_eq_false_iff_not, Bool.not_eq_true', Bool.not_eq_false', Bool.not_eq_true, Bool.not_eq_false] at hc3'
        refine WC.region ?_
        refine WL.u rfl rfl (Wt.plain rfl) (Ex.move rfl) ?_
        refine WL.u rfl rfl (Wt.plain rfl) (Ex.add rfl rfl (by omega)) ?_
        refine WL.u rfl rfl (Wt.plain rfl) (Ex.assign rfl) ?_
        refine WL.last ?_
        refine WN.normalBlock ?_
        refine WN.next ?_
        refine WC.region ?_
        refine WL.u rfl rfl (Wt.plain rfl) (Ex.add rfl rfl (by omega)) ?_
        refine WL.u rfl rfl (Wt.plain rfl) (Ex.move rfl) ?_
        refine WL.last ?_
        refine WN.round (k + 1) (by exact ⟨rfl, rfl, congrArg (fun x : Int => some (vint x)) (show ((apartN g h i + apartRow (g.getD i []) (h.getD i []) k : Nat) : Int) + 1 = ((apartN g h i + apartRow (g.getD i []) (h.getD i []) (k + 1) : Nat) : Int) by rw [apartRow, if_neg (show ¬ (g.getD i []).getD k 0 = (h.getD i []).getD k 0 from fun e => absurd (congrArg (fun c : UInt8 => (c.toNat : Int)) e) (of_decide_eq_true hc3))]; omega), rfl, rfl, rfl, rfl, rfl, trivial⟩) ?_ ?_
        · exact ⟨hD, by omega⟩
        · (try dsimp only); omega
      have hc3' := hc3; try simp only [decide_eq_true_eq, decide_eq_false_iff_not, Bool.not_eq_true', Bool.not_eq_false', Bool.not_eq_true, Bool.not_eq_false] at hc3'
      refine WC.skip ?_
      refine WN.normalBlock ?_
      refine WN.next ?_
      refine WC.region ?_
      refine WL.u rfl rfl (Wt.plain rfl) (Ex.add rfl rfl (by omega)) ?_
      refine WL.u rfl rfl (Wt.plain rfl) (Ex.move rfl) ?_
      refine WL.last ?_
      refine WN.round (k + 1) (by exact ⟨rfl, rfl, congrArg (fun x : Int => some (vint x)) (show ((apartN g h i + apartRow (g.getD i []) (h.getD i []) k : Nat) : Int) = ((apartN g h i + apartRow (g.getD i []) (h.getD i []) (k + 1) : Nat) : Int) by rw [apartRow, if_pos (show (g.getD i []).getD k 0 = (h.getD i []).getD k 0 from UInt8.toNat_inj.1 (Int.ofNat.inj (Classical.not_not.1 (of_decide_eq_false hc3))))]; omega), rfl, rfl, rfl, rfl, rfl, trivial⟩) ?_ ?_
      · exact ⟨hD, by omega⟩
      · (try dsimp only); omega
    have hc2' := hc2; try simp only [decide_eq_true_eq, decide_eq_false_iff_not, Bool.not_eq_true', Bool.not_eq_false', Bool.not_eq_true, Bool.not_eq_false] at hc2'
    have hkl : k = (g.getD i []).length := by omega
    refine WC.exit ?_
    refine WN.exitThen ?_
    refine WN.exitThen ?_
    refine WN.exitHere ?_
    refine WN.normalBlock ?_
    refine WN.next ?_
    refine WC.region ?_
    refine WL.u rfl rfl (Wt.plain rfl) (Ex.add rfl rfl (by omega)) ?_
    refine WL.u rfl rfl (Wt.plain rfl) (Ex.move rfl) ?_
    refine WL.last ?_
    refine WN.round (i + 1) (by exact ⟨rfl, rfl, congrArg (fun x : Nat => some (vint x)) (show _ = apartN g h (i + 1) by rw [apartN, hkl]), rfl, rfl, trivial⟩) ?_ ?_
    · exact ⟨hD, by omega⟩
    · (try dsimp only); omega
  have hc1' := hc1; try simp only [decide_eq_true_eq, decide_eq_false_iff_not, Bool.not_eq_true', Bool.not_eq_false', Bool.not_eq_true, Bool.not_eq_false] at hc1'
  refine WC.exit ?_
  refine WN.exitThen ?_
  refine WN.exitThen ?_
  refine WN.exitHere ?_
  refine WN.next ?_
  refine WC.seq ?_
  refine WC.region ?_
  refine WL.u rfl rfl (Wt.plain rfl) (Ex.move rfl) ?_
  refine WL.u rfl rfl (Wt.plain rfl) (Ex.assign rfl) ?_
  refine WL.next ?_
  refine WC.ret ?_
  refine WN.body1 rfl rfl ?_
  have hiN : i = g.length := by omega
  exact ⟨by rw [hiN]; rfl, hD⟩

theorem sl9Apart (g h : Grid) (a a2 : Option Addr) (cap cap2 : Nat) (w : World) (hg : Sl rStr w a g) (hh : Sl rStr w a2 h) (hG : GridOk g) (hGh : GridOk h) (hn : nR h = nR g) (hm : nC h = nC g) : Fn Try.prog 98 [.slice a g.length cap, .slice a2 h.length cap2] w (fun v w1 => v = vint (apart g h : Nat) ∧ Dr w w1) := by
  refine Fn.enter (n := 39) Try.func98 rfl rfl rfl ?_
  show WC _ _ _ _ [(0, .slice a g.length cap), (1, .slice a2 h.length cap2)] _
  have hD := Dr.refl w
  have hn1 := hG.n1
  have hn5 := hG.n5
  have hm5 := hG.m5
  have hrg := hG.row
  have hrh := hGh.row
  dsimp only [nR, nC] at hn hm
  obtain ⟨b, off, rfl⟩ := hg.addr (by omega)
  obtain ⟨b2, off2, rfl⟩ := hh.addr (by omega)
  refine WC.seq ?_
  refine WC.region ?_
  refine WL.u rfl rfl (Wt.plain rfl) (Ex.assign rfl) ?_
  refine WL.next ?_
  refine WC.seq ?_
  refine WC.region ?_
  refine WL.u rfl rfl (Wt.plain rfl) (Ex.assign rfl) ?_
  refine WL.next ?_
  refine WC.seq ?_
  refine WC.seq ?_
  refine WC.region ?_
  refine WL.u rfl rfl (Wt.plain rfl) (Ex.assign rfl) ?_
  refine WL.next ?_
  refine WC.block ?_
  refine WC.loop (ι := Nat) (fun i => [(0, .slice (some ⟨b, off, none⟩) g.length cap), (1, .slice (some ⟨b2, off2, none⟩) h.length cap2), (5, vint (apartN g h i : Nat)), (6, vint i)]) (fun i wn => Dr w wn ∧ i ≤ g.length) (fun i => g.length - i) (0) (by exact ⟨rfl, rfl, rfl, rfl, trivial⟩) ?_ ?_
  · exact ⟨hD, Nat.zero_le _⟩
  rintro i wn ⟨hD, hi⟩
  intro mu0 hmu; try dsimp only at hmu
  show WC _ _ _ _ [(0, .slice (some ⟨b, off, none⟩) g.length cap), (1, .slice (some ⟨b2, off2, none⟩) h.length cap2), (5, vint (apartN g h i : Nat)), (6, vint i)] _
  refine WC.seq ?_
  refine WC.seq ?_
  refine WC.region ?_
  refine WL.u rfl rfl (Wt.plain rfl) (Ex.move rfl) ?_
  refine WL.u rfl rfl (Wt.plain rfl) (Ex.move rfl) ?_
  refine WL.u rfl rfl (Wt.plain rfl) (Ex.lenSl Try.underlying22 rfl) ?_
  refine WL.u rfl rfl (Wt.plain rfl) (Ex.lss rfl rfl) ?_
  refine WL.next ?_
  refine WC.cond rfl (fun hc1 => ?_) (fun hc1 => ?_)
  · have hc1' := hc1; try simp only [decide_eq_true_eq, decide_eq_false_iff_not, Bool.not_eq_true', Bool.not_eq_false', Bool.not_eq_true, Bool.not_eq_false] at hc1'
    have hlt : i < g.length := by omega
    have hr1 := hrg i hlt
    have hr2 := hrh i (by omega)
    refine WC.skip ?_
    refine WN.next ?_
    refine WC.seq ?_
    refine WC.block ?_
    refine WC.seq ?_
    refine WC.region ?_
    refine WL.u rfl rfl (Wt.plain rfl) (Ex.assign rfl) ?_
    refine WL.next ?_
    refine WC.block ?_
    refine WC.loop (ι := Nat) (fun k => [(0, .slice (some ⟨b, off, none⟩) g.length cap), (1, .slice (some ⟨b2, off2, none⟩) h.length cap2), (5, vint (apartN g h i + apartRow (g.getD i []) (h.getD i []) k : Nat)), (6, vint i), (7, vint k)]) (fun k wn => Dr w wn ∧ k ≤ (g.getD i []).length) (fun k => (g.getD i []).length - k) (0) (by exact ⟨rfl, rfl, rfl, rfl, rfl, trivial⟩) ?_ ?_
    · exact ⟨hD, Nat.zero_le _⟩
    rintro k wn ⟨hD, hk⟩
    intro mu0 hmu; try dsimp only at hmu
    show WC _ _ _ _ [(0, .slice (some ⟨b, off, none⟩) g.length cap), (1, .slice (some ⟨b2, off2, none⟩) h.length cap2), (5, vint (apartN g h i + apartRow (g.getD i []) (h.getD i []) k : Nat)), (6, vint i), (7, vint k)] _
    refine WC.seq ?_
    refine WC.seq ?_
    refine WC.region ?_
    refine WL.u rfl rfl (Wt.plain rfl) (Ex.move rfl) ?_
    refine WL.u rfl rfl (Wt.plain rfl) (Ex.move rfl) ?_
    refine WL.u rfl rfl (Wt.plain rfl) (Ex.move rfl) ?_
    refine WL.u rfl rfl (Wt.plain rfl) (Ex.indexAddr Try.underlying22 ty9 rfl rfl (by omega)) ?_
    refine WL.u rfl rfl (Wt.plain rfl) (Ex.loadSl flat9 (hg.dr hD) rfl rfl (getD_get g i [] hlt)) ?_
    refine WL.u rfl rfl (Wt.plain rfl) (Ex.lenStr Try.underlying9 rfl) ?_
    refine WL.u rfl rfl (Wt.plain rfl) (Ex.lss rfl rfl) ?_
    refine WL.next ?_
    refine WC.cond rfl (fun hc2 => ?_) (fun hc2 => ?_)
    · have hc2' := hc2; try simp only [decide_eq_true_eq, decide_eq_false_iff_not, Bool.not_eq_true', Bool.not_eq_false', Bool.not_eq_true, Bool.not_eq_false] at hc2'
      have hlk : k < (g.getD i []).length := by omega
      have hA1 := apartN_le g h 5 i (fun j hj => by rw [hrg j (by omega)]; exact hm5)
      have hA2 := apartRow_le (g.getD i []) (h.getD i []) k
      refine WC.skip ?_
      refine WN.next ?_
      refine WC.seq ?_
      refine WC.block ?_
      refine WC.seq ?_
      refine WC.quiet rfl (by kernel_rfl) ?_
      refine WQ.u rfl rfl (Wt.plain rfl) (fun w hC => Ex.move rfl) ?_
      refine WQ.u rfl rfl (Wt.plain rfl) (fun w hC => Ex.move rfl) ?_
      refine WQ.u rfl rfl (Wt.plain rfl) (fun w hC => Ex.indexAddr Try.underlying22 ty9 rfl rfl (by omega)) ?_
      refine WQ.u rfl rfl (Wt.plain rfl) (fun w hC => Ex.loadSl flat9 (hg.dr (hD.trans hC)) rfl rfl (getD_get g i [] hlt)) ?_
      refine WQ.u rfl rfl (Wt.plain rfl) (fun w hC => Ex.move rfl) ?_
      refine WQ.u rfl rfl (Wt.plain rfl) (fun w hC => Ex.indexStr Try.underlying9 rfl rfl (by (try simp only [List.length_cons, List.length_nil]); omega)) ?_
      refine WQ.u rfl rfl (Wt.plain rfl) (fun w hC => Ex.move rfl) ?_
      refine WQ.u rfl rfl (Wt.plain rfl) (fun w hC => Ex.move rfl) ?_
      refine WQ.u rfl rfl (Wt.plain rfl) (fun w hC => Ex.indexAddr Try.underlying22 ty9 rfl rfl (by omega)) ?_
      refine WQ.u rfl rfl (Wt.plain rfl) (fun w hC => Ex.loadSl flat9 (hh.dr (hD.trans hC)) rfl rfl (getD_get h i [] (by omega))) ?_
      refine WQ.u rfl rfl (Wt.plain rfl) (fun w hC => Ex.move rfl) ?_
      refine WQ.u rfl rfl (Wt.plain rfl) (fun w hC => Ex.indexStr Try.underlying9 rfl rfl (by (try simp only [List.length_cons, List.length_nil]); omega)) ?_
      refine WQ.u rfl rfl (Wt.plain rfl) (fun w hC => Ex.neq rfl rfl) ?_
      refine WQ.nil ?_
      intro wn hC; replace hD := hD.trans hC; clear hC
      refine WN.next ?_
      refine WC.cond rfl (fun hc3 => ?_) (fun hc3 => ?_)
      · have hc3' := hc3; try simp only [decide_eq_true_eq, decide_eq_false_iff_not, Bool.not_eq_true', Bool.not_eq_false', Bool.not_eq_true, Bool.not_eq_false] at hc3'
        refine WC.region ?_
        refine WL.u rfl rfl (Wt.plain rfl) (Ex.move rfl) ?_
        refine WL.u rfl rfl (Wt.plain rfl) (Ex.add rfl rfl (by omega)) ?_
        refine WL.u rfl rfl (Wt.plain rfl) (Ex.assign rfl) ?_
        refine WL.last ?_
        refine WN.normalBlock ?_
        refine WN.next ?_
        refine WC.region ?_
        refine WL.u rfl rfl (Wt.plain rfl) (Ex.move rfl) ?_
        refine WL.u rfl rfl (Wt.plain rfl) (Ex.add rfl rfl (by omega)) ?_
        refine WL.u rfl rfl (Wt.plain rfl) (Ex.assign rfl) ?_
        refine WL.last ?_
        refine WN.round (k + 1) (by exact ⟨rfl, rfl, congrArg (fun x : Int => some (vint x)) (show ((apartN g h i + apartRow (g.getD i []) (h.getD i []) k : Nat) : Int) + 1 = ((apartN g h i + apartRow (g.getD i []) (h.getD i []) (k + 1) : Nat) : Int) by rw [apartRow, if_neg (show ¬ (g.getD i []).getD k 0 = (h.getD i []).getD k 0 from fun e => absurd (congrArg (fun c : UInt8 => (c.toNat : Int)) e) (of_decide_eq_true hc3))]; omega), rfl, rfl, trivial⟩) ?_ ?_
        · exact ⟨hD, by omega⟩
        · (try dsimp only); omega
      have hc3' := hc3; try simp only [decide_eq_true_eq, decide_eq_false_iff_not, Bool.not_eq_true', Bool.not_eq_false', Bool.not_eq_true, Bool.not_eq_false] at hc3'
      refine WC.skip ?_
      refine WN.normalBlock ?_
      refine WN.next ?_
      refine WC.region ?_
      refine WL.u rfl rfl (Wt.plain rfl) (Ex.move rfl) ?_
      refine WL.u rfl rfl (Wt.plain rfl) (Ex.add rfl rfl (by omega)) ?_
      refine WL.u rfl rfl (Wt.plain rfl) (Ex.assign rfl) ?_
      refine WL.last ?_
      refine WN.round (k + 1) (by exact ⟨rfl, rfl, congrArg (fun x : Int => some (vint x)) (show ((apartN g h i + apartRow (g.getD i []) (h.getD i []) k : Nat) : Int) = ((apartN g h i + apartRow (g.getD i []) (h.getD i []) (k + 1) : Nat) : Int) by rw [apartRow, if_pos (show (g.getD i []).getD k 0 = (h.getD i []).getD k 0 from UInt8.toNat_inj.1 (Int.ofNat.inj (Classical.not_not.1 (of_decide_eq_false hc3))))]; omega), rfl, rfl, trivial⟩) ?_ ?_
      · exact ⟨hD, by omega⟩
      · (try dsimp only); omega
    have hc2' := hc2; try simp only [decide_eq_true_eq, decide_eq_false_iff_not, Bool.not_eq_true', Bool.not_eq_false', Bool.not_eq_true, Bool.not_eq_false] at hc2'
    have hkl : k = (g.getD i []).length := by omega
    refine WC.exit ?_
    refine WN.exitThen ?_
    refine WN.exitThen ?_
    refine WN.exitHere ?_
    refine WN.normalBlock ?_
    refine WN.next ?_
    refine WC.region ?_
    refine WL.u rfl rfl (Wt.plain rfl) (Ex.move rfl) ?_
    refine WL.u rfl rfl (Wt.plain rfl) (Ex.add rfl rfl (by omega)) ?_
    refine WL.u rfl rfl (Wt.plain rfl) (Ex.assign rfl) ?_
    refine WL.last ?_
    refine WN.round (i + 1) (by exact ⟨rfl, rfl, congrArg (fun x : Nat => some (vint x)) (show _ = apartN g h (i + 1) by rw [apartN, hkl]), rfl, trivial⟩) ?_ ?_
    · exact ⟨hD, by omega⟩
    · (try dsimp only); omega
  have hc1' := hc1; try simp only [decide_eq_true_eq, decide_eq_false_iff_not, Bool.not_eq_true', Bool.not_eq_false', Bool.not_eq_true, Bool.not_eq_false] at hc1'
  refine WC.exit ?_
  refine WN.exitThen ?_
  refine WN.exitThen ?_
  refine WN.exitHere ?_
  refine WN.next ?_
  refine WC.seq ?_
  refine WC.region ?_
  refine WL.u rfl rfl (Wt.plain rfl) (Ex.move rfl) ?_
  refine WL.u rfl rfl (Wt.plain rfl) (Ex.assign rfl) ?_
  refine WL.next ?_
  refine WC.ret ?_
  refine WN.body1 rfl rfl ?_
  have hiN : i = g.length := by omega
  exact ⟨by rw [hiN]; rfl, hD⟩


def bestC (r : Option (Nat × Nat)) : Int := match r with
  | none => -1
  | some r => (r.1 : Int)
def bestF (r : Option (Nat × Nat)) : Nat := match r with
  | none => 0
  | some r => r.2
theorem best_le {g : Grid} (hG : GridOk g) (p q N : Nat) : -1 ≤ bestC (best g p q N) ∧ bestC (best g p q N) ≤ 25 := by
  cases e : best g p q N with
  | none => exact ⟨by decide, by decide⟩
  | some r =>
    obtain ⟨c, j⟩ := r
    have h1 := (tryN_some e).2.2.1
    have h2 := apart_le hG (numG (nR g) (nC g) j)
    have h3 : nR g * nC g ≤ 25 := Nat.mul_le_mul hG.n5 hG.m5
    unfold costN at h1
    show -1 ≤ (c : Int) ∧ (c : Int) ≤ 25
    omega
/-- one more grid -/
theorem best_succ_no {g : Grid} {p q i : Nat} (h : ¬ (endN (nR g) (nC g) p i = q ∧ (bestC (best g p q i) < 0 ∨ (costN g i : Int) < bestC (best g p q i)))) : best g p q (i + 1) = best g p q i := by
  unfold best at *
  rw [tryN]
  cases e : tryN (costN g) (endN (nR g) (nC g) p) q i with
  | none =>
    rw [e] at h
    simp only
    rw [if_neg (fun h1 => h ⟨h1, .inl (by decide)⟩)]
  | some r =>
    rw [e] at h
    simp only
    rw [if_neg (fun h1 => h ⟨h1.1, .inr (Int.ofNat_lt.2 h1.2)⟩)]
theorem best_succ_yes {g : Grid} {p q i : Nat} (h : endN (nR g) (nC g) p i = q ∧ (bestC (best g p q i) < 0 ∨ (costN g i : Int) < bestC (best g p q i))) : best g p q (i + 1) = some (costN g i, i) := by
  unfold best at *
  rw [tryN]
  cases e : tryN (costN g) (endN (nR g) (nC g) p) q i with
  | none =>
    simp only
    rw [if_pos h.1]
  | some r =>
    rw [e] at h
    simp only
    have h2 : costN g i < r.1 := by
      rcases h.2 with h3 | h3
      · exact absurd h3 (by show ¬ ((r.1 : Int) < 0); omega)
      · exact Int.ofNat_lt.1 h3
    rw [if_pos ⟨h.1, h2⟩]

theorem sl9Try (g : Grid) (a : Option Addr) (cap p q : Nat) (w : World) (hg : Sl rStr w a g) (hG : GridOk g) (hp : p < ports g) (h6 : ((nR g * nC g : Nat) : Int) ≤ 6) : Fn Try.prog 66 [.slice a g.length cap, vint p, vint q] w (fun v w1 => v = .tuple #[vint (bestC (best g p q (3 ^ (nR g * nC g)))), vint (bestF (best g p q (3 ^ (nR g * nC g))))] ∧ Keep [] w w1) := by
  refine Fn.enter (n := 60) Try.func66 rfl rfl rfl ?_
  show WC _ _ _ _ [(0, .slice a g.length cap), (1, vint p), (2, vint q)] _
  have hH := Hp.start [] w
  have hp6 := pow6 h6
  obtain ⟨h1, h2, h3, h4, _, _⟩ := id hG
  obtain ⟨b, off, rfl⟩ := hg.addr (by omega)
  have hmI : (g.length : Int) * ((g.getD 0 []).length : Int) = ((nR g * nC g : Nat) : Int) := (Int.natCast_mul _ _).symm
  have hle : nR g * nC g ≤ 25 := Nat.mul_le_mul h2 h4
  have hpe : ports g = 2 * nR g + 2 * nC g := rfl
  refine WC.seq ?_
  refine WC.region ?_
  refine WL.u rfl rfl (Wt.plain rfl) (Ex.assign rfl) ?_
  refine WL.u rfl rfl (Wt.plain rfl) (Ex.assign rfl) ?_
  refine WL.next ?_
  refine WC.seq ?_
  refine WC.region ?_
  refine WL.u rfl rfl (Wt.plain rfl) (Ex.assign rfl) ?_
  refine WL.next ?_
  refine WC.seq ?_
  refine WC.region ?_
  refine WL.u rfl rfl (Wt.plain rfl) (Ex.assign rfl) ?_
  refine WL.next ?_
  refine WC.seq ?_
  refine WC.region ?_
  refine WL.u rfl rfl (Wt.plain rfl) (Ex.move rfl) ?_
  refine WL.u rfl rfl (Wt.plain rfl) (Ex.lenSl Try.underlying22 rfl) ?_
  refine WL.u rfl rfl (Wt.plain rfl) (Ex.assign rfl) ?_
  refine WL.next ?_
  refine WC.seq ?_
  refine WC.region ?_
  refine WL.u rfl rfl (Wt.plain rfl) (Ex.move rfl) ?_
  refine WL.u rfl rfl (Wt.plain rfl) (Ex.indexAddr Try.underlying22 ty9 rfl rfl (by omega)) ?_
  refine WL.u rfl rfl (Wt.plain rfl) (Ex.loadSl flat9 (hg.kept hH.keep) rfl rfl (getD_get g 0 [] (by omega))) ?_
  refine WL.u rfl rfl (Wt.plain rfl) (Ex.lenStr Try.underlying9 rfl) ?_
  refine WL.u rfl rfl (Wt.plain rfl) (Ex.assign rfl) ?_
  refine WL.next ?_
  refine WC.seq ?_
  refine WC.seq ?_
  refine WC.region ?_
  refine WL.u rfl rfl (Wt.plain rfl) (Ex.assign rfl) ?_
  refine WL.next ?_
  refine WC.block ?_
  refine WC.loop (ι := Nat) (fun i => [(0, .slice (some ⟨b, off, none⟩) g.length cap), (1, vint p), (2, vint q), (8, vint (bestC (best g p q i))), (9, vint (bestF (best g p q i))), (10, vint g.length), (11, vint (g.getD 0 []).length), (12, vint i)]) (fun i wn => Hp [] w wn [] ∧ i ≤ 3 ^ (nR g * nC g)) (fun i => 3 ^ (nR g * nC g) - i) (0) (by exact ⟨rfl, rfl, rfl, rfl, rfl, rfl, rfl, rfl, trivial⟩) ?_ ?_
  · exact ⟨hH, Nat.zero_le _⟩
  rintro i wn ⟨hH, hi⟩
  have hbl := best_le hG p q i
  intro mu0 hmu; try dsimp only at hmu
  show WC _ _ _ _ [(0, .slice (some ⟨b, off, none⟩) g.length cap), (1, vint p), (2, vint q), (8, vint (bestC (best g p q i))), (9, vint (bestF (best g p q i))), (10, vint g.length), (11, vint (g.getD 0 []).length), (12, vint i)] _
  refine WC.seq ?_
  refine WC.seq ?_
  refine WC.region ?_
  refine WL.u rfl rfl (Wt.plain rfl) (Ex.move rfl) ?_
  refine WL.u rfl rfl (Wt.plain rfl) (Ex.move rfl) ?_
  refine WL.u rfl rfl (Wt.plain rfl) (Ex.move rfl) ?_
  refine WL.u rfl rfl (Wt.plain rfl) ((Ex.mul rfl rfl (by omega)).to (congrArg (Value.int IntKind.i64) hmI)) ?_
  refine WL.call callable97 rfl (Wt.plain rfl) rfl rfl (sl1Power (nR g * nC g) _ _ rfl hle) ?_
  rintro _ _ ⟨rfl, hw⟩; obtain rfl := hw.symm
  refine WL.u rfl rfl (Wt.plain rfl) (Ex.lss rfl rfl) ?_
  refine WL.next ?_
  refine WC.cond rfl (fun hc1 => ?_) (fun hc1 => ?_)
  · have hc1' := hc1; try simp only [decide_eq_true_eq, decide_eq_false_iff_not, Bool.not_eq_true', Bool.not_eq_false', Bool.not_eq_true, Bool.not_eq_false] at hc1'
    have hlt : i < 3 ^ (nR g * nC g) := by omega
    have hGi := numG_ok i h1 h2 h3 h4
    have hni : nR (numG (nR g) (nC g) i) = nR g := gridOf_nR _ _ _
    have hmi : nC (numG (nR g) (nC g) i) = nC g := gridOf_nC _ _ h1
    refine WC.skip ?_
    refine WN.next ?_
    refine WC.seq ?_
    refine WC.block ?_
    refine WC.seq ?_
    refine WC.region ?_
    refine WL.u rfl rfl (Wt.plain rfl) (Ex.move rfl) ?_
    refine WL.u rfl rfl (Wt.plain rfl) (Ex.move rfl) ?_
    refine WL.u rfl rfl (Wt.plain rfl) (Ex.move rfl) ?_
    refine WL.call callable52 rfl (Wt.plain rfl) rfl rfl (sl1Of (nR g) (nC g) i _ h2 h4 (by omega)) ?_
    rintro _ wn ⟨hC, hN⟩; obtain ⟨b35, cap35, cur35, rfl, hge35, hbb35, ho35⟩ := hN.own; replace hH := hH.push hC hge35 hbb35; clear hC hN
    refine WL.u rfl rfl (Wt.plain rfl) (Ex.assign rfl) ?_
    refine WL.next ?_
    refine WC.seq ?_
    refine WC.region ?_
    refine WL.u rfl rfl (Wt.plain rfl) (Ex.move rfl) ?_
    refine WL.u rfl rfl (Wt.plain rfl) (Ex.move rfl) ?_
    refine WL.call callable98 rfl (Wt.plain rfl) rfl rfl (sl9Apart g (numG (nR g) (nC g) i) _ _ _ _ _ (hg.kept hH.keep) (ho35.slAt hH 0 rfl) hG hGi hni hmi) ?_
    rintro _ wn ⟨rfl, hC⟩; replace hH := hH.dr hC; clear hC
    refine WL.u rfl rfl (Wt.plain rfl) (Ex.assign rfl) ?_
    refine WL.next ?_
    refine WC.seq ?_
    refine WC.seq ?_
    refine WC.region ?_
    refine WL.u rfl rfl (Wt.plain rfl) (Ex.move rfl) ?_
    refine WL.u rfl rfl (Wt.plain rfl) (Ex.geq rfl rfl) ?_
    refine WL.u rfl rfl (Wt.plain rfl) (Ex.move rfl) ?_
    refine WL.split (t := 41) rfl (fun hg10_2 => ?_) (fun hg10_2 => ?_)
    · have hg10_2' := hg10_2; try simp only [decide_eq_true_eq, decide_eq_false_iff_not, Bool.not_eq_true', Bool.not_eq_false', Bool.not_eq_true, Bool.not_eq_false] at hg10_2'
      refine WL.u rfl rfl (Wt.guard' rfl rfl rfl hg10_2 rfl) (Ex.move rfl) ?_
      refine WL.u rfl rfl (Wt.guard' rfl rfl rfl hg10_2 rfl) (Ex.move rfl) ?_
      refine WL.u rfl rfl (Wt.guard' rfl rfl rfl hg10_2 rfl) (Ex.geq rfl rfl) ?_
      refine WL.u rfl rfl (Wt.plain rfl) (Ex.pickT rfl hg10_2 rfl) ?_
      refine WL.next ?_
      refine WC.cond rfl (fun hc2 => ?_) (fun hc2 => ?_)
      · have hc2' := hc2; try simp only [decide_eq_true_eq, decide_eq_false_iff_not, Bool.not_eq_true', Bool.not_eq_false', Bool.not_eq_true, Bool.not_eq_false] at hc2'
        refine WC.exit ?_
        refine WN.exitThen ?_
        refine WN.exitHere ?_
        refine WN.next ?_
        refine WC.region ?_
        refine WL.u rfl rfl (Wt.plain rfl) (Ex.move rfl) ?_
        refine WL.u rfl rfl (Wt.plain rfl) (Ex.add rfl rfl (by omega)) ?_
        refine WL.u rfl rfl (Wt.plain rfl) (Ex.assign rfl) ?_
        refine WL.last ?_
        replace hH := hH.first0
        have e := best_succ_no (g := g) (p := p) (q := q) (i := i) (fun h => by have := h.2; unfold costN at this; omega)
        refine WN.round (i + 1) (by exact ⟨rfl, rfl, rfl, congrArg (fun x => some (vint (bestC x))) e.symm, congrArg (fun x => some (vint (bestF x))) e.symm, rfl, rfl, rfl, trivial⟩) ?_ ?_
        · exact ⟨hH.first0, by omega⟩
        · (try dsimp only); omega
      have hc2' := hc2; try simp only [decide_eq_true_eq, decide_eq_false_iff_not, Bool.not_eq_true', Bool.not_eq_false', Bool.not_eq_true, Bool.not_eq_false] at hc2'
      refine WC.skip ?_
      refine WN.next ?_
      refine WC.seq ?_
      refine WC.region ?_
      refine WL.u rfl rfl (Wt.plain rfl) (Ex.move rfl) ?_
      refine WL.u rfl rfl (Wt.plain rfl) (Ex.move rfl) ?_
      refine WL.call callable99 rfl (Wt.plain rfl) rfl rfl (sl2Way (numG (nR g) (nC g) i) _ _ p _ (ho35.slAt hH 0 rfl) hGi (by rw [numG_ports _ _ h1, ← hpe]; exact hp)) ?_
      rintro _ wn ⟨x, y, rfl, hC, hN1, hN2⟩; replace hH := hH.call hC
      refine WL.u rfl rfl (Wt.plain rfl) (Ex.move rfl) ?_
      refine WL.u rfl rfl (Wt.plain rfl) (Ex.extract rfl rfl) ?_
      refine WL.u rfl rfl (Wt.plain rfl) (Ex.extract rfl rfl) ?_
      refine WL.u rfl rfl (Wt.plain rfl) (Ex.extract rfl rfl) ?_
      refine WL.u rfl rfl (Wt.plain rfl) (Ex.assign rfl) ?_
      refine WL.u rfl rfl (Wt.plain rfl) (Ex.assign rfl) ?_
      refine WL.u rfl rfl (Wt.plain rfl) (Ex.assign rfl) ?_
      refine WL.next ?_
      refine WC.seq ?_
      refine WC.region ?_
      refine WL.u rfl rfl (Wt.plain rfl) (Ex.move rfl) ?_
      refine WL.u rfl rfl (Wt.plain rfl) (Ex.move rfl) ?_
      refine WL.u rfl rfl (Wt.plain rfl) (Ex.eql rfl rfl) ?_
      refine WL.next ?_
      refine WC.cond rfl (fun hc3 => ?_) (fun hc3 => ?_)
      · have hc3' := hc3; try simp only [decide_eq_true_eq, decide_eq_false_iff_not, Bool.not_eq_true', Bool.not_eq_false', Bool.not_eq_true, Bool.not_eq_false] at hc3'
        refine WC.seq ?_
        refine WC.region ?_
        refine WL.u rfl rfl (Wt.plain rfl) (Ex.move rfl) ?_
        refine WL.u rfl rfl (Wt.plain rfl) (Ex.assign rfl) ?_
        refine WL.next ?_
        refine WC.region ?_
        refine WL.u rfl rfl (Wt.plain rfl) (Ex.move rfl) ?_
        refine WL.u rfl rfl (Wt.plain rfl) (Ex.assign rfl) ?_
        refine WL.last ?_
        refine WN.normalBlock ?_
        refine WN.next ?_
        refine WC.region ?_
        refine WL.u rfl rfl (Wt.plain rfl) (Ex.move rfl) ?_
        refine WL.u rfl rfl (Wt.plain rfl) (Ex.add rfl rfl (by omega)) ?_
        refine WL.u rfl rfl (Wt.plain rfl) (Ex.assign rfl) ?_
        refine WL.last ?_
        replace hH := hH.first0
        have e := best_succ_yes (g := g) (p := p) (q := q) (i := i) ⟨by unfold endN; omega, by unfold costN; omega⟩
        refine WN.round (i + 1) (by exact ⟨rfl, rfl, rfl, congrArg (fun x => some (vint (bestC x))) e.symm, congrArg (fun x => some (vint (bestF x))) e.symm, rfl, rfl, rfl, trivial⟩) ?_ ?_
        · exact ⟨hH.first0, by omega⟩
        · (try dsimp only); omega
      have hc3' := hc3; try simp only [decide_eq_true_eq, decide_eq_false_iff_not, Bool.not_eq_true', Bool.not_eq_false', Bool.not_eq_true, Bool.not_eq_false] at hc3'
      refine WC.skip ?_
      refine WN.normalBlock ?_
      refine WN.next ?_
      refine WC.region ?_
      refine WL.u rfl rfl (Wt.plain rfl) (Ex.move rfl) ?_
      refine WL.u rfl rfl (Wt.plain rfl) (Ex.add rfl rfl (by omega)) ?_
      refine WL.u rfl rfl (Wt.plain rfl) (Ex.assign rfl) ?_
      refine WL.last ?_
      replace hH := hH.first0
      have e := best_succ_no (g := g) (p := p) (q := q) (i := i) (fun h => by have := h.1; unfold endN at this; omega)
      refine WN.round (i + 1) (by exact ⟨rfl, rfl, rfl, congrArg (fun x => some (vint (bestC x))) e.symm, congrArg (fun x => some (vint (bestF x))) e.symm, rfl, rfl, rfl, trivial⟩) ?_ ?_
      · exact ⟨hH.first0, by omega⟩
      · (try dsimp only); omega
    have hg10_2' := hg10_2; try simp only [decide_eq_true_eq, decide_eq_false_iff_not, Bool.not_eq_true', Bool.not_eq_false', Bool.not_eq_true, Bool.not_eq_false] at hg10_2'
    refine WL.pass rfl rfl (Wt.guard' rfl rfl rfl hg10_2 rfl) ?_
    refine WL.pass rfl rfl (Wt.guard' rfl rfl rfl hg10_2 rfl) ?_
    refine WL.pass rfl rfl (Wt.guard' rfl rfl rfl hg10_2 rfl) ?_
    refine WL.u rfl rfl (Wt.plain rfl) (Ex.pickF rfl hg10_2 rfl) ?_
    refine WL.next ?_
    refine WC.condF rfl rfl ?_
    refine WC.skip ?_
    refine WN.next ?_
    refine WC.seq ?_
    refine WC.region ?_
    refine WL.u rfl rfl (Wt.plain rfl) (Ex.move rfl) ?_
    refine WL.u rfl rfl (Wt.plain rfl) (Ex.move rfl) ?_
    refine WL.call callable99 rfl (Wt.plain rfl) rfl rfl (sl2Way (numG (nR g) (nC g) i) _ _ p _ (ho35.slAt hH 0 rfl) hGi (by rw [numG_ports _ _ h1, ← hpe]; exact hp)) ?_
    rintro _ wn ⟨x, y, rfl, hC, hN1, hN2⟩; replace hH := hH.call hC
    refine WL.u rfl rfl (Wt.plain rfl) (Ex.move rfl) ?_
    refine WL.u rfl rfl (Wt.plain rfl) (Ex.extract rfl rfl) ?_
    refine WL.u rfl rfl (Wt.plain rfl) (Ex.extract rfl rfl) ?_
    refine WL.u rfl rfl (Wt.plain rfl) (Ex.extract rfl rfl) ?_
    refine WL.u rfl rfl (Wt.plain rfl) (Ex.assign rfl) ?_
    refine WL.u rfl rfl (Wt.plain rfl) (Ex.assign rfl) ?_
    refine WL.u rfl rfl (Wt.plain rfl) (Ex.assign rfl) ?_
    refine WL.next ?_
    refine WC.seq ?_
    refine WC.region ?_
    refine WL.u rfl rfl (Wt.plain rfl) (Ex.move rfl) ?_
    refine WL.u rfl rfl (Wt.plain rfl) (Ex.move rfl) ?_
    refine WL.u rfl rfl (Wt.plain rfl) (Ex.eql rfl rfl) ?_
    refine WL.next ?_
    refine WC.cond rfl (fun hc3 => ?_) (fun hc3 => ?_)
    · have hc3' := hc3; try simp only [decide_eq_true_eq, decide_eq_false_iff_not, Bool.not_eq_true', Bool.not_eq_false', Bool.not_eq_true, Bool.not_eq_false] at hc3'
      refine WC.seq ?_
      refine WC.region ?_
      refine WL.u rfl rfl (Wt.plain rfl) (Ex.move rfl) ?_
      refine WL.u rfl rfl (Wt.plain rfl) (Ex.assign rfl) ?_
      refine WL.next ?_
      refine WC.region ?_
      refine WL.u rfl rfl (Wt.plain rfl) (Ex.move rfl) ?_
      refine WL.u rfl rfl (Wt.plain rfl) (Ex.assign rfl) ?_
      refine WL.last ?_
      refine WN.normalBlock ?_
      refine WN.next ?_
      refine WC.region ?_
      refine WL.u rfl rfl (Wt.plain rfl) (Ex.move rfl) ?_
      refine WL.u rfl rfl (Wt.plain rfl) (Ex.add rfl rfl (by omega)) ?_
      refine WL.u rfl rfl (Wt.plain rfl) (Ex.assign rfl) ?_
      refine WL.last ?_
      replace hH := hH.first0
      have e := best_succ_yes (g := g) (p := p) (q := q) (i := i) ⟨by unfold endN; omega, by unfold costN; omega⟩
      refine WN.round (i + 1) (by exact ⟨rfl, rfl, rfl, congrArg (fun x => some (vint (bestC x))) e.symm, congrArg (fun x => some (vint (bestF x))) e.symm, rfl, rfl, rfl, trivial⟩) ?_ ?_
      · exact ⟨hH.first0, by omega⟩
      · (try dsimp only); omega
    have hc3' := hc3; try simp only [decide_eq_true_eq, decide_eq_false_iff_not, Bool.not_eq_true', Bool.not_eq_false', Bool.not_eq_true, Bool.not_eq_false] at hc3'
    refine WC.skip ?_
    refine WN.normalBlock ?_
    refine WN.next ?_
    refine WC.region ?_
    refine WL.u rfl rfl (Wt.plain rfl) (Ex.move rfl) ?_
    refine WL.u rfl rfl (Wt.plain rfl) (Ex.add rfl rfl (by omega)) ?_
    refine WL.u rfl rfl (Wt.plain rfl) (Ex.assign rfl) ?_
    refine WL.last ?_
    replace hH := hH.first0
    have e := best_succ_no (g := g) (p := p) (q := q) (i := i) (fun h => by have := h.1; unfold endN at this; omega)
    refine WN.round (i + 1) (by exact ⟨rfl, rfl, rfl, congrArg (fun x => some (vint (bestC x))) e.symm, congrArg (fun x => some (vint (bestF x))) e.symm, rfl, rfl, rfl, trivial⟩) ?_ ?_
    · exact ⟨hH.first0, by omega⟩
    · (try dsimp only); omega
  have hc1' := hc1; try simp only [decide_eq_true_eq, decide_eq_false_iff_not, Bool.not_eq_true', Bool.not_eq_false', Bool.not_eq_true, Bool.not_eq_false] at hc1'
  refine WC.exit ?_
  refine WN.exitThen ?_
  refine WN.exitThen ?_
  refine WN.exitHere ?_
  refine WN.next ?_
  refine WC.seq ?_
  refine WC.region ?_
  refine WL.u rfl rfl (Wt.plain rfl) (Ex.move rfl) ?_
  refine WL.u rfl rfl (Wt.plain rfl) (Ex.move rfl) ?_
  refine WL.u rfl rfl (Wt.plain rfl) (Ex.assign rfl) ?_
  refine WL.u rfl rfl (Wt.plain rfl) (Ex.assign rfl) ?_
  refine WL.next ?_
  refine WC.ret ?_
  refine WN.body2 rfl rfl rfl ?_
  have hiN : i = 3 ^ (nR g * nC g) := by omega
  rw [hiN]
  exact ⟨rfl, hH.keep⟩

theorem iaimed1 (h g : Grid) (a2 a : Option Addr) (cap2 cap b4 b5 b3 b10 b9 p q : Nat) (lv : Int) (xo : Value) (w : World) (hh : Sl rStr w a2 h) (hha : Off [b10, b9] a2 h) (hg : Sl rStr w a g) (hga : Off [b10, b9] a g) (hG : GridOk g) (hGh : GridOk h) (hn : nR h = nR g) (hm : nC h = nC g) (hp : p < ports h) (hb10 : w.heap[b10]? = some (.cells #[vint lv] 3 (0, 0))) (hb9 : w.heap[b9]? = some (.cells #[xo] 22 (0, 0))) (h4 : w.cell? ⟨b4, 0, none⟩ = some (vint p)) (h5 : w.cell? ⟨b5, 0, none⟩ = some (vint q)) (h3 : w.cell? ⟨b3, 0, none⟩ = some (.slice a g.length cap)) (hn4 : b4 ∉ [b10, b9]) (hn5 : b5 ∉ [b10, b9]) (hn3 : b3 ∉ [b10, b9]) (hne : b10 ≠ b9) : Fn Try.prog 95 [.slice a2 h.length cap2, vptr b4 0, vptr b5 0, vptr b3 0, vptr b10 0, vptr b9 0] w (fun v w1 => ∃ lv1 x1, Keep [b10, b9] w w1 ∧ w1.heap[b10]? = some (.cells #[vint lv1] 3 (0, 0)) ∧ w1.heap[b9]? = some (.cells #[x1] 22 (0, 0)) ∧ (((way h p).2 = q ∧ (lv < 0 ∨ (apart g h : Int) < lv)) ∧ lv1 = apart g h ∧ x1 = .slice a2 h.length cap2 ∨ ¬ ((way h p).2 = q ∧ (lv < 0 ∨ (apart g h : Int) < lv)) ∧ lv1 = lv ∧ x1 = xo)) := by
  refine Fn.enter (n := 31) Try.func95 rfl rfl rfl ?_
  show WC _ _ _ _ [(0, .slice a2 h.length cap2), (1, vptr b4 0), (2, vptr b5 0), (3, vptr b3 0), (4, vptr b10 0), (5, vptr b9 0)] _
  have hH := Hp.at2 hb10 hb9 hne
  refine WC.seq ?_
  refine WC.seq ?_
  refine WC.region ?_
  refine WL.u rfl rfl (Wt.plain rfl) (Ex.move rfl) ?_
  refine WL.u rfl rfl (Wt.plain rfl) (Ex.load flat3 rfl h4) ?_
  refine WL.call callable58 rfl (Wt.plain rfl) rfl rfl (ibeam _ _ _ p _ (hh.keepO hH.keep hha) hGh hp) ?_
  rintro _ wn ⟨x, rfl, hC, hN⟩; replace hH := hH.call hC
  refine WL.u rfl rfl (Wt.plain rfl) (Ex.move rfl) ?_
  refine WL.u rfl rfl (Wt.plain rfl) (Ex.extract rfl rfl) ?_
  refine WL.u rfl rfl (Wt.plain rfl) (Ex.extract rfl rfl) ?_
  refine WL.u rfl rfl (Wt.plain rfl) (Ex.assign rfl) ?_
  refine WL.u rfl rfl (Wt.plain rfl) (Ex.assign rfl) ?_
  refine WL.next ?_
  refine WC.seq ?_
  refine WC.region ?_
  refine WL.u rfl rfl (Wt.plain rfl) (Ex.move rfl) ?_
  refine WL.u rfl rfl (Wt.plain rfl) (Ex.load flat3 rfl (hH.keep.cell h5 hn5)) ?_
  refine WL.u rfl rfl (Wt.plain rfl) (Ex.neq rfl rfl) ?_
  refine WL.next ?_
  refine WC.cond rfl (fun hc1 => ?_) (fun hc1 => ?_)
  · have hc1' := hc1; try simp only [decide_eq_true_eq, decide_eq_false_iff_not, Bool.not_eq_true', Bool.not_eq_false', Bool.not_eq_true, Bool.not_eq_false] at hc1'
    refine WC.ret ?_
    refine WN.retThen ?_
    refine WN.body0 rfl ?_
    exact ⟨lv, xo, hH.keep, hH.at 0 rfl, hH.at 1 rfl, .inr ⟨fun h => by have := h.1; omega, rfl, rfl⟩⟩
  have hc1' := hc1; try simp only [decide_eq_true_eq, decide_eq_false_iff_not, Bool.not_eq_true', Bool.not_eq_false', Bool.not_eq_true, Bool.not_eq_false] at hc1'
  refine WC.skip ?_
  refine WN.next ?_
  refine WC.seq ?_
  refine WC.region ?_
  refine WL.u rfl rfl (Wt.plain rfl) (Ex.load flat22 rfl (hH.keep.cell h3 hn3)) ?_
  refine WL.u rfl rfl (Wt.plain rfl) (Ex.move rfl) ?_
  refine WL.call callable96 rfl (Wt.plain rfl) rfl rfl (icost g h _ _ _ _ _ (hg.keepO hH.keep hga) (hh.keepO hH.keep hha) hG hGh hn hm) ?_
  rintro _ wn ⟨rfl, hC⟩; replace hH := hH.dr hC; clear hC
  refine WL.u rfl rfl (Wt.plain rfl) (Ex.assign rfl) ?_
  refine WL.next ?_
  refine WC.seq ?_
  refine WC.region ?_
  refine WL.u rfl rfl (Wt.plain rfl) (Ex.loadHp flat3 rfl hH rfl) ?_
  refine WL.u rfl rfl (Wt.plain rfl) (Ex.lss rfl rfl) ?_
  refine WL.u rfl rfl (Wt.plain rfl) (Ex.move rfl) ?_
  refine WL.split (t := 24) rfl (fun hg3_2 => ?_) (fun hg3_2 => ?_)
  · have hg3_2' := hg3_2; try simp only [decide_eq_true_eq, decide_eq_false_iff_not, Bool.not_eq_true', Bool.not_eq_false', Bool.not_eq_true, Bool.not_eq_false] at hg3_2'
    refine WL.pass rfl rfl (Wt.guard' rfl rfl rfl hg3_2 rfl) ?_
    refine WL.pass rfl rfl (Wt.guard' rfl rfl rfl hg3_2 rfl) ?_
    refine WL.pass rfl rfl (Wt.guard' rfl rfl rfl hg3_2 rfl) ?_
    refine WL.u rfl rfl (Wt.plain rfl) (Ex.pickT rfl hg3_2 rfl) ?_
    refine WL.next ?_
    refine WC.condT rfl rfl ?_
    refine WC.region ?_
    refine WL.u rfl rfl (Wt.plain rfl) (Ex.move rfl) ?_
    refine WL.u rfl rfl (Wt.plain rfl) (Ex.move rfl) ?_
    replace hH := hH.f1
    refine WL.store1 ty22 rfl rfl rfl (Wt.plain rfl) hH (by first | decide | simp) rfl (fun wn hk hH => ?_)
    replace hH := hH.f1
    refine WL.store1 ty3 rfl rfl rfl (Wt.plain rfl) hH (by first | decide | simp) rfl (fun wn hk hH => ?_)
    refine WL.last ?_
    refine WN.body0n rfl ?_
    exact ⟨_, _, hH.keep, hH.at 0 rfl, hH.at 1 rfl, .inl ⟨⟨by omega, by omega⟩, rfl, rfl⟩⟩
  have hg3_2' := hg3_2; try simp only [decide_eq_true_eq, decide_eq_false_iff_not, Bool.not_eq_true', Bool.not_eq_false', Bool.not_eq_true, Bool.not_eq_false] at hg3_2'
  refine WL.u rfl rfl (Wt.guard' rfl rfl rfl hg3_2 rfl) (Ex.move rfl) ?_
  refine WL.u rfl rfl (Wt.guard' rfl rfl rfl hg3_2 rfl) (Ex.loadHp flat3 rfl hH rfl) ?_
  refine WL.u rfl rfl (Wt.guard' rfl rfl rfl hg3_2 rfl) (Ex.lss rfl rfl) ?_
  refine WL.u rfl rfl (Wt.plain rfl) (Ex.pickF rfl hg3_2 rfl) ?_
  refine WL.next ?_
  refine WC.cond rfl (fun hc2 => ?_) (fun hc2 => ?_)
  · have hc2' := hc2; try simp only [decide_eq_true_eq, decide_eq_false_iff_not, Bool.not_eq_true', Bool.not_eq_false', Bool.not_eq_true, Bool.not_eq_false] at hc2'
    refine WC.region ?_
    refine WL.u rfl rfl (Wt.plain rfl) (Ex.move rfl) ?_
    refine WL.u rfl rfl (Wt.plain rfl) (Ex.move rfl) ?_
    replace hH := hH.f1
    refine WL.store1 ty22 rfl rfl rfl (Wt.plain rfl) hH (by first | decide | simp) rfl (fun wn hk hH => ?_)
    replace hH := hH.f1
    refine WL.store1 ty3 rfl rfl rfl (Wt.plain rfl) hH (by first | decide | simp) rfl (fun wn hk hH => ?_)
    refine WL.last ?_
    refine WN.body0n rfl ?_
    exact ⟨_, _, hH.keep, hH.at 0 rfl, hH.at 1 rfl, .inl ⟨⟨by omega, by omega⟩, rfl, rfl⟩⟩
  have hc2' := hc2; try simp only [decide_eq_true_eq, decide_eq_false_iff_not, Bool.not_eq_true', Bool.not_eq_false', Bool.not_eq_true, Bool.not_eq_false] at hc2'
  refine WC.skip ?_
  refine WN.body0n rfl ?_
  exact ⟨lv, xo, hH.keep, hH.at 0 rfl, hH.at 1 rfl, .inr ⟨fun h => by have := h.2; omega, rfl, rfl⟩⟩

end Go.Proofs.Ytjejdebmlgjdeaa
