/- The laws' own words on lists of ints: equal, marked, held. -/
import Derived.Test.YtmlkabddhdkpaaaWays
import Derived.Test.YtmlkabddhdkpaaaRd
namespace Go.Proofs.Ytmlkabddhdkpaaa
set_option maxRecDepth 100000
set_option linter.unusedSimpArgs false
set_option linter.unusedVariables false
open Go Go.RowKit

def marks (k : Int) (n : Nat) : List Int := (List.range n).map fun i : Nat => k + (i : Int)
theorem marks_len (k : Int) (n : Nat) : (marks k n).length = n := by simp [marks]
theorem marks_get (k : Int) (n i : Nat) (h : i < n) : (marks k n)[i]? = some (k + (i : Int)) := by
  unfold marks
  rw [List.getElem?_map, List.getElem?_range h]; rfl
theorem ext_int {g h : List Int} (hl : g.length = h.length) (hI : ∀ j, j < g.length → g.getD j 0 = h.getD j 0) : g = h :=
  List.ext_getElem hl fun i h1 h2 => by
    have := hI i h1
    rwa [List.getD_eq_getElem?_getD, List.getD_eq_getElem?_getD, List.getElem?_eq_getElem h1, List.getElem?_eq_getElem h2] at this
theorem marks_of {m : List Int} {k : Int} {n : Nat} (hl : m.length = n) (h : ∀ j, j < n → m.getD j 0 = k + (j : Int)) : m = marks k n := by
  refine ext_int (by rw [hl, marks_len]) (fun j hj => ?_)
  rw [h j (by omega), List.getD_eq_getElem?_getD, marks_get k n j (by omega)]; rfl

theorem eqIntS (g h : List Int) (a a2 : Option Addr) (cap cap2 : Nat) (w : World) (hg : Sl rInt w a g) (hh : Sl rInt w a2 h) : Fn Try.prog 7 [.slice a g.length cap, .slice a2 h.length cap2] w (fun v w1 => v = .bool (decide (g = h)) ∧ Dr w w1) := by
  refine Fn.enter (n := 26) Try.func7 rfl rfl rfl ?_
  show WC _ _ _ _ [(0, .slice a g.length cap), (1, .slice a2 h.length cap2)] _
  have hD := Dr.refl w
  have hm := hg.1
  refine WC.seq ?_
  refine WC.region ?_
  refine WL.u rfl rfl (Wt.plain rfl) (Ex.assign rfl) ?_
  refine WL.next ?_
  refine WC.seq ?_
  refine WC.seq ?_
  refine WC.region ?_
  refine WL.u rfl rfl (Wt.plain rfl) (Ex.move rfl) ?_
  refine WL.u rfl rfl (Wt.plain rfl) (Ex.lenSl Try.underlying22 rfl) ?_
  refine WL.u rfl rfl (Wt.plain rfl) (Ex.move rfl) ?_
  refine WL.u rfl rfl (Wt.plain rfl) (Ex.lenSl Try.underlying22 rfl) ?_
  refine WL.u rfl rfl (Wt.plain rfl) (Ex.neq rfl rfl) ?_
  refine WL.next ?_
  refine WC.cond rfl (fun hc1 => ?_) (fun hc1 => ?_)
  · have hc1' := hc1; try simp only [decide_eq_true_eq, decide_eq_false_iff_not, Bool.not_eq_true', Bool.not_eq_false', Bool.not_eq_true, Bool.not_eq_false] at hc1'
    refine WC.seq ?_
    refine WC.region ?_
    refine WL.u rfl rfl (Wt.plain rfl) (Ex.assign rfl) ?_
    refine WL.next ?_
    refine WC.ret ?_
    refine WN.retThen ?_
    refine WN.body1 rfl rfl ?_
    refine ⟨congrArg Value.bool (decide_eq_false fun e => ?_).symm, hD⟩
    subst e; simp at hc1
  have hc1' := hc1; try simp only [decide_eq_true_eq, decide_eq_false_iff_not, Bool.not_eq_true', Bool.not_eq_false', Bool.not_eq_true, Bool.not_eq_false] at hc1'
  have hll : g.length = h.length := by simp at hc1; omega
  refine WC.skip ?_
  refine WN.next ?_
  refine WC.seq ?_
  refine WC.seq ?_
  refine WC.region ?_
  refine WL.u rfl rfl (Wt.plain rfl) (Ex.assign rfl) ?_
  refine WL.next ?_
  refine WC.block ?_
  refine WC.loop (ι := Nat) (fun i => [(0, .slice a g.length cap), (1, .slice a2 h.length cap2), (5, vint i)]) (fun i wn => Dr w wn ∧ i ≤ g.length ∧ ∀ j, j < i → g.getD j 0 = h.getD j 0) (fun i => g.length - i) (0) (by exact ⟨rfl, rfl, rfl, trivial⟩) ?_ ?_
  · exact ⟨hD, by omega, fun j hj => by omega⟩
  rintro i wn ⟨hD, hi, hI⟩
  intro mu0 hmu; try dsimp only at hmu
  show WC _ _ _ _ [(0, .slice a g.length cap), (1, .slice a2 h.length cap2), (5, vint i)] _
  refine WC.seq ?_
  refine WC.seq ?_
  refine WC.region ?_
  refine WL.u rfl rfl (Wt.plain rfl) (Ex.move rfl) ?_
  refine WL.u rfl rfl (Wt.plain rfl) (Ex.move rfl) ?_
  refine WL.u rfl rfl (Wt.plain rfl) (Ex.lenSl Try.underlying22 rfl) ?_
  refine WL.u rfl rfl (Wt.plain rfl) (Ex.lss rfl rfl) ?_
  refine WL.next ?_
  refine WC.cond rfl (fun hc2 => ?_) (fun hc2 => ?_)
  · have hc2' := hc2; try simp only [decide_eq_true_eq, decide_eq_false_iff_not, Bool.not_eq_true', Bool.not_eq_false', Bool.not_eq_true, Bool.not_eq_false] at hc2'
    have hlt : i < g.length := by omega
    obtain ⟨b, off, rfl⟩ := hg.addr (by omega)
    obtain ⟨b2, off2, rfl⟩ := hh.addr (by omega)
    refine WC.skip ?_
    refine WN.next ?_
    refine WC.seq ?_
    refine WC.block ?_
    refine WC.seq ?_
    refine WC.quiet rfl (by kernel_rfl) ?_
    refine WQ.u rfl rfl (Wt.plain rfl) (fun w hC => Ex.move rfl) ?_
    refine WQ.u rfl rfl (Wt.plain rfl) (fun w hC => Ex.move rfl) ?_
    refine WQ.u rfl rfl (Wt.plain rfl) (fun w hC => Ex.indexAddr Try.underlying22 ty3 rfl rfl (by omega)) ?_
    refine WQ.u rfl rfl (Wt.plain rfl) (fun w hC => Ex.loadSl flat3 (hg.dr (hD.trans hC)) rfl rfl (getD_get g i 0 hlt)) ?_
    refine WQ.u rfl rfl (Wt.plain rfl) (fun w hC => Ex.move rfl) ?_
    refine WQ.u rfl rfl (Wt.plain rfl) (fun w hC => Ex.move rfl) ?_
    refine WQ.u rfl rfl (Wt.plain rfl) (fun w hC => Ex.indexAddr Try.underlying22 ty3 rfl rfl (by omega)) ?_
    refine WQ.u rfl rfl (Wt.plain rfl) (fun w hC => Ex.loadSl flat3 (hh.dr (hD.trans hC)) rfl rfl (getD_get h i 0 (by omega))) ?_
    refine WQ.u rfl rfl (Wt.plain rfl) (fun w hC => Ex.neq rfl rfl) ?_
    refine WQ.nil ?_
    intro wn hC; replace hD := hD.trans hC; clear hC
    refine WN.next ?_
    refine WC.cond rfl (fun hc3 => ?_) (fun hc3 => ?_)
    · have hc3' := hc3; try simp only [decide_eq_true_eq, decide_eq_false_iff_not, Bool.not_eq_true', Bool.not_eq_false', Bool.not_eq_true, Bool.not_eq_false] at hc3'
      refine WC.seq ?_
      refine WC.region ?_
      refine WL.u rfl rfl (Wt.plain rfl) (Ex.assign rfl) ?_
      refine WL.next ?_
      refine WC.ret ?_
      refine WN.retBlock ?_
      refine WN.retThen ?_
      refine WN.retThen ?_
      refine WN.retBlock ?_
      refine WN.retThen ?_
      refine WN.body1 rfl rfl ?_
      refine ⟨congrArg Value.bool (decide_eq_false fun e => ?_).symm, hD⟩
      subst e; simp at hc3
    have hc3' := hc3; try simp only [decide_eq_true_eq, decide_eq_false_iff_not, Bool.not_eq_true', Bool.not_eq_false', Bool.not_eq_true, Bool.not_eq_false] at hc3'
    refine WC.skip ?_
    refine WN.normalBlock ?_
    refine WN.next ?_
    refine WC.region ?_
    refine WL.u rfl rfl (Wt.plain rfl) (Ex.move rfl) ?_
    refine WL.u rfl rfl (Wt.plain rfl) (Ex.add rfl rfl (by omega)) ?_
    refine WL.u rfl rfl (Wt.plain rfl) (Ex.assign rfl) ?_
    refine WL.last ?_
    refine WN.round (i + 1) (by exact ⟨rfl, rfl, rfl, trivial⟩) ?_ ?_
    · refine ⟨hD, by omega, fun j hj => ?_⟩
      rcases Nat.lt_succ_iff_lt_or_eq.1 hj with h1 | rfl
      · exact hI j h1
      · simpa using hc3
    · (try dsimp only); omega
  have hc2' := hc2; try simp only [decide_eq_true_eq, decide_eq_false_iff_not, Bool.not_eq_true', Bool.not_eq_false', Bool.not_eq_true, Bool.not_eq_false] at hc2'
  refine WC.exit ?_
  refine WN.exitThen ?_
  refine WN.exitThen ?_
  refine WN.exitHere ?_
  refine WN.next ?_
  refine WC.seq ?_
  refine WC.region ?_
  refine WL.u rfl rfl (Wt.plain rfl) (Ex.assign rfl) ?_
  refine WL.next ?_
  refine WC.ret ?_
  refine WN.body1 rfl rfl ?_
  exact ⟨congrArg Value.bool (decide_eq_true (ext_int hll (fun j hj => hI j (by omega)))).symm, hD⟩

theorem sameInts (g h : List Int) (a a2 : Option Addr) (cap cap2 : Nat) (w : World) (hg : Sl rInt w a g) (hh : Sl rInt w a2 h) : Fn Try.prog 11 [.slice a g.length cap, .slice a2 h.length cap2] w (fun v w1 => v = .bool (decide (g = h)) ∧ Dr w w1) := by
  refine Fn.enter (n := 26) Try.func11 rfl rfl rfl ?_
  show WC _ _ _ _ [(0, .slice a g.length cap), (1, .slice a2 h.length cap2)] _
  have hD := Dr.refl w
  have hm := hg.1
  refine WC.seq ?_
  refine WC.region ?_
  refine WL.u rfl rfl (Wt.plain rfl) (Ex.assign rfl) ?_
  refine WL.next ?_
  refine WC.seq ?_
  refine WC.seq ?_
  refine WC.region ?_
  refine WL.u rfl rfl (Wt.plain rfl) (Ex.move rfl) ?_
  refine WL.u rfl rfl (Wt.plain rfl) (Ex.lenSl Try.underlying22 rfl) ?_
  refine WL.u rfl rfl (Wt.plain rfl) (Ex.move rfl) ?_
  refine WL.u rfl rfl (Wt.plain rfl) (Ex.lenSl Try.underlying22 rfl) ?_
  refine WL.u rfl rfl (Wt.plain rfl) (Ex.neq rfl rfl) ?_
  refine WL.next ?_
  refine WC.cond rfl (fun hc1 => ?_) (fun hc1 => ?_)
  · have hc1' := hc1; try simp only [decide_eq_true_eq, decide_eq_false_iff_not, Bool.not_eq_true', Bool.not_eq_false', Bool.not_eq_true, Bool.not_eq_false] at hc1'
    refine WC.seq ?_
    refine WC.region ?_
    refine WL.u rfl rfl (Wt.plain rfl) (Ex.assign rfl) ?_
    refine WL.next ?_
    refine WC.ret ?_
    refine WN.retThen ?_
    refine WN.body1 rfl rfl ?_
    refine ⟨congrArg Value.bool (decide_eq_false fun e => ?_).symm, hD⟩
    subst e; simp at hc1
  have hc1' := hc1; try simp only [decide_eq_true_eq, decide_eq_false_iff_not, Bool.not_eq_true', Bool.not_eq_false', Bool.not_eq_true, Bool.not_eq_false] at hc1'
  have hll : g.length = h.length := by simp at hc1; omega
  refine WC.skip ?_
  refine WN.next ?_
  refine WC.seq ?_
  refine WC.seq ?_
  refine WC.region ?_
  refine WL.u rfl rfl (Wt.plain rfl) (Ex.assign rfl) ?_
  refine WL.next ?_
  refine WC.block ?_
  refine WC.loop (ι := Nat) (fun i => [(0, .slice a g.length cap), (1, .slice a2 h.length cap2), (5, vint i)]) (fun i wn => Dr w wn ∧ i ≤ g.length ∧ ∀ j, j < i → g.getD j 0 = h.getD j 0) (fun i => g.length - i) (0) (by exact ⟨rfl, rfl, rfl, trivial⟩) ?_ ?_
  · exact ⟨hD, by omega, fun j hj => by omega⟩
  rintro i wn ⟨hD, hi, hI⟩
  intro mu0 hmu; try dsimp only at hmu
  show WC _ _ _ _ [(0, .slice a g.length cap), (1, .slice a2 h.length cap2), (5, vint i)] _
  refine WC.seq ?_
  refine WC.seq ?_
  refine WC.region ?_
  refine WL.u rfl rfl (Wt.plain rfl) (Ex.move rfl) ?_
  refine WL.u rfl rfl (Wt.plain rfl) (Ex.move rfl) ?_
  refine WL.u rfl rfl (Wt.plain rfl) (Ex.lenSl Try.underlying22 rfl) ?_
  refine WL.u rfl rfl (Wt.plain rfl) (Ex.lss rfl rfl) ?_
  refine WL.next ?_
  refine WC.cond rfl (fun hc2 => ?_) (fun hc2 => ?_)
  · have hc2' := hc2; try simp only [decide_eq_true_eq, decide_eq_false_iff_not, Bool.not_eq_true', Bool.not_eq_false', Bool.not_eq_true, Bool.not_eq_false] at hc2'
    have hlt : i < g.length := by omega
    obtain ⟨b, off, rfl⟩ := hg.addr (by omega)
    obtain ⟨b2, off2, rfl⟩ := hh.addr (by omega)
    refine WC.skip ?_
    refine WN.next ?_
    refine WC.seq ?_
    refine WC.block ?_
    refine WC.seq ?_
    refine WC.quiet rfl (by kernel_rfl) ?_
    refine WQ.u rfl rfl (Wt.plain rfl) (fun w hC => Ex.move rfl) ?_
    refine WQ.u rfl rfl (Wt.plain rfl) (fun w hC => Ex.move rfl) ?_
    refine WQ.u rfl rfl (Wt.plain rfl) (fun w hC => Ex.indexAddr Try.underlying22 ty3 rfl rfl (by omega)) ?_
    refine WQ.u rfl rfl (Wt.plain rfl) (fun w hC => Ex.loadSl flat3 (hg.dr (hD.trans hC)) rfl rfl (getD_get g i 0 hlt)) ?_
    refine WQ.u rfl rfl (Wt.plain rfl) (fun w hC => Ex.move rfl) ?_
    refine WQ.u rfl rfl (Wt.plain rfl) (fun w hC => Ex.move rfl) ?_
    refine WQ.u rfl rfl (Wt.plain rfl) (fun w hC => Ex.indexAddr Try.underlying22 ty3 rfl rfl (by omega)) ?_
    refine WQ.u rfl rfl (Wt.plain rfl) (fun w hC => Ex.loadSl flat3 (hh.dr (hD.trans hC)) rfl rfl (getD_get h i 0 (by omega))) ?_
    refine WQ.u rfl rfl (Wt.plain rfl) (fun w hC => Ex.neq rfl rfl) ?_
    refine WQ.nil ?_
    intro wn hC; replace hD := hD.trans hC; clear hC
    refine WN.next ?_
    refine WC.cond rfl (fun hc3 => ?_) (fun hc3 => ?_)
    · have hc3' := hc3; try simp only [decide_eq_true_eq, decide_eq_false_iff_not, Bool.not_eq_true', Bool.not_eq_false', Bool.not_eq_true, Bool.not_eq_false] at hc3'
      refine WC.seq ?_
      refine WC.region ?_
      refine WL.u rfl rfl (Wt.plain rfl) (Ex.assign rfl) ?_
      refine WL.next ?_
      refine WC.ret ?_
      refine WN.retBlock ?_
      refine WN.retThen ?_
      refine WN.retThen ?_
      refine WN.retBlock ?_
      refine WN.retThen ?_
      refine WN.body1 rfl rfl ?_
      refine ⟨congrArg Value.bool (decide_eq_false fun e => ?_).symm, hD⟩
      subst e; simp at hc3
    have hc3' := hc3; try simp only [decide_eq_true_eq, decide_eq_false_iff_not, Bool.not_eq_true', Bool.not_eq_false', Bool.not_eq_true, Bool.not_eq_false] at hc3'
    refine WC.skip ?_
    refine WN.normalBlock ?_
    refine WN.next ?_
    refine WC.region ?_
    refine WL.u rfl rfl (Wt.plain rfl) (Ex.move rfl) ?_
    refine WL.u rfl rfl (Wt.plain rfl) (Ex.add rfl rfl (by omega)) ?_
    refine WL.u rfl rfl (Wt.plain rfl) (Ex.assign rfl) ?_
    refine WL.last ?_
    refine WN.round (i + 1) (by exact ⟨rfl, rfl, rfl, trivial⟩) ?_ ?_
    · refine ⟨hD, by omega, fun j hj => ?_⟩
      rcases Nat.lt_succ_iff_lt_or_eq.1 hj with h1 | rfl
      · exact hI j h1
      · simpa using hc3
    · (try dsimp only); omega
  have hc2' := hc2; try simp only [decide_eq_true_eq, decide_eq_false_iff_not, Bool.not_eq_true', Bool.not_eq_false', Bool.not_eq_true, Bool.not_eq_false] at hc2'
  refine WC.exit ?_
  refine WN.exitThen ?_
  refine WN.exitThen ?_
  refine WN.exitHere ?_
  refine WN.next ?_
  refine WC.seq ?_
  refine WC.region ?_
  refine WL.u rfl rfl (Wt.plain rfl) (Ex.assign rfl) ?_
  refine WL.next ?_
  refine WC.ret ?_
  refine WN.body1 rfl rfl ?_
  exact ⟨congrArg Value.bool (decide_eq_true (ext_int hll (fun j hj => hI j (by omega)))).symm, hD⟩

theorem markIntS (b cap : Nat) (cur : Array Value) (l : List Int) (k : Int) (w : World) (hb : w.heap[b]? = some (.cells cur 3 (0, 0))) (ho : Own rInt cur cap l) (hk : -1000000 ≤ k ∧ k ≤ 1000000) (hl : l.length ≤ 1000000) : Fn Try.prog 8 [vsl b l.length cap, vint k] w (fun v w1 => ∃ cur1, v = vint (k + l.length) ∧ Keep [b] w w1 ∧ w1.heap[b]? = some (.cells cur1 3 (0, 0)) ∧ Own rInt cur1 cap (marks k l.length)) := by
  refine Fn.enter (n := 19) Try.func8 rfl rfl rfl ?_
  show WC _ _ _ _ [(0, vsl b l.length cap), (1, vint k)] _
  have hH := Hp.at1 hb
  refine WC.seq ?_
  refine WC.region ?_
  refine WL.u rfl rfl (Wt.plain rfl) (Ex.assign rfl) ?_
  refine WL.next ?_
  refine WC.seq ?_
  refine WC.seq ?_
  refine WC.region ?_
  refine WL.u rfl rfl (Wt.plain rfl) (Ex.assign rfl) ?_
  refine WL.next ?_
  refine WC.block ?_
  refine WC.loop (ι := Nat × (Array Value) × (List Int)) (fun (i, cur, m) => [(0, vsl b l.length cap), (1, vint (k + i)), (5, vint i)]) (fun (i, cur, m) wn => Hp [b] w wn [(b, .cells cur 3 (0, 0))] ∧ Own rInt cur cap m ∧ m.length = l.length ∧ i ≤ l.length ∧ ∀ j, j < i → m.getD j 0 = k + (j : Int)) (fun (i, cur, m) => l.length - i) ((0, cur, l)) (by exact ⟨rfl, congrArg (fun x => some (Value.int IntKind.i64 x)) (show k = k + ((0 : Nat) : Int) by omega), rfl, trivial⟩) ?_ ?_
  · exact ⟨hH, ho, rfl, by omega, fun j hj => by omega⟩
  rintro ⟨i, cur, m⟩ wn ⟨hH, hoa, hml, hi, hI⟩
  intro mu0 hmu; try dsimp only at hmu
  show WC _ _ _ _ [(0, vsl b l.length cap), (1, vint (k + i)), (5, vint i)] _
  refine WC.seq ?_
  refine WC.seq ?_
  refine WC.region ?_
  refine WL.u rfl rfl (Wt.plain rfl) (Ex.move rfl) ?_
  refine WL.u rfl rfl (Wt.plain rfl) (Ex.move rfl) ?_
  refine WL.u rfl rfl (Wt.plain rfl) (Ex.lenSl Try.underlying22 rfl) ?_
  refine WL.u rfl rfl (Wt.plain rfl) (Ex.lss rfl rfl) ?_
  refine WL.next ?_
  refine WC.cond rfl (fun hc1 => ?_) (fun hc1 => ?_)
  · have hc1' := hc1; try simp only [decide_eq_true_eq, decide_eq_false_iff_not, Bool.not_eq_true', Bool.not_eq_false', Bool.not_eq_true, Bool.not_eq_false] at hc1'
    have hlt : i < l.length := by omega
    refine WC.skip ?_
    refine WN.next ?_
    refine WC.seq ?_
    refine WC.block ?_
    refine WC.seq ?_
    refine WC.region ?_
    refine WL.u rfl rfl (Wt.plain rfl) (Ex.move rfl) ?_
    refine WL.u rfl rfl (Wt.plain rfl) (Ex.move rfl) ?_
    refine WL.u rfl rfl (Wt.plain rfl) (Ex.move rfl) ?_
    refine WL.u rfl rfl (Wt.plain rfl) (Ex.indexAddr Try.underlying22 ty3 rfl rfl (by omega)) ?_
    refine WL.store1 ty3 rfl rfl rfl (Wt.plain rfl) hH (hoa.idx rfl (by omega)) (by simp) (fun wn hk hH => ?_)
    replace hoa := hoa.set rfl i (k + i)
    refine WL.next ?_
    refine WC.region ?_
    refine WL.u rfl rfl (Wt.plain rfl) (Ex.move rfl) ?_
    refine WL.u rfl rfl (Wt.plain rfl) (Ex.add rfl rfl (by omega)) ?_
    refine WL.u rfl rfl (Wt.plain rfl) (Ex.assign rfl) ?_
    refine WL.last ?_
    refine WN.normalBlock ?_
    refine WN.next ?_
    refine WC.region ?_
    refine WL.u rfl rfl (Wt.plain rfl) (Ex.move rfl) ?_
    refine WL.u rfl rfl (Wt.plain rfl) (Ex.add rfl rfl (by omega)) ?_
    refine WL.u rfl rfl (Wt.plain rfl) (Ex.assign rfl) ?_
    refine WL.last ?_
    refine WN.round (i + 1, cur.setIfInBounds (0 + (i : Int).toNat * 1) (rInt.val (k + i)), m.set i (k + i)) (by exact ⟨rfl, congrArg (fun x => some (Value.int IntKind.i64 x)) (show k + (i : Int) + 1 = k + ((i + 1 : Nat) : Int) by omega), rfl, trivial⟩) ?_ ?_
    · refine ⟨hH, hoa, by simp [hml], by omega, fun j hj => ?_⟩
      rcases Nat.lt_succ_iff_lt_or_eq.1 hj with h | rfl
      · rw [List.getD_eq_getElem?_getD, List.getElem?_set_ne (by omega), ← List.getD_eq_getElem?_getD]; exact hI j h
      · rw [List.getD_eq_getElem?_getD, List.getElem?_set_self (by omega)]; rfl
    · (try dsimp only); omega
  have hc1' := hc1; try simp only [decide_eq_true_eq, decide_eq_false_iff_not, Bool.not_eq_true', Bool.not_eq_false', Bool.not_eq_true, Bool.not_eq_false] at hc1'
  refine WC.exit ?_
  refine WN.exitThen ?_
  refine WN.exitThen ?_
  refine WN.exitHere ?_
  refine WN.next ?_
  refine WC.seq ?_
  refine WC.region ?_
  refine WL.u rfl rfl (Wt.plain rfl) (Ex.move rfl) ?_
  refine WL.u rfl rfl (Wt.plain rfl) (Ex.assign rfl) ?_
  refine WL.next ?_
  refine WC.ret ?_
  refine WN.body1 rfl rfl ?_
  have hieq : i = l.length := by omega
  rw [hieq] at hI ⊢
  exact ⟨cur, rfl, hH.keep, hH.at 0 rfl, by rw [← marks_of hml hI]; exact hoa⟩

theorem heldIntS (a : Option Addr) (cap : Nat) (k : Int) (n : Nat) (w : World) (hg : Sl rInt w a (marks k n)) (hk : -1000000 ≤ k ∧ k ≤ 1000000) (hn : n ≤ 1000000) : Fn Try.prog 9 [.slice a n cap, vint k] w (fun v w1 => v = vint (k + n) ∧ w1 = w) := by
  refine Fn.enter (n := 21) Try.func9 rfl rfl rfl ?_
  show WC _ _ _ _ [(0, .slice a n cap), (1, vint k)] _
  refine WC.seq ?_
  refine WC.region ?_
  refine WL.u rfl rfl (Wt.plain rfl) (Ex.assign rfl) ?_
  refine WL.next ?_
  refine WC.seq ?_
  refine WC.seq ?_
  refine WC.region ?_
  refine WL.u rfl rfl (Wt.plain rfl) (Ex.assign rfl) ?_
  refine WL.next ?_
  refine WC.block ?_
  refine WC.loop (ι := Nat) (fun i => [(0, .slice a n cap), (1, vint (k + i)), (5, vint i)]) (fun i wn => w = wn ∧ i ≤ n) (fun i => n - i) (0) (by exact ⟨rfl, congrArg (fun x => some (Value.int IntKind.i64 x)) (show k = k + ((0 : Nat) : Int) by omega), rfl, trivial⟩) ?_ ?_
  · exact ⟨rfl, by omega⟩
  rintro i wn ⟨rfl, hi⟩
  intro mu0 hmu; try dsimp only at hmu
  show WC _ _ _ _ [(0, .slice a n cap), (1, vint (k + i)), (5, vint i)] _
  refine WC.seq ?_
  refine WC.seq ?_
  refine WC.region ?_
  refine WL.u rfl rfl (Wt.plain rfl) (Ex.move rfl) ?_
  refine WL.u rfl rfl (Wt.plain rfl) (Ex.move rfl) ?_
  refine WL.u rfl rfl (Wt.plain rfl) (Ex.lenSl Try.underlying22 rfl) ?_
  refine WL.u rfl rfl (Wt.plain rfl) (Ex.lss rfl rfl) ?_
  refine WL.next ?_
  refine WC.cond rfl (fun hc1 => ?_) (fun hc1 => ?_)
  · have hc1' := hc1; try simp only [decide_eq_true_eq, decide_eq_false_iff_not, Bool.not_eq_true', Bool.not_eq_false', Bool.not_eq_true, Bool.not_eq_false] at hc1'
    have hlt : i < n := by omega
    obtain ⟨b, off, rfl⟩ := hg.addr (by rw [marks_len]; omega)
    refine WC.skip ?_
    refine WN.next ?_
    refine WC.seq ?_
    refine WC.block ?_
    refine WC.seq ?_
    refine WC.seq ?_
    refine WC.region ?_
    refine WL.u rfl rfl (Wt.plain rfl) (Ex.move rfl) ?_
    refine WL.u rfl rfl (Wt.plain rfl) (Ex.move rfl) ?_
    refine WL.u rfl rfl (Wt.plain rfl) (Ex.indexAddr Try.underlying22 ty3 rfl rfl (by omega)) ?_
    refine WL.u rfl rfl (Wt.plain rfl) (Ex.loadSl flat3 hg rfl rfl (marks_get k n i hlt)) ?_
    refine WL.u rfl rfl (Wt.plain rfl) (Ex.move rfl) ?_
    refine WL.u rfl rfl (Wt.plain rfl) (Ex.neq rfl rfl) ?_
    refine WL.next ?_
    refine WC.condF rfl (by simp) ?_
    refine WC.skip ?_
    refine WN.next ?_
    refine WC.region ?_
    refine WL.u rfl rfl (Wt.plain rfl) (Ex.move rfl) ?_
    refine WL.u rfl rfl (Wt.plain rfl) (Ex.add rfl rfl (by omega)) ?_
    refine WL.u rfl rfl (Wt.plain rfl) (Ex.assign rfl) ?_
    refine WL.last ?_
    refine WN.normalBlock ?_
    refine WN.next ?_
    refine WC.region ?_
    refine WL.u rfl rfl (Wt.plain rfl) (Ex.move rfl) ?_
    refine WL.u rfl rfl (Wt.plain rfl) (Ex.add rfl rfl (by omega)) ?_
    refine WL.u rfl rfl (Wt.plain rfl) (Ex.assign rfl) ?_
    refine WL.last ?_
    refine WN.round (i + 1) (by exact ⟨rfl, congrArg (fun x => some (Value.int IntKind.i64 x)) (show k + (i : Int) + 1 = k + ((i + 1 : Nat) : Int) by omega), rfl, trivial⟩) ?_ ?_
    · exact ⟨rfl, by omega⟩
    · (try dsimp only); omega
  have hc1' := hc1; try simp only [decide_eq_true_eq, decide_eq_false_iff_not, Bool.not_eq_true', Bool.not_eq_false', Bool.not_eq_true, Bool.not_eq_false] at hc1'
  refine WC.exit ?_
  refine WN.exitThen ?_
  refine WN.exitThen ?_
  refine WN.exitHere ?_
  refine WN.next ?_
  refine WC.seq ?_
  refine WC.region ?_
  refine WL.u rfl rfl (Wt.plain rfl) (Ex.move rfl) ?_
  refine WL.u rfl rfl (Wt.plain rfl) (Ex.assign rfl) ?_
  refine WL.next ?_
  refine WC.ret ?_
  refine WN.body1 rfl rfl ?_
  have hieq : i = n := by omega
  rw [hieq]
  exact ⟨rfl, rfl⟩


theorem take_sum_succ (l : List Int) (i : Nat) (h : i < l.length) : (l.take (i + 1)).sum = (l.take i).sum + l.getD i 0 := by
  rw [List.take_add_one, getD_get l i 0 h]; simp
theorem take_sum_nonneg {l : List Int} (h : ∀ j, 0 ≤ l.getD j 0) : ∀ i, i ≤ l.length → 0 ≤ (l.take i).sum
  | 0, _ => by simp
  | i + 1, hi => by
    rw [take_sum_succ l i (by omega)]
    have := take_sum_nonneg h i (by omega)
    have := h i
    omega
theorem take_sum_le {l : List Int} (h : ∀ j, 0 ≤ l.getD j 0) : ∀ d i, i + d = l.length → (l.take i).sum ≤ l.sum
  | 0, i, hd => by rw [show i = l.length by omega, List.take_length]; omega
  | d + 1, i, hd => by
    have h1 := take_sum_le h d (i + 1) (by omega)
    rw [take_sum_succ l i (by omega)] at h1
    have := h i
    omega

end Go.Proofs.Ytmlkabddhdkpaaa
