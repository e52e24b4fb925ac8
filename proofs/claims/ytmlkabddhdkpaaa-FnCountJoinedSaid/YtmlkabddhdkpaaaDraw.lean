/- The reader of a code; draws of grids and ports. -/
import Derived.Test.YtmlkabddhdkpaaaPBIs
import Derived.Test.YtmlkabddhdkpaaaRd
namespace Go.Proofs.Ytmlkabddhdkpaaa
set_option maxRecDepth 100000
set_option linter.unusedSimpArgs false
set_option linter.unusedVariables false
open Go Go.RowKit

theorem rowB {l : List UInt8} {i : Nat} (h : i < l.length) : l[i]? = some (l.getD i 0) := getD_get l i 0 h
theorem pickRet {x : Int} {n : Nat} (hn : 1 ≤ n) {Q : Prop} (q : Q) : ∃ k : Nat, Value.int IntKind.i64 (x % (n : Int)) = vint k ∧ k < max n 1 ∧ Q := by
  obtain ⟨k, h1, h2⟩ := remN x n hn
  exact ⟨k, congrArg (Value.int IntKind.i64) h1, by omega, q⟩
theorem set_len {g : Grid} {m M : Nat} (h : ∀ s ∈ g, s.length = m) {i : Nat} {x : Str} (hx : x.length ≤ M) (hm : m ≤ M) : ∀ s ∈ g.set i x, s.length ≤ M := fun s hs => by
  rcases List.mem_or_eq_of_mem_set hs with h1 | rfl
  · rw [h s h1]; exact hm
  · exact hx
theorem modN (p : Nat) (q : Int) (n : Nat) (hn : 0 < n) (hq : q = p) : q % (n : Int) = ((p % n : Nat) : Int) := by subst hq; exact (Int.natCast_emod p n).symm

theorem spick (r : Nat) (a : Option Addr) (l : List UInt8) (cap p : Nat) (n : Nat) (w : World) (hr : w.heap[r]? = some (rdo a l.length cap p)) (hc : Sl rByte w a l) (hca : Off [r] a l) (hl : l.length ≤ 2000) (hp : p ≤ 1000000) (hn : n ≤ 1000000) : Fn Try.prog 40 [vptr r 0, vint n] w (fun v w1 => ∃ k : Nat, v = vint k ∧ k < max n 1 ∧ Keep [r] w w1 ∧ w1.heap[r]? = some (rdo a l.length cap (p + 1))) := by
  refine Fn.enter (n := 99) Try.func40 rfl rfl rfl ?_
  show WC _ _ _ _ [(0, vptr r 0), (1, vint n)] _
  have hH := Hp.at1 hr
  refine WC.seq ?_
  refine WC.region ?_
  refine WL.u rfl rfl (Wt.plain rfl) (Ex.assign rfl) ?_
  refine WL.next ?_
  refine WC.seq ?_
  refine WC.region ?_
  refine WL.u rfl rfl (Wt.plain rfl) (Ex.move rfl) ?_
  refine WL.u rfl rfl (Wt.plain rfl) (Ex.move rfl) ?_
  refine WL.u rfl rfl (Wt.plain rfl) (Ex.nilCheck rfl) ?_
  refine WL.u rfl rfl (Wt.plain rfl) (Ex.fieldAddr fd84_1 rfl) ?_
  refine WL.u rfl rfl (Wt.plain rfl) (Ex.loadHp flat3 rfl hH rfl) ?_
  refine WL.u rfl rfl (Wt.plain rfl) (Ex.add rfl rfl (by omega)) ?_
  refine WL.u rfl rfl (Wt.plain rfl) (Ex.nilCheck rfl) ?_
  refine WL.u rfl rfl (Wt.plain rfl) (Ex.fieldAddr fd84_1 rfl) ?_
  refine WL.store1 ty3 rfl rfl rfl (Wt.plain rfl) hH (by simp) rfl (fun wn hk hH => ?_)
  replace hH : Hp [r] w wn [(r, rdo a l.length cap (p + 1))] := hH
  refine WL.next ?_
  refine WC.seq ?_
  refine WC.seq ?_
  refine WC.region ?_
  refine WL.u rfl rfl (Wt.plain rfl) (Ex.move rfl) ?_
  refine WL.u rfl rfl (Wt.plain rfl) (Ex.lss rfl rfl) ?_
  refine WL.u rfl rfl (Wt.plain rfl) (Ex.move rfl) ?_
  refine WL.split (t := 17) rfl (fun hg2_2 => ?_) (fun hg2_2 => ?_)
  · have hg2_2' := hg2_2; try simp only [decide_eq_true_eq, decide_eq_false_iff_not, Bool.not_eq_true', Bool.not_eq_false', Bool.not_eq_true, Bool.not_eq_false] at hg2_2'
    refine WL.pass rfl rfl (Wt.guard' rfl rfl rfl hg2_2 rfl) ?_
    refine WL.pass rfl rfl (Wt.guard' rfl rfl rfl hg2_2 rfl) ?_
    refine WL.pass rfl rfl (Wt.guard' rfl rfl rfl hg2_2 rfl) ?_
    refine WL.pass rfl rfl (Wt.guard' rfl rfl rfl hg2_2 rfl) ?_
    refine WL.pass rfl rfl (Wt.guard' rfl rfl rfl hg2_2 rfl) ?_
    refine WL.pass rfl rfl (Wt.guard' rfl rfl rfl hg2_2 rfl) ?_
    refine WL.u rfl rfl (Wt.plain rfl) (Ex.pickT rfl hg2_2 rfl) ?_
    refine WL.next ?_
    refine WC.condT rfl rfl ?_
    refine WC.seq ?_
    refine WC.region ?_
    refine WL.u rfl rfl (Wt.plain rfl) (Ex.assign rfl) ?_
    refine WL.next ?_
    refine WC.ret ?_
    refine WN.retThen ?_
    refine WN.body1 rfl rfl ?_
    exact ⟨0, rfl, by omega, hH.keep, hH.at 0 rfl⟩
  have hg2_2' := hg2_2; try simp only [decide_eq_true_eq, decide_eq_false_iff_not, Bool.not_eq_true', Bool.not_eq_false', Bool.not_eq_true, Bool.not_eq_false] at hg2_2'
  refine WL.u rfl rfl (Wt.guard' rfl rfl rfl hg2_2 rfl) (Ex.move rfl) ?_
  refine WL.u rfl rfl (Wt.guard' rfl rfl rfl hg2_2 rfl) (Ex.nilCheck rfl) ?_
  refine WL.u rfl rfl (Wt.guard' rfl rfl rfl hg2_2 rfl) (Ex.fieldAddr fd84_0 rfl) ?_
  refine WL.u rfl rfl (Wt.guard' rfl rfl rfl hg2_2 rfl) (Ex.loadHp flat28 rfl hH rfl) ?_
  refine WL.u rfl rfl (Wt.guard' rfl rfl rfl hg2_2 rfl) (Ex.lenSl Try.underlying28 rfl) ?_
  refine WL.u rfl rfl (Wt.guard' rfl rfl rfl hg2_2 rfl) (Ex.eql rfl rfl) ?_
  refine WL.u rfl rfl (Wt.plain rfl) (Ex.pickF rfl hg2_2 rfl) ?_
  refine WL.next ?_
  refine WC.cond rfl (fun hc1 => ?_) (fun hc1 => ?_)
  · have hc1' := hc1; try simp only [decide_eq_true_eq, decide_eq_false_iff_not, Bool.not_eq_true', Bool.not_eq_false', Bool.not_eq_true, Bool.not_eq_false] at hc1'
    refine WC.seq ?_
    refine WC.region ?_
    refine WL.u rfl rfl (Wt.plain rfl) (Ex.assign rfl) ?_
    refine WL.next ?_
    refine WC.ret ?_
    refine WN.retThen ?_
    refine WN.body1 rfl rfl ?_
    exact ⟨0, rfl, by omega, hH.keep, hH.at 0 rfl⟩
  have hc1' := hc1; try simp only [decide_eq_true_eq, decide_eq_false_iff_not, Bool.not_eq_true', Bool.not_eq_false', Bool.not_eq_true, Bool.not_eq_false] at hc1'
  have hl0 : 0 < l.length := by omega
  obtain ⟨b, off, rfl⟩ := hc.addr hl0
  have hn1 : 1 ≤ n := by omega
  refine WC.skip ?_
  refine WN.next ?_
  refine WC.seq ?_
  refine WC.region ?_
  refine WL.u rfl rfl (Wt.plain rfl) (Ex.move rfl) ?_
  refine WL.u rfl rfl (Wt.plain rfl) (Ex.nilCheck rfl) ?_
  refine WL.u rfl rfl (Wt.plain rfl) (Ex.fieldAddr fd84_1 rfl) ?_
  refine WL.u rfl rfl (Wt.plain rfl) (Ex.loadHp flat3 rfl hH rfl) ?_
  refine WL.u rfl rfl (Wt.plain rfl) ((Ex.sub rfl rfl (by omega)).to (congrArg (Value.int IntKind.i64) (show _ = (p : Int) by omega))) ?_
  refine WL.u rfl rfl (Wt.plain rfl) (Ex.assign rfl) ?_
  refine WL.next ?_
  refine WC.seq ?_
  refine WC.seq ?_
  refine WC.region ?_
  refine WL.u rfl rfl (Wt.plain rfl) (Ex.move rfl) ?_
  refine WL.u rfl rfl (Wt.plain rfl) (Ex.move rfl) ?_
  refine WL.u rfl rfl (Wt.plain rfl) (Ex.nilCheck rfl) ?_
  refine WL.u rfl rfl (Wt.plain rfl) (Ex.fieldAddr fd84_0 rfl) ?_
  refine WL.u rfl rfl (Wt.plain rfl) (Ex.loadHp flat28 rfl hH rfl) ?_
  refine WL.u rfl rfl (Wt.plain rfl) (Ex.lenSl Try.underlying28 rfl) ?_
  refine WL.u rfl rfl (Wt.plain rfl) (Ex.lss rfl rfl) ?_
  refine WL.next ?_
  refine WC.cond rfl (fun hc2 => ?_) (fun hc2 => ?_)
  · have hc2' := hc2; try simp only [decide_eq_true_eq, decide_eq_false_iff_not, Bool.not_eq_true', Bool.not_eq_false', Bool.not_eq_true, Bool.not_eq_false] at hc2'
    refine WC.seq ?_
    refine WC.region ?_
    refine WL.u rfl rfl (Wt.plain rfl) (Ex.move rfl) ?_
    refine WL.u rfl rfl (Wt.plain rfl) (Ex.nilCheck rfl) ?_
    refine WL.u rfl rfl (Wt.plain rfl) (Ex.fieldAddr fd84_0 rfl) ?_
    refine WL.u rfl rfl (Wt.plain rfl) (Ex.loadHp flat28 rfl hH rfl) ?_
    refine WL.u rfl rfl (Wt.plain rfl) (Ex.move rfl) ?_
    refine WL.u rfl rfl (Wt.plain rfl) (Ex.indexAddr Try.underlying28 ty5 rfl rfl (by omega)) ?_
    refine WL.u rfl rfl (Wt.plain rfl) (Ex.loadSl flat5 (hc.keepO hH.keep hca) rfl rfl (rowB (by omega))) ?_
    refine WL.u rfl rfl (Wt.plain rfl) (Ex.conv' Try.underlying3 Try.underlying5 rfl (wrap_byte _)) ?_
    refine WL.u rfl rfl (Wt.plain rfl) (Ex.move rfl) ?_
    refine WL.u rfl rfl (Wt.plain rfl) (Ex.rem rfl rfl (by omega) (by omega)) ?_
    refine WL.u rfl rfl (Wt.plain rfl) (Ex.assign rfl) ?_
    refine WL.next ?_
    refine WC.ret ?_
    refine WN.retThen ?_
    refine WN.body1 rfl rfl ?_
    exact pickRet hn1 ⟨hH.keep, hH.at 0 rfl⟩
  have hc2' := hc2; try simp only [decide_eq_true_eq, decide_eq_false_iff_not, Bool.not_eq_true', Bool.not_eq_false', Bool.not_eq_true, Bool.not_eq_false] at hc2'
  refine WC.skip ?_
  refine WN.next ?_
  refine WC.seq ?_
  have hm1 := Nat.mod_lt p hl0
  have hm2 := Nat.mod_lt (p * 7 + 3) hl0
  have hb1 := UInt8.toNat_lt (l.getD (p % l.length) 0)
  have hb2 := UInt8.toNat_lt (l.getD ((p * 7 + 3) % l.length) 0)
  have hq0 : 0 ≤ (p : Int) / (l.length : Int) := Int.ediv_nonneg (by omega) (by omega)
  have hq1 : (p : Int) / (l.length : Int) ≤ p := Int.ediv_le_self _ (by omega)
  refine WC.quietK rfl (by kernel_rfl) ?_
  refine WQ.u rfl rfl (Wt.plain rfl) (fun w hC => Ex.move rfl) ?_
  refine WQ.u rfl rfl (Wt.plain rfl) (fun w hC => Ex.nilCheck rfl) ?_
  refine WQ.u rfl rfl (Wt.plain rfl) (fun w hC => Ex.fieldAddr fd84_0 rfl) ?_
  refine WQ.u rfl rfl (Wt.plain rfl) (fun w hC => Ex.loadHp flat28 rfl (hH.call hC) rfl) ?_
  refine WQ.u rfl rfl (Wt.plain rfl) (fun w hC => Ex.move rfl) ?_
  refine WQ.u rfl rfl (Wt.plain rfl) (fun w hC => Ex.move rfl) ?_
  refine WQ.u rfl rfl (Wt.plain rfl) (fun w hC => Ex.nilCheck rfl) ?_
  refine WQ.u rfl rfl (Wt.plain rfl) (fun w hC => Ex.fieldAddr fd84_0 rfl) ?_
  refine WQ.u rfl rfl (Wt.plain rfl) (fun w hC => Ex.loadHp flat28 rfl (hH.call hC) rfl) ?_
  refine WQ.u rfl rfl (Wt.plain rfl) (fun w hC => Ex.lenSl Try.underlying28 rfl) ?_
  refine WQ.u rfl rfl (Wt.plain rfl) (fun w hC => (Ex.rem rfl rfl (by omega) (by omega)).to (congrArg (Value.int IntKind.i64) (Int.natCast_emod p l.length).symm)) ?_
  refine WQ.u rfl rfl (Wt.plain rfl) (fun w hC => Ex.indexAddr Try.underlying28 ty5 rfl rfl (by omega)) ?_
  refine WQ.u rfl rfl (Wt.plain rfl) (fun w hC => Ex.loadSl flat5 ((hc.keepO hH.keep hca).kept hC) rfl rfl (show l[((p % l.length : Nat) : Int).toNat]? = some (l.getD (p % l.length) 0) from rowB hm1)) ?_
  refine WQ.u rfl rfl (Wt.plain rfl) (fun w hC => Ex.conv' Try.underlying3 Try.underlying5 rfl (wrap_byte _)) ?_
  refine WQ.u rfl rfl (Wt.plain rfl) (fun w hC => Ex.mul rfl rfl (by omega)) ?_
  refine WQ.u rfl rfl (Wt.plain rfl) (fun w hC => Ex.move rfl) ?_
  refine WQ.u rfl rfl (Wt.plain rfl) (fun w hC => Ex.nilCheck rfl) ?_
  refine WQ.u rfl rfl (Wt.plain rfl) (fun w hC => Ex.fieldAddr fd84_0 rfl) ?_
  refine WQ.u rfl rfl (Wt.plain rfl) (fun w hC => Ex.loadHp flat28 rfl (hH.call hC) rfl) ?_
  refine WQ.u rfl rfl (Wt.plain rfl) (fun w hC => Ex.move rfl) ?_
  refine WQ.u rfl rfl (Wt.plain rfl) (fun w hC => Ex.mul rfl rfl (by omega)) ?_
  refine WQ.u rfl rfl (Wt.plain rfl) (fun w hC => Ex.add rfl rfl (by omega)) ?_
  refine WQ.u rfl rfl (Wt.plain rfl) (fun w hC => Ex.move rfl) ?_
  refine WQ.u rfl rfl (Wt.plain rfl) (fun w hC => Ex.nilCheck rfl) ?_
  refine WQ.u rfl rfl (Wt.plain rfl) (fun w hC => Ex.fieldAddr fd84_0 rfl) ?_
  refine WQ.u rfl rfl (Wt.plain rfl) (fun w hC => Ex.loadHp flat28 rfl (hH.call hC) rfl) ?_
  refine WQ.u rfl rfl (Wt.plain rfl) (fun w hC => Ex.lenSl Try.underlying28 rfl) ?_
  refine WQ.u rfl rfl (Wt.plain rfl) (fun w hC => (Ex.rem rfl rfl (by omega) (by omega)).to (congrArg (Value.int IntKind.i64) (Int.natCast_emod (p * 7 + 3) l.length).symm)) ?_
  refine WQ.u rfl rfl (Wt.plain rfl) (fun w hC => Ex.indexAddr Try.underlying28 ty5 rfl rfl (by omega)) ?_
  refine WQ.u rfl rfl (Wt.plain rfl) (fun w hC => Ex.loadSl flat5 ((hc.keepO hH.keep hca).kept hC) rfl rfl (show l[(((p * 7 + 3) % l.length : Nat) : Int).toNat]? = some (l.getD ((p * 7 + 3) % l.length) 0) from rowB hm2)) ?_
  refine WQ.u rfl rfl (Wt.plain rfl) (fun w hC => Ex.conv' Try.underlying3 Try.underlying5 rfl (wrap_byte _)) ?_
  refine WQ.u rfl rfl (Wt.plain rfl) (fun w hC => Ex.mul rfl rfl (by omega)) ?_
  refine WQ.u rfl rfl (Wt.plain rfl) (fun w hC => Ex.add rfl rfl (by omega)) ?_
  refine WQ.u rfl rfl (Wt.plain rfl) (fun w hC => Ex.move rfl) ?_
  refine WQ.u rfl rfl (Wt.plain rfl) (fun w hC => Ex.mul rfl rfl (by omega)) ?_
  refine WQ.u rfl rfl (Wt.plain rfl) (fun w hC => Ex.add rfl rfl (by omega)) ?_
  refine WQ.u rfl rfl (Wt.plain rfl) (fun w hC => Ex.move rfl) ?_
  refine WQ.u rfl rfl (Wt.plain rfl) (fun w hC => Ex.move rfl) ?_
  refine WQ.u rfl rfl (Wt.plain rfl) (fun w hC => Ex.nilCheck rfl) ?_
  refine WQ.u rfl rfl (Wt.plain rfl) (fun w hC => Ex.fieldAddr fd84_0 rfl) ?_
  refine WQ.u rfl rfl (Wt.plain rfl) (fun w hC => Ex.loadHp flat28 rfl (hH.call hC) rfl) ?_
  refine WQ.u rfl rfl (Wt.plain rfl) (fun w hC => Ex.lenSl Try.underlying28 rfl) ?_
  refine WQ.u rfl rfl (Wt.plain rfl) (fun w hC => Ex.quo rfl rfl (by omega) (by omega)) ?_
  refine WQ.u rfl rfl (Wt.plain rfl) (fun w hC => Ex.mul rfl rfl (by omega)) ?_
  refine WQ.u rfl rfl (Wt.plain rfl) (fun w hC => Ex.add rfl rfl (by omega)) ?_
  refine WQ.u rfl rfl (Wt.plain rfl) (fun w hC => Ex.assign rfl) ?_
  refine WQ.nil ?_
  intro wn hC; replace hH := hH.call hC; clear hC
  refine WN.next ?_
  refine WC.seq ?_
  refine WC.region ?_
  refine WL.u rfl rfl (Wt.plain rfl) (Ex.move rfl) ?_
  refine WL.u rfl rfl (Wt.plain rfl) (Ex.move rfl) ?_
  refine WL.u rfl rfl (Wt.plain rfl) (Ex.quo rfl rfl (by omega) (by omega)) ?_
  refine WL.u rfl rfl (Wt.plain rfl) (Ex.xorN rfl rfl (by omega) (by omega)) ?_
  refine WL.u rfl rfl (Wt.plain rfl) (Ex.assign rfl) ?_
  refine WL.next ?_
  refine WC.seq ?_
  refine WC.region ?_
  refine WL.u rfl rfl (Wt.plain rfl) (Ex.move rfl) ?_
  refine WL.u rfl rfl (Wt.plain rfl) (Ex.move rfl) ?_
  refine WL.u rfl rfl (Wt.plain rfl) (Ex.rem rfl rfl (by omega) (by omega)) ?_
  refine WL.u rfl rfl (Wt.plain rfl) (Ex.assign rfl) ?_
  refine WL.next ?_
  refine WC.ret ?_
  refine WN.body1 rfl rfl ?_
  exact pickRet hn1 ⟨hH.keep, hH.at 0 rfl⟩

theorem sl6Open (a : Option Addr) (l : List UInt8) (cap : Nat) (w : World) (hcap : l.length ≤ cap) : Fn Try.prog 39 [.slice a l.length cap] w (fun v w1 => ∃ r, v = vptr r 0 ∧ w.heap.size ≤ r ∧ Keep [] w w1 ∧ w1.heap[r]? = some (rdo a (l.take 2000).length cap 0)) := by
  refine Fn.enter (n := 11) Try.func39 rfl rfl rfl ?_
  show WC _ _ _ _ [(0, .slice a l.length cap)] _
  have hH := Hp.start [] w
  refine WC.seq ?_
  refine WC.region ?_
  refine WL.u rfl rfl (Wt.plain rfl) (Ex.assign rfl) ?_
  refine WL.next ?_
  refine WC.seq ?_
  refine WC.seq ?_
  refine WC.region ?_
  refine WL.u rfl rfl (Wt.plain rfl) (Ex.move rfl) ?_
  refine WL.u rfl rfl (Wt.plain rfl) (Ex.lenSl Try.underlying28 rfl) ?_
  refine WL.u rfl rfl (Wt.plain rfl) (Ex.gtr rfl rfl) ?_
  refine WL.next ?_
  refine WC.cond rfl (fun hc1 => ?_) (fun hc1 => ?_)
  · have hc1' := hc1; try simp only [decide_eq_true_eq, decide_eq_false_iff_not, Bool.not_eq_true', Bool.not_eq_false', Bool.not_eq_true, Bool.not_eq_false] at hc1'
    refine WC.region ?_
    refine WL.u rfl rfl (Wt.plain rfl) (Ex.move rfl) ?_
    refine WL.u rfl rfl (Wt.plain rfl) (Ex.sliceTo (j := 2000) Try.underlying28 ty5 rfl rfl (by omega)) ?_
    refine WL.u rfl rfl (Wt.plain rfl) (Ex.assign rfl) ?_
    refine WL.next ?_
    refine WC.seq ?_
    refine WC.region ?_
    refine WL.u rfl rfl (Wt.plain rfl) (Ex.move rfl) ?_
    refine WL.u rfl rfl (Wt.plain rfl) (Ex.build (pv := [(0, _)]) bd84 rfl rfl rfl) ?_
    refine WL.box rfl rfl rfl (Wt.plain rfl) hH (fun b10 wn hb10 hk10 hH => ?_)
    refine WL.u rfl rfl (Wt.plain rfl) (Ex.assign rfl) ?_
    refine WL.next ?_
    refine WC.ret ?_
    refine WN.body1 rfl rfl ?_
    have h2 : (l.take 2000).length = 2000 := by rw [List.length_take]; omega
    rw [h2]
    exact ⟨b10, rfl, hb10, hH.keep, hH.at 0 rfl⟩
  have hc1' := hc1; try simp only [decide_eq_true_eq, decide_eq_false_iff_not, Bool.not_eq_true', Bool.not_eq_false', Bool.not_eq_true, Bool.not_eq_false] at hc1'
  refine WC.skip ?_
  refine WN.next ?_
  refine WC.seq ?_
  refine WC.region ?_
  refine WL.u rfl rfl (Wt.plain rfl) (Ex.move rfl) ?_
  refine WL.u rfl rfl (Wt.plain rfl) (Ex.build (pv := [(0, _)]) bd84 rfl rfl rfl) ?_
  refine WL.box rfl rfl rfl (Wt.plain rfl) hH (fun b10 wn hb10 hk10 hH => ?_)
  refine WL.u rfl rfl (Wt.plain rfl) (Ex.assign rfl) ?_
  refine WL.next ?_
  refine WC.ret ?_
  refine WN.body1 rfl rfl ?_
  have h2 : (l.take 2000).length = l.length := by rw [List.length_take]; omega
  rw [h2]
  exact ⟨b10, rfl, hb10, hH.keep, hH.at 0 rfl⟩


theorem short_of {g : Grid} {M : Nat} (h : ∀ s ∈ g, s.length ≤ M) (hM : M ≤ 1000) : Short g := fun i => by
  by_cases hi : i < g.length
  · have := h _ (List.mem_of_getElem? (getD_get g i [] hi))
    omega
  · have e : g.getD i [] = [] := by simp [List.getD_eq_getElem?_getD, List.getElem?_eq_none (Nat.le_of_not_lt hi)]
    rw [e]; simp

end Go.Proofs.Ytmlkabddhdkpaaa
