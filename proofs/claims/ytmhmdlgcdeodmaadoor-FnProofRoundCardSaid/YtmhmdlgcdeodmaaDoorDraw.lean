/- The reader of a code; draws of grids and ports. -/
import Derived.Test.YtmhmdlgcdeodmaaDoorPBIs
import Derived.Test.YtmhmdlgcdeodmaaDoorRd
namespace Go.Proofs.YtmhmdlgcdeodmaaDoor
set_option maxRecDepth 100000
set_option linter.unusedSimpArgs false
set_option linter.unusedVariables false
open Go Go.RowKit

theorem rowB {l : List UInt8} {i : Nat} (h : i < l.length) : l[i]? = some (l.getD i 0) := getD_get l i 0 h
theorem pickRet {x : Int} {n : Nat} (hn : 1 ≤ n) {Q : Prop} (q : Q) : ∃ k : Nat, Value.int IntKind.i64 (x % (n : Int)) = vint k ∧ k < max n 1 ∧ Q := by
  obtain ⟨k, h1, h2⟩ := remN x n hn
  exact ⟨k, congrArg (Value.int IntKind.i64) h1, by omega, q⟩
theorem set_len {g : Grid} {m M : Nat} (h : ∀ s ∈ g, s.length = m) {i : Nat} {x : Str} (hx : x.length ≤ M) (hm : m ≤ M) : ∀ s ∈ g.set i x, s.length ≤ M := fun s hs => by
  rcases List.mem_or_eq_of_mem_set hs with h1 | rfl
  · rw [h s h1]; exact hm
  · exact hx
theorem modN (p : Nat) (q : Int) (n : Nat) (hn : 0 < n) (hq : q = p) : q % (n : Int) = ((p % n : Nat) : Int) := by subst hq; exact (Int.natCast_emod p n).symm

theorem spick (r : Nat) (a : Option Addr) (l : List UInt8) (cap p : Nat) (n : Nat) (w : World) (hr : w.heap[r]? = some (rdo a l.length cap p)) (hc : Sl rByte w a l) (hca : Off [r] a l) (hl : l.length ≤ 2000) (hp : p ≤ 1000000) (hn : n ≤ 1000000) : Fn Tryd.prog 44 [vptr r 0, vint n] w (fun v w1 => ∃ k : Nat, v = vint k ∧ k < max n 1 ∧ Keep [r] w w1 ∧ w1.heap[r]? = some (rdo a l.length cap (p + 1))) := by
  refine Fn.enter (n := 99) Tryd.func44 rfl rfl rfl ?_
  show WC _ _ _ _ [(0, vptr r 0), (1, vint n)] _
  have hH := Hp.at1 hr
  refine WC.seq ?_
  refine WC.region ?_
  refine WL.u rfl rfl (Wt.plain rfl) (Ex.assign rfl) ?_
  refine WL.next ?_
  refine WC.seq ?_
  refine WC.region ?_
  refine WL.u rfl rfl (Wt.plain rfl) (Ex.move rfl) ?_
  refine WL.u rfl rfl (Wt.plain rfl) (Ex.move rfl) ?_
  refine WL.u rfl rfl (Wt.plain rfl) (Ex.nilCheck rfl) ?_
  refine WL.u rfl rfl (Wt.plain rfl) (Ex.fieldAddr fd53_1 rfl) ?_
  refine WL.u rfl rfl (Wt.plain rfl) (Ex.loadHp flat3 rfl hH rfl) ?_
  refine WL.u rfl rfl (Wt.plain rfl) (Ex.add rfl rfl (by omega)) ?_
  refine WL.u rfl rfl (Wt.plain rfl) (Ex.nilCheck rfl) ?_
  refine WL.u rfl rfl (Wt.plain rfl) (Ex.fieldAddr fd53_1 rfl) ?_
  refine WL.store1 ty3 rfl rfl rfl (Wt.plain rfl) hH (by simp) rfl (fun wn hk hH => ?_)
  replace hH : Hp [r] w wn [(r, rdo a l.length cap (p + 1))] := hH
  refine WL.next ?_
  refine WC.seq ?_
  refine WC.seq ?_
  refine WC.region ?_
  refine WL.u rfl rfl (Wt.plain rfl) (Ex.move rfl) ?_
  refine WL.u rfl rfl (Wt.plain rfl) (Ex.lss rfl rfl) ?_
  refine WL.u rfl rfl (Wt.plain rfl) (Ex.move rfl) ?_
  refine WL.split (t := 17) rfl (fun hg2_2 => ?_) (fun hg2_2 => ?_)
  · have hg2_2' := hg2_2; try simp only [decide_eq_true_eq, decide_eq_false_iff_not, Bool.not_eq_true', Bool.not_eq_false', Bool.not_eq_true, Bool.not_eq_false] at hg2_2'
    refine WL.pass rfl rfl (Wt.guard' rfl rfl rfl hg2_2 rfl) ?_
    refine WL.pass rfl rfl (Wt.guard' rfl rfl rfl hg2_2 rfl) ?_
    refine WL.pass rfl rfl (Wt.guard' rfl rfl rfl hg2_2 rfl) ?_
    refine WL.pass rfl rfl (Wt.guard' rfl rfl rfl hg2_2 rfl) ?_
    refine WL.pass rfl rfl (Wt.guard' rfl rfl rfl hg2_2 rfl) ?_
    refine WL.pass rfl rfl (Wt.guard' rfl rfl rfl hg2_2 rfl) ?_
    refine WL.u rfl rfl (Wt.plain rfl) (Ex.pickT rfl hg2_2 rfl) ?_
    refine WL.next ?_
    refine WC.condT rfl rfl ?_
    refine WC.seq ?_
    refine WC.region ?_
    refine WL.u rfl rfl (Wt.plain rfl) (Ex.assign rfl) ?_
    refine WL.next ?_
    refine WC.ret ?_
    refine WN.retThen ?_
    refine WN.body1 rfl rfl ?_
    exact ⟨0, rfl, by omega, hH.keep, hH.at 0 rfl⟩
  have hg2_2' := hg2_2; try simp only [decide_eq_true_eq, decide_eq_false_iff_not, Bool.not_eq_true', Bool.not_eq_false', Bool.not_eq_true, Bool.not_eq_false] at hg2_2'
  refine WL.u rfl rfl (Wt.guard' rfl rfl rfl hg2_2 rfl) (Ex.move rfl) ?_
  refine WL.u rfl rfl (Wt.guard' rfl rfl rfl hg2_2 rfl) (Ex.nilCheck rfl) ?_
  refine WL.u rfl rfl (Wt.guard' rfl rfl rfl hg2_2 rfl) (Ex.fieldAddr fd53_0 rfl) ?_
  refine WL.u rfl rfl (Wt.guard' rfl rfl rfl hg2_2 rfl) (Ex.loadHp flat22 rfl hH rfl) ?_
  refine WL.u rfl rfl (Wt.guard' rfl rfl rfl hg2_2 rfl) (Ex.lenSl Tryd.underlying22 rfl) ?_
  refine WL.u rfl rfl (Wt.guard' rfl rfl rfl hg2_2 rfl) (Ex.eql rfl rfl) ?_
  refine WL.u rfl rfl (Wt.plain rfl) (Ex.pickF rfl hg2_2 rfl) ?_
  refine WL.next ?_
  refine WC.cond rfl (fun hc1 => ?_) (fun hc1 => ?_)
  · have hc1' := hc1; try simp only [decide_eq_true_eq, decide_eq_false_iff_not, Bool.not_eq_true', Bool.not_eq_false', Bool.not_eq_true, Bool.not_eq_false] at hc1'
    refine WC.seq ?_
    refine WC.region ?_
    refine WL.u rfl rfl (Wt.plain rfl) (Ex.assign rfl) ?_
    refine WL.next ?_
    refine WC.ret ?_
    refine WN.retThen ?_
    refine WN.body1 rfl rfl ?_
    exact ⟨0, rfl, by omega, hH.keep, hH.at 0 rfl⟩
  have hc1' := hc1; try simp only [decide_eq_true_eq, decide_eq_false_iff_not, Bool.not_eq_true', Bool.not_eq_false', Bool.not_eq_true, Bool.not_eq_false] at hc1'
  have hl0 : 0 < l.length := by omega
  obtain ⟨b, off, rfl⟩ := hc.addr hl0
  have hn1 : 1 ≤ n := by omega
  refine WC.skip ?_
  refine WN.next ?_
  refine WC.seq ?_
  refine WC.region ?_
  refine WL.u rfl rfl (Wt.plain rfl) (Ex.move rfl) ?_
  refine WL.u rfl rfl (Wt.plain rfl) (Ex.nilCheck rfl) ?_
  refine WL.u rfl rfl (Wt.plain rfl) (Ex.fieldAddr fd53_1 rfl) ?_
  refine WL.u rfl rfl (Wt.plain rfl) (Ex.loadHp flat3 rfl hH rfl) ?_
  refine WL.u rfl rfl (Wt.plain rfl) ((Ex.sub rfl rfl (by omega)).to (congrArg (Value.int IntKind.i64) (show _ = (p : Int) by omega))) ?_
  refine WL.u rfl rfl (Wt.plain rfl) (Ex.assign rfl) ?_
  refine WL.next ?_
  refine WC.seq ?_
  refine WC.seq ?_
  refine WC.region ?_
  refine WL.u rfl rfl (Wt.plain rfl) (Ex.move rfl) ?_
  refine WL.u rfl rfl (Wt.plain rfl) (Ex.move rfl) ?_
  refine WL.u rfl rfl (Wt.plain rfl) (Ex.nilCheck rfl) ?_
  refine WL.u rfl rfl (Wt.plain rfl) (Ex.fieldAddr fd53_0 rfl) ?_
  refine WL.u rfl rfl (Wt.plain rfl) (Ex.loadHp flat22 rfl hH rfl) ?_
  refine WL.u rfl rfl (Wt.plain rfl) (Ex.lenSl Tryd.underlying22 rfl) ?_
  refine WL.u rfl rfl (Wt.plain rfl) (Ex.lss rfl rfl) ?_
  refine WL.next ?_
  refine WC.cond rfl (fun hc2 => ?_) (fun hc2 => ?_)
  · have hc2' := hc2; try simp only [decide_eq_true_eq, decide_eq_false_iff_not, Bool.not_eq_true', Bool.not_eq_false', Bool.not_eq_true, Bool.not_eq_false] at hc2'
    refine WC.seq ?_
    refine WC.region ?_
    refine WL.u rfl rfl (Wt.plain rfl) (Ex.move rfl) ?_
    refine WL.u rfl rfl (Wt.plain rfl) (Ex.nilCheck rfl) ?_
    refine WL.u rfl rfl (Wt.plain rfl) (Ex.fieldAddr fd53_0 rfl) ?_
    refine WL.u rfl rfl (Wt.plain rfl) (Ex.loadHp flat22 rfl hH rfl) ?_
    refine WL.u rfl rfl (Wt.plain rfl) (Ex.move rfl) ?_
    refine WL.u rfl rfl (Wt.plain rfl) (Ex.indexAddr Tryd.underlying22 ty5 rfl rfl (by omega)) ?_
    refine WL.u rfl rfl (Wt.plain rfl) (Ex.loadSl flat5 (hc.keepO hH.keep hca) rfl rfl (rowB (by omega))) ?_
    refine WL.u rfl rfl (Wt.plain rfl) (Ex.conv' Tryd.underlying3 Tryd.underlying5 rfl (wrap_byte _)) ?_
    refine WL.u rfl rfl (Wt.plain rfl) (Ex.move rfl) ?_
    refine WL.u rfl rfl (Wt.plain rfl) (Ex.rem rfl rfl (by omega) (by omega)) ?_
    refine WL.u rfl rfl (Wt.plain rfl) (Ex.assign rfl) ?_
    refine WL.next ?_
    refine WC.ret ?_
    refine WN.retThen ?_
    refine WN.body1 rfl rfl ?_
    exact pickRet hn1 ⟨hH.keep, hH.at 0 rfl⟩
  have hc2' := hc2; try simp only [decide_eq_true_eq, decide_eq_false_iff_not, Bool.not_eq_true', Bool.not_eq_false', Bool.not_eq_true, Bool.not_eq_false] at hc2'
  refine WC.skip ?_
  refine WN.next ?_
  refine WC.seq ?_
  have hm1 := Nat.mod_lt p hl0
  have hm2 := Nat.mod_lt (p * 7 + 3) hl0
  have hb1 := UInt8.toNat_lt (l.getD (p % l.length) 0)
  have hb2 := UInt8.toNat_lt (l.getD ((p * 7 + 3) % l.length) 0)
  have hq0 : 0 ≤ (p : Int) / (l.length : Int) := Int.ediv_nonneg (by omega) (by omega)
  have hq1 : (p : Int) / (l.length : Int) ≤ p := Int.ediv_le_self _ (by omega)
  refine WC.quietK rfl (by kernel_rfl) ?_
  refine WQ.u rfl rfl (Wt.plain rfl) (fun w hC => Ex.move rfl) ?_
  refine WQ.u rfl rfl (Wt.plain rfl) (fun w hC => Ex.nilCheck rfl) ?_
  refine WQ.u rfl rfl (Wt.plain rfl) (fun w hC => Ex.fieldAddr fd53_0 rfl) ?_
  refine WQ.u rfl rfl (Wt.plain rfl) (fun w hC => Ex.loadHp flat22 rfl (hH.call hC) rfl) ?_
  refine WQ.u rfl rfl (Wt.plain rfl) (fun w hC => Ex.move rfl) ?_
  refine WQ.u rfl rfl (Wt.plain rfl) (fun w hC => Ex.move rfl) ?_
  refine WQ.u rfl rfl (Wt.plain rfl) (fun w hC => Ex.nilCheck rfl) ?_
  refine WQ.u rfl rfl (Wt.plain rfl) (fun w hC => Ex.fieldAddr fd53_0 rfl) ?_
  refine WQ.u rfl rfl (Wt.plain rfl) (fun w hC => Ex.loadHp flat22 rfl (hH.call hC) rfl) ?_
  refine WQ.u rfl rfl (Wt.plain rfl) (fun w hC => Ex.lenSl Tryd.underlying22 rfl) ?_
  refine WQ.u rfl rfl (Wt.plain rfl) (fun w hC => (Ex.rem rfl rfl (by omega) (by omega)).to (congrArg (Value.int IntKind.i64) (Int.natCast_emod p l.length).symm)) ?_
  refine WQ.u rfl rfl (Wt.plain rfl) (fun w hC => Ex.indexAddr Tryd.underlying22 ty5 rfl rfl (by omega)) ?_
  refine WQ.u rfl rfl (Wt.plain rfl) (fun w hC => Ex.loadSl flat5 ((hc.keepO hH.keep hca).kept hC) rfl rfl (show l[((p % l.length : Nat) : Int).toNat]? = some (l.getD (p % l.length) 0) from rowB hm1)) ?_
  refine WQ.u rfl rfl (Wt.plain rfl) (fun w hC => Ex.conv' Tryd.underlying3 Tryd.underlying5 rfl (wrap_byte _)) ?_
  refine WQ.u rfl rfl (Wt.plain rfl) (fun w hC => Ex.mul rfl rfl (by omega)) ?_
  refine WQ.u rfl rfl (Wt.plain rfl) (fun w hC => Ex.move rfl) ?_
  refine WQ.u rfl rfl (Wt.plain rfl) (fun w hC => Ex.nilCheck rfl) ?_
  refine WQ.u rfl rfl (Wt.plain rfl) (fun w hC => Ex.fieldAddr fd53_0 rfl) ?_
  refine WQ.u rfl rfl (Wt.plain rfl) (fun w hC => Ex.loadHp flat22 rfl (hH.call hC) rfl) ?_
  refine WQ.u rfl rfl (Wt.plain rfl) (fun w hC => Ex.move rfl) ?_
  refine WQ.u rfl rfl (Wt.plain rfl) (fun w hC => Ex.mul rfl rfl (by omega)) ?_
  refine WQ.u rfl rfl (Wt.plain rfl) (fun w hC => Ex.add rfl rfl (by omega)) ?_
  refine WQ.u rfl rfl (Wt.plain rfl) (fun w hC => Ex.move rfl) ?_
  refine WQ.u rfl rfl (Wt.plain rfl) (fun w hC => Ex.nilCheck rfl) ?_
  refine WQ.u rfl rfl (Wt.plain rfl) (fun w hC => Ex.fieldAddr fd53_0 rfl) ?_
  refine WQ.u rfl rfl (Wt.plain rfl) (fun w hC => Ex.loadHp flat22 rfl (hH.call hC) rfl) ?_
  refine WQ.u rfl rfl (Wt.plain rfl) (fun w hC => Ex.lenSl Tryd.underlying22 rfl) ?_
  refine WQ.u rfl rfl (Wt.plain rfl) (fun w hC => (Ex.rem rfl rfl (by omega) (by omega)).to (congrArg (Value.int IntKind.i64) (Int.natCast_emod (p * 7 + 3) l.length).symm)) ?_
  refine WQ.u rfl rfl (Wt.plain rfl) (fun w hC => Ex.indexAddr Tryd.underlying22 ty5 rfl rfl (by omega)) ?_
  refine WQ.u rfl rfl (Wt.plain rfl) (fun w hC => Ex.loadSl flat5 ((hc.keepO hH.keep hca).kept hC) rfl rfl (show l[(((p * 7 + 3) % l.length : Nat) : Int).toNat]? = some (l.getD ((p * 7 + 3) % l.length) 0) from rowB hm2)) ?_
  refine WQ.u rfl rfl (Wt.plain rfl) (fun w hC => Ex.conv' Tryd.underlying3 Tryd.underlying5 rfl (wrap_byte _)) ?_
  refine WQ.u rfl rfl (Wt.plain rfl) (fun w hC => Ex.mul rfl rfl (by omega)) ?_
  refine WQ.u rfl rfl (Wt.plain rfl) (fun w hC => Ex.add rfl rfl (by omega)) ?_
  refine WQ.u rfl rfl (Wt.plain rfl) (fun w hC => Ex.move rfl) ?_
  refine WQ.u rfl rfl (Wt.plain rfl) (fun w hC => Ex.mul rfl rfl (by omega)) ?_
  refine WQ.u rfl rfl (Wt.plain rfl) (fun w hC => Ex.add rfl rfl (by omega)) ?_
  refine WQ.u rfl rfl (Wt.plain rfl) (fun w hC => Ex.move rfl) ?_
  refine WQ.u rfl rfl (Wt.plain rfl) (fun w hC => Ex.move rfl) ?_
  refine WQ.u rfl rfl (Wt.plain rfl) (fun w hC => Ex.nilCheck rfl) ?_
  refine WQ.u rfl rfl (Wt.plain rfl) (fun w hC => Ex.fieldAddr fd53_0 rfl) ?_
  refine WQ.u rfl rfl (Wt.plain rfl) (fun w hC => Ex.loadHp flat22 rfl (hH.call hC) rfl) ?_
  refine WQ.u rfl rfl (Wt.plain rfl) (fun w hC => Ex.lenSl Tryd.underlying22 rfl) ?_
  refine WQ.u rfl rfl (Wt.plain rfl) (fun w hC => Ex.quo rfl rfl (by omega) (by omega)) ?_
  refine WQ.u rfl rfl (Wt.plain rfl) (fun w hC => Ex.mul rfl rfl (by omega)) ?_
  refine WQ.u rfl rfl (Wt.plain rfl) (fun w hC => Ex.add rfl rfl (by omega)) ?_
  refine WQ.u rfl rfl (Wt.plain rfl) (fun w hC => Ex.assign rfl) ?_
  refine WQ.nil ?_
  intro wn hC; replace hH := hH.call hC; clear hC
  refine WN.next ?_
  refine WC.seq ?_
  refine WC.region ?_
  refine WL.u rfl rfl (Wt.plain rfl) (Ex.move rfl) ?_
  refine WL.u rfl rfl (Wt.plain rfl) (Ex.move rfl) ?_
  refine WL.u rfl rfl (Wt.plain rfl) (Ex.quo rfl rfl (by omega) (by omega)) ?_
  refine WL.u rfl rfl (Wt.plain rfl) (Ex.xorN rfl rfl (by omega) (by omega)) ?_
  refine WL.u rfl rfl (Wt.plain rfl) (Ex.assign rfl) ?_
  refine WL.next ?_
  refine WC.seq ?_
  refine WC.region ?_
  refine WL.u rfl rfl (Wt.plain rfl) (Ex.move rfl) ?_
  refine WL.u rfl rfl (Wt.plain rfl) (Ex.move rfl) ?_
  refine WL.u rfl rfl (Wt.plain rfl) (Ex.rem rfl rfl (by omega) (by omega)) ?_
  refine WL.u rfl rfl (Wt.plain rfl) (Ex.assign rfl) ?_
  refine WL.next ?_
  refine WC.ret ?_
  refine WN.body1 rfl rfl ?_
  exact pickRet hn1 ⟨hH.keep, hH.at 0 rfl⟩

theorem sl91Of (r : Nat) (a : Option Addr) (l : List UInt8) (cap p0 : Nat) (n m : Nat) (w : World) (hr : w.heap[r]? = some (rdo a l.length cap p0)) (hc : Sl rByte w a l) (hca : Off [r] a l) (hl : l.length ≤ 2000) (hp : p0 ≤ 900000) (hn : n ≤ 8) (hm : m ≤ 8) : Fn Tryd.prog 57 [vptr r 0, vint n, vint m] w (fun v w1 => ∃ (g : Grid) (q : Nat), New rStr 9 w w1 v g ∧ g.length = n ∧ (∀ s ∈ g, s.length = m) ∧ Keep [r] w w1 ∧ w1.heap[r]? = some (rdo a l.length cap q) ∧ q ≤ p0 + 200) := by
  refine Fn.enter (n := 63) Tryd.func57 rfl rfl rfl ?_
  show WC _ _ _ _ [(0, vptr r 0), (1, vint n), (2, vint m)] _
  have hH := Hp.at1 hr
  refine WC.seq ?_
  refine WC.region ?_
  refine WL.u rfl rfl (Wt.plain rfl) (Ex.assign rfl) ?_
  refine WL.next ?_
  refine WC.seq ?_
  refine WC.region ?_
  refine WL.lit0 Tryd.underlying23 ty9 rfl (Wt.plain rfl) hH (fun b13 wn hb13 hk13 hH => ?_)
  have ho13 := Own.nil rStr
  refine WL.u rfl rfl (Wt.plain rfl) (Ex.assign rfl) ?_
  refine WL.next ?_
  refine WC.seq ?_
  refine WC.region ?_
  refine WL.u rfl rfl (Wt.plain rfl) (Ex.move rfl) ?_
  replace hH := hH.f1
  refine WL.call callable44 rfl (Wt.plain rfl) rfl rfl (spick _ _ _ _ _ 4 _ (hH.at 0 rfl) (hc.keepO hH.keep hca) hca hl (by omega) (by omega)) ?_
  rintro _ wn ⟨kind, rfl, hkind, hKK, ho⟩; replace hH := hH.turn hKK ho; clear hKK ho
  refine WL.u rfl rfl (Wt.plain rfl) (Ex.assign rfl) ?_
  refine WL.next ?_
  refine WC.seq ?_
  refine WC.seq ?_
  refine WC.region ?_
  refine WL.u rfl rfl (Wt.plain rfl) (Ex.assign rfl) ?_
  refine WL.next ?_
  refine WC.block ?_
  replace hH := hH.f1
  replace hH := hH.f1
  refine WC.loop (ι := Nat × Nat × Nat × Nat × (Array Value) × Grid) (fun (i, p, b13, cap13, cur13, g) => [(0, vptr r 0), (1, vint n), (2, vint m), (7, vsl b13 g.length cap13), (8, vint kind), (9, vint i)]) (fun (i, p, b13, cap13, cur13, g) wn => Hp [r] w wn [(r, rdo a l.length cap p), (b13, .cells cur13 9 (0, 0))] ∧ Own rStr cur13 cap13 g ∧ g.length = i ∧ (∀ s ∈ g, s.length = m) ∧ i ≤ n ∧ p ≤ p0 + 1 + 20 * i) (fun (i, p, b13, cap13, cur13, g) => n - i) ((0, p0 + 1, b13, 0, #[], [])) (by exact ⟨rfl, rfl, rfl, rfl, rfl, rfl, trivial⟩) ?_ ?_
  · exact ⟨hH, ho13, rfl, by simp, by omega, by omega⟩
  rintro ⟨i, p, b13, cap13, cur13, g⟩ wn ⟨hH, ho13, hgl, hgr, hi, hp⟩
  intro mu0 hmu; try dsimp only at hmu
  show WC _ _ _ _ [(0, vptr r 0), (1, vint n), (2, vint m), (7, vsl b13 g.length cap13), (8, vint kind), (9, vint i)] _
  refine WC.seq ?_
  refine WC.seq ?_
  refine WC.region ?_
  refine WL.u rfl rfl (Wt.plain rfl) (Ex.move rfl) ?_
  refine WL.u rfl rfl (Wt.plain rfl) (Ex.move rfl) ?_
  refine WL.u rfl rfl (Wt.plain rfl) (Ex.lss rfl rfl) ?_
  refine WL.next ?_
  refine WC.cond rfl (fun hc1 => ?_) (fun hc1 => ?_)
  · have hc1' := hc1; try simp only [decide_eq_true_eq, decide_eq_false_iff_not, Bool.not_eq_true', Bool.not_eq_false', Bool.not_eq_true, Bool.not_eq_false] at hc1'
    have hlt : i < n := by omega
    refine WC.skip ?_
    refine WN.next ?_
    refine WC.seq ?_
    refine WC.block ?_
    refine WC.seq ?_
    refine WC.region ?_
    refine WL.lit0 Tryd.underlying22 ty5 rfl (Wt.plain rfl) hH (fun b21 wn hb21 hk21 hH => ?_)
    have ho21 := Own.nil rByte
    refine WL.u rfl rfl (Wt.plain rfl) (Ex.assign rfl) ?_
    refine WL.next ?_
    refine WC.seq ?_
    refine WC.seq ?_
    refine WC.region ?_
    refine WL.u rfl rfl (Wt.plain rfl) (Ex.assign rfl) ?_
    refine WL.next ?_
    refine WC.block ?_
    replace hH := hH.f2
    replace hH := hH.f2
    refine WC.loop (ι := Nat × Nat × Nat × Nat × (Array Value) × (List UInt8)) (fun (k, p, b21, cap21, cur21, row) => [(0, vptr r 0), (1, vint n), (2, vint m), (7, vsl b13 g.length cap13), (8, vint kind), (9, vint i), (10, vsl b21 row.length cap21), (11, vint k)]) (fun (k, p, b21, cap21, cur21, row) wn => Hp [r] w wn [(r, rdo a l.length cap p), (b13, .cells cur13 9 (0, 0)), (b21, .cells cur21 5 (0, 0))] ∧ Own rByte cur21 cap21 row ∧ row.length = k ∧ k ≤ m ∧ p ≤ p0 + 1 + 20 * i + 2 * k) (fun (k, p, b21, cap21, cur21, row) => m - k) ((0, p, b21, 0, #[], [])) (by exact ⟨rfl, rfl, rfl, rfl, rfl, rfl, rfl, rfl, trivial⟩) ?_ ?_
    · exact ⟨hH, ho21, rfl, by omega, by omega⟩
    rintro ⟨k, p, b21, cap21, cur21, row⟩ wn ⟨hH, ho21, hrl, hk, hp⟩
    intro mu0 hmu; try dsimp only at hmu
    show WC _ _ _ _ [(0, vptr r 0), (1, vint n), (2, vint m), (7, vsl b13 g.length cap13), (8, vint kind), (9, vint i), (10, vsl b21 row.length cap21), (11, vint k)] _
    refine WC.seq ?_
    refine WC.seq ?_
    refine WC.region ?_
    refine WL.u rfl rfl (Wt.plain rfl) (Ex.move rfl) ?_
    refine WL.u rfl rfl (Wt.plain rfl) (Ex.move rfl) ?_
    refine WL.u rfl rfl (Wt.plain rfl) (Ex.lss rfl rfl) ?_
    refine WL.next ?_
    refine WC.cond rfl (fun hc2 => ?_) (fun hc2 => ?_)
    · have hc2' := hc2; try simp only [decide_eq_true_eq, decide_eq_false_iff_not, Bool.not_eq_true', Bool.not_eq_false', Bool.not_eq_true, Bool.not_eq_false] at hc2'
      refine WC.skip ?_
      refine WN.next ?_
      refine WC.seq ?_
      refine WC.block ?_
      refine WC.seq ?_
      refine WC.region ?_
      refine WL.u rfl rfl (Wt.plain rfl) (Ex.move rfl) ?_
      refine WL.call callable44 rfl (Wt.plain rfl) rfl rfl (spick _ _ _ _ _ 3 _ (hH.at 0 rfl) (hc.keepO hH.keep hca) hca hl (by omega) (by omega)) ?_
      rintro _ wn ⟨k28, rfl, hk28, hKK, ho⟩; replace hH := hH.turn hKK ho; clear hKK ho
      refine WL.u rfl rfl (Wt.plain rfl) (Ex.indexStr Tryd.underlying9 rfl rfl (by (try simp only [List.length_cons, List.length_nil]); omega)) ?_
      refine WL.u rfl rfl (Wt.plain rfl) (Ex.assign rfl) ?_
      refine WL.next ?_
      refine WC.seq ?_
      refine WC.seq ?_
      refine WC.region ?_
      refine WL.u rfl rfl (Wt.plain rfl) (Ex.move rfl) ?_
      refine WL.u rfl rfl (Wt.plain rfl) (Ex.eql rfl rfl) ?_
      refine WL.u rfl rfl (Wt.plain rfl) (Ex.move rfl) ?_
      refine WL.split (t := 32) rfl (fun hg11_2 => ?_) (fun hg11_2 => ?_)
      · have hg11_2' := hg11_2; try simp only [decide_eq_true_eq, decide_eq_false_iff_not, Bool.not_eq_true', Bool.not_eq_false', Bool.not_eq_true, Bool.not_eq_false] at hg11_2'
        refine WL.u rfl rfl (Wt.guard' rfl rfl rfl hg11_2 rfl) (Ex.move rfl) ?_
        refine WL.u rfl rfl (Wt.guard' rfl rfl rfl hg11_2 rfl) (Ex.eql rfl rfl) ?_
        refine WL.u rfl rfl (Wt.plain rfl) (Ex.pickT rfl hg11_2 rfl) ?_
        refine WL.next ?_
        refine WC.cond rfl (fun hc3 => ?_) (fun hc3 => ?_)
        · have hc3' := hc3; try simp only [decide_eq_true_eq, decide_eq_false_iff_not, Bool.not_eq_true', Bool.not_eq_false', Bool.not_eq_true, Bool.not_eq_false] at hc3'
          refine WC.region ?_
          refine WL.u rfl rfl (Wt.plain rfl) (Ex.move rfl) ?_
          refine WL.u rfl rfl (Wt.plain rfl) (Ex.move rfl) ?_
          refine WL.u rfl rfl (Wt.plain rfl) (Ex.add rfl rfl (by omega)) ?_
          refine WL.u rfl rfl (Wt.plain rfl) (Ex.rem rfl rfl (by omega) (by omega)) ?_
          refine WL.u rfl rfl (Wt.plain rfl) (Ex.indexStr Tryd.underlying9 rfl rfl (by (try simp only [List.length_cons, List.length_nil]); omega)) ?_
          refine WL.u rfl rfl (Wt.plain rfl) (Ex.assign rfl) ?_
          refine WL.next ?_
          refine WC.seq ?_
          refine WC.seq ?_
          refine WC.region ?_
          refine WL.u rfl rfl (Wt.plain rfl) (Ex.move rfl) ?_
          refine WL.u rfl rfl (Wt.plain rfl) (Ex.eql rfl rfl) ?_
          refine WL.u rfl rfl (Wt.plain rfl) (Ex.move rfl) ?_
          refine WL.split (t := 43) rfl (fun hg13_2 => ?_) (fun hg13_2 => ?_)
          · have hg13_2' := hg13_2; try simp only [decide_eq_true_eq, decide_eq_false_iff_not, Bool.not_eq_true', Bool.not_eq_false', Bool.not_eq_true, Bool.not_eq_false] at hg13_2'
            refine WL.u rfl rfl (Wt.guard' rfl rfl rfl hg13_2 rfl) (Ex.move rfl) ?_
            refine WL.call callable44 rfl (Wt.guard' rfl rfl rfl hg13_2 rfl) rfl rfl (spick _ _ _ _ _ 3 _ (hH.at 0 rfl) (hc.keepO hH.keep hca) hca hl (by omega) (by omega)) ?_
            rintro _ wn ⟨k45, rfl, hk45, hKK, ho⟩; replace hH := hH.turn hKK ho; clear hKK ho
            refine WL.u rfl rfl (Wt.guard' rfl rfl rfl hg13_2 rfl) (Ex.gtr rfl rfl) ?_
            refine WL.u rfl rfl (Wt.plain rfl) (Ex.pickT rfl hg13_2 rfl) ?_
            refine WL.next ?_
            refine WC.cond rfl (fun hc4 => ?_) (fun hc4 => ?_)
            · have hc4' := hc4; try simp only [decide_eq_true_eq, decide_eq_false_iff_not, Bool.not_eq_true', Bool.not_eq_false', Bool.not_eq_true, Bool.not_eq_false] at hc4'
              refine WC.region ?_
              refine WL.u rfl rfl (Wt.plain rfl) (Ex.move rfl) ?_
              refine WL.u rfl rfl (Wt.plain rfl) (Ex.move rfl) ?_
              refine WL.u rfl rfl (Wt.plain rfl) (Ex.add rfl rfl (by omega)) ?_
              refine WL.u rfl rfl (Wt.plain rfl) (Ex.rem rfl rfl (by omega) (by omega)) ?_
              refine WL.u rfl rfl (Wt.plain rfl) (Ex.indexStr Tryd.underlying9 rfl rfl (by (try simp only [List.length_cons, List.length_nil]); omega)) ?_
              refine WL.u rfl rfl (Wt.plain rfl) (Ex.assign rfl) ?_
              refine WL.next ?_
              refine WC.region ?_
              refine WL.u rfl rfl (Wt.plain rfl) (Ex.move rfl) ?_
              refine WL.u rfl rfl (Wt.plain rfl) (Ex.move rfl) ?_
              replace hH := hH.f2
              refine WL.append1 (r := rByte) (u := _) Tryd.underlying22 ty5 rfl rfl (fun _ => rfl) (fun _ => rfl) rfl rfl (Wt.plain rfl) (fun _ => (Wt.plain rfl)) hH ho21 rfl (by omega) (by omega) (fun b21 cap21 cur21 wn x21 hb21 hk21 hH ho21 => ?_)
              refine WL.u rfl rfl (Wt.plain rfl) (Ex.assign rfl) ?_
              refine WL.last ?_
              refine WN.normalBlock ?_
              refine WN.next ?_
              refine WC.region ?_
              refine WL.u rfl rfl (Wt.plain rfl) (Ex.move rfl) ?_
              refine WL.u rfl rfl (Wt.plain rfl) (Ex.add rfl rfl (by omega)) ?_
              refine WL.u rfl rfl (Wt.plain rfl) (Ex.assign rfl) ?_
              refine WL.last ?_
              replace hH := hH.f2
              replace hH := hH.f2
              refine WN.round (k + 1, p + 2, b21, cap21, cur21, row ++ [_]) (by exact ⟨rfl, rfl, rfl, rfl, rfl, rfl, rfl, rfl, trivial⟩) ?_ ?_
              · exact ⟨hH, ho21, by simp [hrl], by omega, by omega⟩
              · (try dsimp only); omega
            have hc4' := hc4; try simp only [decide_eq_true_eq, decide_eq_false_iff_not, Bool.not_eq_true', Bool.not_eq_false', Bool.not_eq_true, Bool.not_eq_false] at hc4'
            refine WC.skip ?_
            refine WN.next ?_
            refine WC.region ?_
            refine WL.u rfl rfl (Wt.plain rfl) (Ex.move rfl) ?_
            refine WL.u rfl rfl (Wt.plain rfl) (Ex.move rfl) ?_
            replace hH := hH.f2
            refine WL.append1 (r := rByte) (u := _) Tryd.underlying22 ty5 rfl rfl (fun _ => rfl) (fun _ => rfl) rfl rfl (Wt.plain rfl) (fun _ => (Wt.plain rfl)) hH ho21 rfl (by omega) (by omega) (fun b21 cap21 cur21 wn x21 hb21 hk21 hH ho21 => ?_)
            refine WL.u rfl rfl (Wt.plain rfl) (Ex.assign rfl) ?_
            refine WL.last ?_
            refine WN.normalBlock ?_
            refine WN.next ?_
            refine WC.region ?_
            refine WL.u rfl rfl (Wt.plain rfl) (Ex.move rfl) ?_
            refine WL.u rfl rfl (Wt.plain rfl) (Ex.add rfl rfl (by omega)) ?_
            refine WL.u rfl rfl (Wt.plain rfl) (Ex.assign rfl) ?_
            refine WL.last ?_
            replace hH := hH.f2
            replace hH := hH.f2
            refine WN.round (k + 1, p + 2, b21, cap21, cur21, row ++ [_]) (by exact ⟨rfl, rfl, rfl, rfl, rfl, rfl, rfl, rfl, trivial⟩) ?_ ?_
            · exact ⟨hH, ho21, by simp [hrl], by omega, by omega⟩
            · (try dsimp only); omega
          have hg13_2' := hg13_2; try simp only [decide_eq_true_eq, decide_eq_false_iff_not, Bool.not_eq_true', Bool.not_eq_false', Bool.not_eq_true, Bool.not_eq_false] at hg13_2'
          refine WL.pass rfl rfl (Wt.guard' rfl rfl rfl hg13_2 rfl) ?_
          refine WL.pass rfl rfl (Wt.guard' rfl rfl rfl hg13_2 rfl) ?_
          refine WL.pass rfl rfl (Wt.guard' rfl rfl rfl hg13_2 rfl) ?_
          refine WL.u rfl rfl (Wt.plain rfl) (Ex.pickF rfl hg13_2 rfl) ?_
          refine WL.next ?_
          refine WC.condF rfl rfl ?_
          refine WC.skip ?_
          refine WN.next ?_
          refine WC.region ?_
          refine WL.u rfl rfl (Wt.plain rfl) (Ex.move rfl) ?_
          refine WL.u rfl rfl (Wt.plain rfl) (Ex.move rfl) ?_
          replace hH := hH.f2
          refine WL.append1 (r := rByte) (u := _) Tryd.underlying22 ty5 rfl rfl (fun _ => rfl) (fun _ => rfl) rfl rfl (Wt.plain rfl) (fun _ => (Wt.plain rfl)) hH ho21 rfl (by omega) (by omega) (fun b21 cap21 cur21 wn x21 hb21 hk21 hH ho21 => ?_)
          refine WL.u rfl rfl (Wt.plain rfl) (Ex.assign rfl) ?_
          refine WL.last ?_
          refine WN.normalBlock ?_
          refine WN.next ?_
          refine WC.region ?_
          refine WL.u rfl rfl (Wt.plain rfl) (Ex.move rfl) ?_
          refine WL.u rfl rfl (Wt.plain rfl) (Ex.add rfl rfl (by omega)) ?_
          refine WL.u rfl rfl (Wt.plain rfl) (Ex.assign rfl) ?_
          refine WL.last ?_
          replace hH := hH.f2
          replace hH := hH.f2
          refine WN.round (k + 1, p + 1, b21, cap21, cur21, row ++ [_]) (by exact ⟨rfl, rfl, rfl, rfl, rfl, rfl, rfl, rfl, trivial⟩) ?_ ?_
          · exact ⟨hH, ho21, by simp [hrl], by omega, by omega⟩
          · (try dsimp only); omega
        have hc3' := hc3; try simp only [decide_eq_true_eq, decide_eq_false_iff_not, Bool.not_eq_true', Bool.not_eq_false', Bool.not_eq_true, Bool.not_eq_false] at hc3'
        refine WC.skip ?_
        refine WN.next ?_
        refine WC.seq ?_
        refine WC.seq ?_
        refine WC.region ?_
        refine WL.u rfl rfl (Wt.plain rfl) (Ex.move rfl) ?_
        refine WL.u rfl rfl (Wt.plain rfl) (Ex.eql rfl rfl) ?_
        refine WL.u rfl rfl (Wt.plain rfl) (Ex.move rfl) ?_
        refine WL.split (t := 43) rfl (fun hg13_2 => ?_) (fun hg13_2 => ?_)
        · have hg13_2' := hg13_2; try simp only [decide_eq_true_eq, decide_eq_false_iff_not, Bool.not_eq_true', Bool.not_eq_false', Bool.not_eq_true, Bool.not_eq_false] at hg13_2'
          refine WL.u rfl rfl (Wt.guard' rfl rfl rfl hg13_2 rfl) (Ex.move rfl) ?_
          refine WL.call callable44 rfl (Wt.guard' rfl rfl rfl hg13_2 rfl) rfl rfl (spick _ _ _ _ _ 3 _ (hH.at 0 rfl) (hc.keepO hH.keep hca) hca hl (by omega) (by omega)) ?_
          rintro _ wn ⟨k45, rfl, hk45, hKK, ho⟩; replace hH := hH.turn hKK ho; clear hKK ho
          refine WL.u rfl rfl (Wt.guard' rfl rfl rfl hg13_2 rfl) (Ex.gtr rfl rfl) ?_
          refine WL.u rfl rfl (Wt.plain rfl) (Ex.pickT rfl hg13_2 rfl) ?_
          refine WL.next ?_
          refine WC.cond rfl (fun hc4 => ?_) (fun hc4 => ?_)
          · have hc4' := hc4; try simp only [decide_eq_true_eq, decide_eq_false_iff_not, Bool.not_eq_true', Bool.not_eq_false', Bool.not_eq_true, Bool.not_eq_false] at hc4'
            refine WC.region ?_
            refine WL.u rfl rfl (Wt.plain rfl) (Ex.move rfl) ?_
            refine WL.u rfl rfl (Wt.plain rfl) (Ex.move rfl) ?_
            refine WL.u rfl rfl (Wt.plain rfl) (Ex.add rfl rfl (by omega)) ?_
            refine WL.u rfl rfl (Wt.plain rfl) (Ex.rem rfl rfl (by omega) (by omega)) ?_
            refine WL.u rfl rfl (Wt.plain rfl) (Ex.indexStr Tryd.underlying9 rfl rfl (by (try simp only [List.length_cons, List.length_nil]); omega)) ?_
            refine WL.u rfl rfl (Wt.plain rfl) (Ex.assign rfl) ?_
            refine WL.next ?_
            refine WC.region ?_
            refine WL.u rfl rfl (Wt.plain rfl) (Ex.move rfl) ?_
            refine WL.u rfl rfl (Wt.plain rfl) (Ex.move rfl) ?_
            replace hH := hH.f2
            refine WL.append1 (r := rByte) (u := _) Tryd.underlying22 ty5 rfl rfl (fun _ => rfl) (fun _ => rfl) rfl rfl (Wt.plain rfl) (fun _ => (Wt.plain rfl)) hH ho21 rfl (by omega) (by omega) (fun b21 cap21 cur21 wn x21 hb21 hk21 hH ho21 => ?_)
            refine WL.u rfl rfl (Wt.plain rfl) (Ex.assign rfl) ?_
            refine WL.last ?_
            refine WN.normalBlock ?_
            refine WN.next ?_
            refine WC.region ?_
            refine WL.u rfl rfl (Wt.plain rfl) (Ex.move rfl) ?_
            refine WL.u rfl rfl (Wt.plain rfl) (Ex.add rfl rfl (by omega)) ?_
            refine WL.u rfl rfl (Wt.plain rfl) (Ex.assign rfl) ?_
            refine WL.last ?_
            replace hH := hH.f2
            replace hH := hH.f2
            refine WN.round (k + 1, p + 2, b21, cap21, cur21, row ++ [_]) (by exact ⟨rfl, rfl, rfl, rfl, rfl, rfl, rfl, rfl, trivial⟩) ?_ ?_
            · exact ⟨hH, ho21, by simp [hrl], by omega, by omega⟩
            · (try dsimp only); omega
          have hc4' := hc4; try simp only [decide_eq_true_eq, decide_eq_false_iff_not, Bool.not_eq_true', Bool.not_eq_false', Bool.not_eq_true, Bool.not_eq_false] at hc4'
          refine WC.skip ?_
          refine WN.next ?_
          refine WC.region ?_
          refine WL.u rfl rfl (Wt.plain rfl) (Ex.move rfl) ?_
          refine WL.u rfl rfl (Wt.plain rfl) (Ex.move rfl) ?_
          replace hH := hH.f2
          refine WL.append1 (r := rByte) (u := _) Tryd.underlying22 ty5 rfl rfl (fun _ => rfl) (fun _ => rfl) rfl rfl (Wt.plain rfl) (fun _ => (Wt.plain rfl)) hH ho21 rfl (by omega) (by omega) (fun b21 cap21 cur21 wn x21 hb21 hk21 hH ho21 => ?_)
          refine WL.u rfl rfl (Wt.plain rfl) (Ex.assign rfl) ?_
          refine WL.last ?_
          refine WN.normalBlock ?_
          refine WN.next ?_
          refine WC.region ?_
          refine WL.u rfl rfl (Wt.plain rfl) (Ex.move rfl) ?_
          refine WL.u rfl rfl (Wt.plain rfl) (Ex.add rfl rfl (by omega)) ?_
          refine WL.u rfl rfl (Wt.plain rfl) (Ex.assign rfl) ?_
          refine WL.last ?_
          replace hH := hH.f2
          replace hH := hH.f2
          refine WN.round (k + 1, p + 2, b21, cap21, cur21, row ++ [_]) (by exact ⟨rfl, rfl, rfl, rfl, rfl, rfl, rfl, rfl, trivial⟩) ?_ ?_
          · exact ⟨hH, ho21, by simp [hrl], by omega, by omega⟩
          · (try dsimp only); omega
        have hg13_2' := hg13_2; try simp only [decide_eq_true_eq, decide_eq_false_iff_not, Bool.not_eq_true', Bool.not_eq_false', Bool.not_eq_true, Bool.not_eq_false] at hg13_2'
        refine WL.pass rfl rfl (Wt.guard' rfl rfl rfl hg13_2 rfl) ?_
        refine WL.pass rfl rfl (Wt.guard' rfl rfl rfl hg13_2 rfl) ?_
        refine WL.pass rfl rfl (Wt.guard' rfl rfl rfl hg13_2 rfl) ?_
        refine WL.u rfl rfl (Wt.plain rfl) (Ex.pickF rfl hg13_2 rfl) ?_
        refine WL.next ?_
        refine WC.condF rfl rfl ?_
        refine WC.skip ?_
        refine WN.next ?_
        refine WC.region ?_
        refine WL.u rfl rfl (Wt.plain rfl) (Ex.move rfl) ?_
        refine WL.u rfl rfl (Wt.plain rfl) (Ex.move rfl) ?_
        replace hH := hH.f2
        refine WL.append1 (r := rByte) (u := _) Tryd.underlying22 ty5 rfl rfl (fun _ => rfl) (fun _ => rfl) rfl rfl (Wt.plain rfl) (fun _ => (Wt.plain rfl)) hH ho21 rfl (by omega) (by omega) (fun b21 cap21 cur21 wn x21 hb21 hk21 hH ho21 => ?_)
        refine WL.u rfl rfl (Wt.plain rfl) (Ex.assign rfl) ?_
        refine WL.last ?_
        refine WN.normalBlock ?_
        refine WN.next ?_
        refine WC.region ?_
        refine WL.u rfl rfl (Wt.plain rfl) (Ex.move rfl) ?_
        refine WL.u rfl rfl (Wt.plain rfl) (Ex.add rfl rfl (by omega)) ?_
        refine WL.u rfl rfl (Wt.plain rfl) (Ex.assign rfl) ?_
        refine WL.last ?_
        replace hH := hH.f2
        replace hH := hH.f2
        refine WN.round (k + 1, p + 1, b21, cap21, cur21, row ++ [_]) (by exact ⟨rfl, rfl, rfl, rfl, rfl, rfl, rfl, rfl, trivial⟩) ?_ ?_
        · exact ⟨hH, ho21, by simp [hrl], by omega, by omega⟩
        · (try dsimp only); omega
      have hg11_2' := hg11_2; try simp only [decide_eq_true_eq, decide_eq_false_iff_not, Bool.not_eq_true', Bool.not_eq_false', Bool.not_eq_true, Bool.not_eq_false] at hg11_2'
      refine WL.pass rfl rfl (Wt.guard' rfl rfl rfl hg11_2 rfl) ?_
      refine WL.pass rfl rfl (Wt.guard' rfl rfl rfl hg11_2 rfl) ?_
      refine WL.u rfl rfl (Wt.plain rfl) (Ex.pickF rfl hg11_2 rfl) ?_
      refine WL.next ?_
      refine WC.condF rfl rfl ?_
      refine WC.skip ?_
      refine WN.next ?_
      refine WC.seq ?_
      refine WC.seq ?_
      refine WC.region ?_
      refine WL.u rfl rfl (Wt.plain rfl) (Ex.move rfl) ?_
      refine WL.u rfl rfl (Wt.plain rfl) (Ex.eql rfl rfl) ?_
      refine WL.u rfl rfl (Wt.plain rfl) (Ex.move rfl) ?_
      refine WL.split (t := 43) rfl (fun hg13_2 => ?_) (fun hg13_2 => ?_)
      · have hg13_2' := hg13_2; try simp only [decide_eq_true_eq, decide_eq_false_iff_not, Bool.not_eq_true', Bool.not_eq_false', Bool.not_eq_true, Bool.not_eq_false] at hg13_2'
        refine WL.u rfl rfl (Wt.guard' rfl rfl rfl hg13_2 rfl) (Ex.move rfl) ?_
        refine WL.call callable44 rfl (Wt.guard' rfl rfl rfl hg13_2 rfl) rfl rfl (spick _ _ _ _ _ 3 _ (hH.at 0 rfl) (hc.keepO hH.keep hca) hca hl (by omega) (by omega)) ?_
        rintro _ wn ⟨k45, rfl, hk45, hKK, ho⟩; replace hH := hH.turn hKK ho; clear hKK ho
        refine WL.u rfl rfl (Wt.guard' rfl rfl rfl hg13_2 rfl) (Ex.gtr rfl rfl) ?_
        refine WL.u rfl rfl (Wt.plain rfl) (Ex.pickT rfl hg13_2 rfl) ?_
        refine WL.next ?_
        refine WC.cond rfl (fun hc4 => ?_) (fun hc4 => ?_)
        · have hc4' := hc4; try simp only [decide_eq_true_eq, decide_eq_false_iff_not, Bool.not_eq_true', Bool.not_eq_false', Bool.not_eq_true, Bool.not_eq_false] at hc4'
          refine WC.region ?_
          refine WL.u rfl rfl (Wt.plain rfl) (Ex.move rfl) ?_
          refine WL.u rfl rfl (Wt.plain rfl) (Ex.move rfl) ?_
          refine WL.u rfl rfl (Wt.plain rfl) (Ex.add rfl rfl (by omega)) ?_
          refine WL.u rfl rfl (Wt.plain rfl) (Ex.rem rfl rfl (by omega) (by omega)) ?_
          refine WL.u rfl rfl (Wt.plain rfl) (Ex.indexStr Tryd.underlying9 rfl rfl (by (try simp only [List.length_cons, List.length_nil]); omega)) ?_
          refine WL.u rfl rfl (Wt.plain rfl) (Ex.assign rfl) ?_
          refine WL.next ?_
          refine WC.region ?_
          refine WL.u rfl rfl (Wt.plain rfl) (Ex.move rfl) ?_
          refine WL.u rfl rfl (Wt.plain rfl) (Ex.move rfl) ?_
          replace hH := hH.f2
          refine WL.append1 (r := rByte) (u := _) Tryd.underlying22 ty5 rfl rfl (fun _ => rfl) (fun _ => rfl) rfl rfl (Wt.plain rfl) (fun _ => (Wt.plain rfl)) hH ho21 rfl (by omega) (by omega) (fun b21 cap21 cur21 wn x21 hb21 hk21 hH ho21 => ?_)
          refine WL.u rfl rfl (Wt.plain rfl) (Ex.assign rfl) ?_
          refine WL.last ?_
          refine WN.normalBlock ?_
          refine WN.next ?_
          refine WC.region ?_
          refine WL.u rfl rfl (Wt.plain rfl) (Ex.move rfl) ?_
          refine WL.u rfl rfl (Wt.plain rfl) (Ex.add rfl rfl (by omega)) ?_
          refine WL.u rfl rfl (Wt.plain rfl) (Ex.assign rfl) ?_
          refine WL.last ?_
          replace hH := hH.f2
          replace hH := hH.f2
          refine WN.round (k + 1, p + 2, b21, cap21, cur21, row ++ [_]) (by exact ⟨rfl, rfl, rfl, rfl, rfl, rfl, rfl, rfl, trivial⟩) ?_ ?_
          · exact ⟨hH, ho21, by simp [hrl], by omega, by omega⟩
          · (try dsimp only); omega
        have hc4' := hc4; try simp only [decide_eq_true_eq, decide_eq_false_iff_not, Bool.not_eq_true', Bool.not_eq_false', Bool.not_eq_true, Bool.not_eq_false] at hc4'
        refine WC.skip ?_
        refine WN.next ?_
        refine WC.region ?_
        refine WL.u rfl rfl (Wt.plain rfl) (Ex.move rfl) ?_
        refine WL.u rfl rfl (Wt.plain rfl) (Ex.move rfl) ?_
        replace hH := hH.f2
        refine WL.append1 (r := rByte) (u := _) Tryd.underlying22 ty5 rfl rfl (fun _ => rfl) (fun _ => rfl) rfl rfl (Wt.plain rfl) (fun _ => (Wt.plain rfl)) hH ho21 rfl (by omega) (by omega) (fun b21 cap21 cur21 wn x21 hb21 hk21 hH ho21 => ?_)
        refine WL.u rfl rfl (Wt.plain rfl) (Ex.assign rfl) ?_
        refine WL.last ?_
        refine WN.normalBlock ?_
        refine WN.next ?_
        refine WC.region ?_
        refine WL.u rfl rfl (Wt.plain rfl) (Ex.move rfl) ?_
        refine WL.u rfl rfl (Wt.plain rfl) (Ex.add rfl rfl (by omega)) ?_
        refine WL.u rfl rfl (Wt.plain rfl) (Ex.assign rfl) ?_
        refine WL.last ?_
        replace hH := hH.f2
        replace hH := hH.f2
        refine WN.round (k + 1, p + 2, b21, cap21, cur21, row ++ [_]) (by exact ⟨rfl, rfl, rfl, rfl, rfl, rfl, rfl, rfl, trivial⟩) ?_ ?_
        · exact ⟨hH, ho21, by simp [hrl], by omega, by omega⟩
        · (try dsimp only); omega
      have hg13_2' := hg13_2; try simp only [decide_eq_true_eq, decide_eq_false_iff_not, Bool.not_eq_true', Bool.not_eq_false', Bool.not_eq_true, Bool.not_eq_false] at hg13_2'
      refine WL.pass rfl rfl (Wt.guard' rfl rfl rfl hg13_2 rfl) ?_
      refine WL.pass rfl rfl (Wt.guard' rfl rfl rfl hg13_2 rfl) ?_
      refine WL.pass rfl rfl (Wt.guard' rfl rfl rfl hg13_2 rfl) ?_
      refine WL.u rfl rfl (Wt.plain rfl) (Ex.pickF rfl hg13_2 rfl) ?_
      refine WL.next ?_
      refine WC.condF rfl rfl ?_
      refine WC.skip ?_
      refine WN.next ?_
      refine WC.region ?_
      refine WL.u rfl rfl (Wt.plain rfl) (Ex.move rfl) ?_
      refine WL.u rfl rfl (Wt.plain rfl) (Ex.move rfl) ?_
      replace hH := hH.f2
      refine WL.append1 (r := rByte) (u := _) Tryd.underlying22 ty5 rfl rfl (fun _ => rfl) (fun _ => rfl) rfl rfl (Wt.plain rfl) (fun _ => (Wt.plain rfl)) hH ho21 rfl (by omega) (by omega) (fun b21 cap21 cur21 wn x21 hb21 hk21 hH ho21 => ?_)
      refine WL.u rfl rfl (Wt.plain rfl) (Ex.assign rfl) ?_
      refine WL.last ?_
      refine WN.normalBlock ?_
      refine WN.next ?_
      refine WC.region ?_
      refine WL.u rfl rfl (Wt.plain rfl) (Ex.move rfl) ?_
      refine WL.u rfl rfl (Wt.plain rfl) (Ex.add rfl rfl (by omega)) ?_
      refine WL.u rfl rfl (Wt.plain rfl) (Ex.assign rfl) ?_
      refine WL.last ?_
      replace hH := hH.f2
      replace hH := hH.f2
      refine WN.round (k + 1, p + 1, b21, cap21, cur21, row ++ [_]) (by exact ⟨rfl, rfl, rfl, rfl, rfl, rfl, rfl, rfl, trivial⟩) ?_ ?_
      · exact ⟨hH, ho21, by simp [hrl], by omega, by omega⟩
      · (try dsimp only); omega
    have hc2' := hc2; try simp only [decide_eq_true_eq, decide_eq_false_iff_not, Bool.not_eq_true', Bool.not_eq_false', Bool.not_eq_true, Bool.not_eq_false] at hc2'
    refine WC.exit ?_
    refine WN.exitThen ?_
    refine WN.exitThen ?_
    refine WN.exitHere ?_
    refine WN.next ?_
    refine WC.region ?_
    refine WL.u rfl rfl (Wt.plain rfl) (Ex.move rfl) ?_
    refine WL.u rfl rfl (Wt.plain rfl) (Ex.move rfl) ?_
    refine WL.u rfl rfl (Wt.plain rfl) (Ex.bytesStr Tryd.underlying22 Tryd.underlying5 Tryd.underlying9 rfl (ho21.slAt hH 2 rfl)) ?_
    replace hH := hH.f1
    refine WL.append1 (r := rStr) (u := row) Tryd.underlying23 ty9 rfl rfl (fun _ => rfl) (fun _ => rfl) rfl rfl (Wt.plain rfl) (fun _ => (Wt.plain rfl)) hH ho13 rfl (by omega) (by omega) (fun b13 cap13 cur13 wn x13 hb13 hk13 hH ho13 => ?_)
    refine WL.u rfl rfl (Wt.plain rfl) (Ex.assign rfl) ?_
    refine WL.last ?_
    refine WN.normalBlock ?_
    refine WN.next ?_
    refine WC.region ?_
    refine WL.u rfl rfl (Wt.plain rfl) (Ex.move rfl) ?_
    refine WL.u rfl rfl (Wt.plain rfl) (Ex.add rfl rfl (by omega)) ?_
    refine WL.u rfl rfl (Wt.plain rfl) (Ex.assign rfl) ?_
    refine WL.last ?_
    replace hH := hH.f1
    replace hH := hH.first2
    refine WN.round (i + 1, p, b13, cap13, cur13, g ++ [row]) (by exact ⟨rfl, rfl, rfl, rfl, rfl, rfl, trivial⟩) ?_ ?_
    · exact ⟨hH, ho13, by simp [hgl], by intro s hs; rcases List.mem_append.1 hs with h | h; exact hgr s h; rw [List.mem_singleton.1 h]; omega, by omega, by omega⟩
    · (try dsimp only); omega
  have hc1' := hc1; try simp only [decide_eq_true_eq, decide_eq_false_iff_not, Bool.not_eq_true', Bool.not_eq_false', Bool.not_eq_true, Bool.not_eq_false] at hc1'
  refine WC.exit ?_
  refine WN.exitThen ?_
  refine WN.exitThen ?_
  refine WN.exitHere ?_
  refine WN.next ?_
  refine WC.seq ?_
  refine WC.region ?_
  refine WL.u rfl rfl (Wt.plain rfl) (Ex.move rfl) ?_
  refine WL.u rfl rfl (Wt.plain rfl) (Ex.assign rfl) ?_
  refine WL.next ?_
  refine WC.ret ?_
  refine WN.body1 rfl rfl ?_
  exact ⟨g, p, New.of hH.f1 ho13 (hH.base1 1 0 rfl rfl rfl rfl), by omega, hgr, hH.keep, hH.at 0 rfl, by omega⟩

theorem sl91Some (r : Nat) (a : Option Addr) (l : List UInt8) (cap p0 : Nat) (n m : Nat) (w : World) (hr : w.heap[r]? = some (rdo a l.length cap p0)) (hc : Sl rByte w a l) (hca : Off [r] a l) (hl : l.length ≤ 2000) (hp : p0 ≤ 800000) (hn : n ≤ 7) (hm : m ≤ 7) : Fn Tryd.prog 32 [vptr r 0, vint n, vint m] w (fun v w1 => ∃ (g : Grid) (q : Nat), New rStr 9 w w1 v g ∧ (1 ≤ g.length ∧ g.length ≤ max n 1) ∧ (∀ s ∈ g, s.length ≤ max m 1 + 1) ∧ Keep [r] w w1 ∧ w1.heap[r]? = some (rdo a l.length cap q) ∧ q ≤ p0 + 300) := by
  refine Fn.enter (n := 46) Tryd.func32 rfl rfl rfl ?_
  show WC _ _ _ _ [(0, vptr r 0), (1, vint n), (2, vint m)] _
  have hH := Hp.at1 hr
  refine WC.seq ?_
  refine WC.region ?_
  refine WL.u rfl rfl (Wt.plain rfl) (Ex.assign rfl) ?_
  refine WL.next ?_
  refine WC.seq ?_
  refine WC.region ?_
  refine WL.u rfl rfl (Wt.plain rfl) (Ex.move rfl) ?_
  refine WL.u rfl rfl (Wt.plain rfl) (Ex.move rfl) ?_
  refine WL.call callable44 rfl (Wt.plain rfl) rfl rfl (spick _ _ _ _ _ _ _ (hH.at 0 rfl) (hc.keepO hH.keep hca) hca hl (by omega) (by omega)) ?_
  rintro _ wn ⟨n1, rfl, hn1, hKK, ho⟩; replace hH := hH.turn hKK ho; clear hKK ho
  refine WL.u rfl rfl (Wt.plain rfl) (Ex.add rfl rfl (by omega)) ?_
  refine WL.u rfl rfl (Wt.plain rfl) (Ex.assign rfl) ?_
  refine WL.next ?_
  refine WC.seq ?_
  refine WC.region ?_
  refine WL.u rfl rfl (Wt.plain rfl) (Ex.move rfl) ?_
  refine WL.u rfl rfl (Wt.plain rfl) (Ex.move rfl) ?_
  refine WL.call callable44 rfl (Wt.plain rfl) rfl rfl (spick _ _ _ _ _ _ _ (hH.at 0 rfl) (hc.keepO hH.keep hca) hca hl (by omega) (by omega)) ?_
  rintro _ wn ⟨m1, rfl, hm1, hKK, ho⟩; replace hH := hH.turn hKK ho; clear hKK ho
  refine WL.u rfl rfl (Wt.plain rfl) (Ex.add rfl rfl (by omega)) ?_
  refine WL.u rfl rfl (Wt.plain rfl) (Ex.assign rfl) ?_
  refine WL.next ?_
  refine WC.seq ?_
  refine WC.region ?_
  refine WL.u rfl rfl (Wt.plain rfl) (Ex.move rfl) ?_
  refine WL.u rfl rfl (Wt.plain rfl) (Ex.move rfl) ?_
  refine WL.u rfl rfl (Wt.plain rfl) (Ex.move rfl) ?_
  refine WL.call callable57 rfl (Wt.plain rfl) rfl rfl (sl91Of _ _ _ _ _ (1 + n1) (1 + m1) _ (hH.at 0 rfl) (hc.keepO hH.keep hca) hca hl (by omega) (by omega) (by omega)) ?_
  rintro _ wn ⟨g, q, hN, hgl, hgr, hKK, ho, hq⟩; obtain ⟨b21, cap21, cur21, rfl, hge21, hbb21, ho21⟩ := hN.own; replace hH := hH.turnPush hKK ho hge21 hbb21; clear hKK ho hN
  refine WL.u rfl rfl (Wt.plain rfl) (Ex.assign rfl) ?_
  refine WL.next ?_
  refine WC.seq ?_
  refine WC.seq ?_
  refine WC.region ?_
  refine WL.u rfl rfl (Wt.plain rfl) (Ex.move rfl) ?_
  replace hH := hH.f1
  refine WL.call callable44 rfl (Wt.plain rfl) rfl rfl (spick _ _ _ _ _ 60 _ (hH.at 0 rfl) (hc.keepO hH.keep hca) hca hl (by omega) (by omega)) ?_
  rintro _ wn ⟨k23, rfl, hk23, hKK, ho⟩; replace hH := hH.turn hKK ho; clear hKK ho
  refine WL.next ?_
  refine WC.block ?_
  refine WC.seq ?_
  refine WC.region ?_
  refine WL.u rfl rfl (Wt.plain rfl) (Ex.eql rfl rfl) ?_
  refine WL.u rfl rfl (Wt.plain rfl) (Ex.assign rfl) ?_
  refine WL.next ?_
  refine WC.cond rfl (fun hc1 => ?_) (fun hc1 => ?_)
  · have hc1' := hc1; try simp only [decide_eq_true_eq, decide_eq_false_iff_not, Bool.not_eq_true', Bool.not_eq_false', Bool.not_eq_true, Bool.not_eq_false] at hc1'
    have hg0 := getD_get g 0 [] (by omega)
    have hr0 := hgr _ (List.mem_of_getElem? hg0)
    refine WC.region ?_
    refine WL.u rfl rfl (Wt.plain rfl) (Ex.move rfl) ?_
    refine WL.u rfl rfl (Wt.plain rfl) (Ex.move rfl) ?_
    refine WL.u rfl rfl (Wt.plain rfl) (Ex.indexAddr Tryd.underlying23 ty9 rfl rfl (by omega)) ?_
    replace hH := hH.f1
    refine WL.u rfl rfl (Wt.plain rfl) (Ex.loadHp flat9 rfl hH (ho21.get rfl (hg0))) ?_
    refine WL.u rfl rfl (Wt.plain rfl) (Ex.sliceStrFrom Tryd.underlying9 rfl rfl (by omega)) ?_
    refine WL.u rfl rfl (Wt.plain rfl) (Ex.concat rfl rfl (by simp only [List.length_drop, List.length_singleton]; omega)) ?_
    refine WL.u rfl rfl (Wt.plain rfl) (Ex.indexAddr Tryd.underlying23 ty9 rfl rfl (by omega)) ?_
    refine WL.store1 ty9 rfl rfl rfl (Wt.plain rfl) hH (ho21.idx (i := 0) rfl (by omega)) (by simp) (fun wn hk hH => ?_)
    replace ho21 := ho21.set rfl 0 ((g.getD 0 []).drop (1 : Int).toNat ++ [120])
    refine WL.last ?_
    refine WN.normalBlock ?_
    refine WN.next ?_
    refine WC.seq ?_
    refine WC.region ?_
    refine WL.u rfl rfl (Wt.plain rfl) (Ex.move rfl) ?_
    refine WL.u rfl rfl (Wt.plain rfl) (Ex.assign rfl) ?_
    refine WL.next ?_
    refine WC.ret ?_
    refine WN.body1 rfl rfl ?_
    have hN := New.of hH ho21 (hH.base1 0 1 rfl rfl rfl rfl)
    rw [List.length_set] at hN
    exact ⟨g.set 0 ((g.getD 0 []).drop (1 : Int).toNat ++ [120]), q + 1, hN, by rw [List.length_set]; omega, set_len (M := max m 1 + 1) hgr (by simp only [List.length_append, List.length_drop, List.length_singleton]; omega) (by omega), hH.keep, hH.at 1 rfl, by omega⟩
  have hc1' := hc1; try simp only [decide_eq_true_eq, decide_eq_false_iff_not, Bool.not_eq_true', Bool.not_eq_false', Bool.not_eq_true, Bool.not_eq_false] at hc1'
  refine WC.seq ?_
  refine WC.region ?_
  refine WL.u rfl rfl (Wt.plain rfl) (Ex.eql rfl rfl) ?_
  refine WL.u rfl rfl (Wt.plain rfl) (Ex.assign rfl) ?_
  refine WL.next ?_
  refine WC.cond rfl (fun hc2 => ?_) (fun hc2 => ?_)
  · have hc2' := hc2; try simp only [decide_eq_true_eq, decide_eq_false_iff_not, Bool.not_eq_true', Bool.not_eq_false', Bool.not_eq_true, Bool.not_eq_false] at hc2'
    have hg0 := getD_get g n1 [] (by omega)
    have hr0 := hgr _ (List.mem_of_getElem? hg0)
    have hnn : (1 : Int) + n1 - 1 = (n1 : Nat) := by omega
    refine WC.region ?_
    refine WL.u rfl rfl (Wt.plain rfl) (Ex.move rfl) ?_
    refine WL.u rfl rfl (Wt.plain rfl) (Ex.move rfl) ?_
    refine WL.u rfl rfl (Wt.plain rfl) ((Ex.sub rfl rfl (by omega)).to (congrArg (Value.int IntKind.i64) hnn)) ?_
    refine WL.u rfl rfl (Wt.plain rfl) (Ex.move rfl) ?_
    refine WL.u rfl rfl (Wt.plain rfl) (Ex.move rfl) ?_
    refine WL.u rfl rfl (Wt.plain rfl) ((Ex.sub rfl rfl (by omega)).to (congrArg (Value.int IntKind.i64) hnn)) ?_
    refine WL.u rfl rfl (Wt.plain rfl) (Ex.indexAddr Tryd.underlying23 ty9 rfl rfl (by omega)) ?_
    replace hH := hH.f1
    refine WL.u rfl rfl (Wt.plain rfl) (Ex.loadHp flat9 rfl hH (ho21.get rfl (hg0))) ?_
    refine WL.u rfl rfl (Wt.plain rfl) (Ex.concat rfl rfl (by simp only [List.length_singleton]; omega)) ?_
    refine WL.u rfl rfl (Wt.plain rfl) (Ex.indexAddr Tryd.underlying23 ty9 rfl rfl (by omega)) ?_
    refine WL.store1 ty9 rfl rfl rfl (Wt.plain rfl) hH (ho21.idx rfl (by omega)) (by simp) (fun wn hk hH => ?_)
    replace ho21 := ho21.set rfl n1 (g.getD n1 [] ++ [46])
    refine WL.last ?_
    refine WN.normalBlock ?_
    refine WN.next ?_
    refine WC.seq ?_
    refine WC.region ?_
    refine WL.u rfl rfl (Wt.plain rfl) (Ex.move rfl) ?_
    refine WL.u rfl rfl (Wt.plain rfl) (Ex.assign rfl) ?_
    refine WL.next ?_
    refine WC.ret ?_
    refine WN.body1 rfl rfl ?_
    have hN := New.of hH ho21 (hH.base1 0 1 rfl rfl rfl rfl)
    rw [List.length_set] at hN
    exact ⟨g.set n1 (g.getD n1 [] ++ [46]), q + 1, hN, by rw [List.length_set]; omega, set_len (M := max m 1 + 1) hgr (by simp only [List.length_append, List.length_singleton]; omega) (by omega), hH.keep, hH.at 1 rfl, by omega⟩
  have hc2' := hc2; try simp only [decide_eq_true_eq, decide_eq_false_iff_not, Bool.not_eq_true', Bool.not_eq_false', Bool.not_eq_true, Bool.not_eq_false] at hc2'
  refine WC.skip ?_
  refine WN.normalBlock ?_
  refine WN.next ?_
  refine WC.seq ?_
  refine WC.region ?_
  refine WL.u rfl rfl (Wt.plain rfl) (Ex.move rfl) ?_
  refine WL.u rfl rfl (Wt.plain rfl) (Ex.assign rfl) ?_
  refine WL.next ?_
  refine WC.ret ?_
  refine WN.body1 rfl rfl ?_
  exact ⟨g, _, New.of hH.f1 ho21 (hH.base1 1 0 rfl rfl rfl rfl), by omega, fun s hs => by have := hgr s hs; omega, hH.keep, hH.at 0 rfl, by omega⟩

theorem sl6Open (a : Option Addr) (l : List UInt8) (cap : Nat) (w : World) (hcap : l.length ≤ cap) : Fn Tryd.prog 33 [.slice a l.length cap] w (fun v w1 => ∃ r, v = vptr r 0 ∧ w.heap.size ≤ r ∧ Keep [] w w1 ∧ w1.heap[r]? = some (rdo a (l.take 2000).length cap 0)) := by
  refine Fn.enter (n := 11) Tryd.func33 rfl rfl rfl ?_
  show WC _ _ _ _ [(0, .slice a l.length cap)] _
  have hH := Hp.start [] w
  refine WC.seq ?_
  refine WC.region ?_
  refine WL.u rfl rfl (Wt.plain rfl) (Ex.assign rfl) ?_
  refine WL.next ?_
  refine WC.seq ?_
  refine WC.seq ?_
  refine WC.region ?_
  refine WL.u rfl rfl (Wt.plain rfl) (Ex.move rfl) ?_
  refine WL.u rfl rfl (Wt.plain rfl) (Ex.lenSl Tryd.underlying22 rfl) ?_
  refine WL.u rfl rfl (Wt.plain rfl) (Ex.gtr rfl rfl) ?_
  refine WL.next ?_
  refine WC.cond rfl (fun hc1 => ?_) (fun hc1 => ?_)
  · have hc1' := hc1; try simp only [decide_eq_true_eq, decide_eq_false_iff_not, Bool.not_eq_true', Bool.not_eq_false', Bool.not_eq_true, Bool.not_eq_false] at hc1'
    refine WC.region ?_
    refine WL.u rfl rfl (Wt.plain rfl) (Ex.move rfl) ?_
    refine WL.u rfl rfl (Wt.plain rfl) (Ex.sliceTo (j := 2000) Tryd.underlying22 ty5 rfl rfl (by omega)) ?_
    refine WL.u rfl rfl (Wt.plain rfl) (Ex.assign rfl) ?_
    refine WL.next ?_
    refine WC.seq ?_
    refine WC.region ?_
    refine WL.u rfl rfl (Wt.plain rfl) (Ex.move rfl) ?_
    refine WL.u rfl rfl (Wt.plain rfl) (Ex.build (pv := [(0, _)]) bd53 rfl rfl rfl) ?_
    refine WL.box rfl rfl rfl (Wt.plain rfl) hH (fun b10 wn hb10 hk10 hH => ?_)
    refine WL.u rfl rfl (Wt.plain rfl) (Ex.assign rfl) ?_
    refine WL.next ?_
    refine WC.ret ?_
    refine WN.body1 rfl rfl ?_
    have h2 : (l.take 2000).length = 2000 := by rw [List.length_take]; omega
    rw [h2]
    exact ⟨b10, rfl, hb10, hH.keep, hH.at 0 rfl⟩
  have hc1' := hc1; try simp only [decide_eq_true_eq, decide_eq_false_iff_not, Bool.not_eq_true', Bool.not_eq_false', Bool.not_eq_true, Bool.not_eq_false] at hc1'
  refine WC.skip ?_
  refine WN.next ?_
  refine WC.seq ?_
  refine WC.region ?_
  refine WL.u rfl rfl (Wt.plain rfl) (Ex.move rfl) ?_
  refine WL.u rfl rfl (Wt.plain rfl) (Ex.build (pv := [(0, _)]) bd53 rfl rfl rfl) ?_
  refine WL.box rfl rfl rfl (Wt.plain rfl) hH (fun b10 wn hb10 hk10 hH => ?_)
  refine WL.u rfl rfl (Wt.plain rfl) (Ex.assign rfl) ?_
  refine WL.next ?_
  refine WC.ret ?_
  refine WN.body1 rfl rfl ?_
  have h2 : (l.take 2000).length = l.length := by rw [List.length_take]; omega
  rw [h2]
  exact ⟨b10, rfl, hb10, hH.keep, hH.at 0 rfl⟩


theorem short_of {g : Grid} {M : Nat} (h : ∀ s ∈ g, s.length ≤ M) (hM : M ≤ 1000) : Short g := fun i => by
  by_cases hi : i < g.length
  · have := h _ (List.mem_of_getElem? (getD_get g i [] hi))
    omega
  · have e : g.getD i [] = [] := by simp [List.getD_eq_getElem?_getD, List.getElem?_eq_none (Nat.le_of_not_lt hi)]
    rw [e]; simp

end Go.Proofs.YtmhmdlgcdeodmaaDoor
