/- The first grid that fits. -/
import Derived.Test.YtmlefpddjfonlaaAsk4
import Derived.Test.YtmlefpddjfonlaaTexts
namespace Go.Proofs.Ytmlefpddjfonlaa
set_option maxRecDepth 100000
set_option linter.unusedSimpArgs false
set_option linter.unusedVariables false
open Go Go.RowKit
theorem GridOk.shortQ {g : Grid} (h : GridOk g) : Short g := fun i => by
  by_cases hi : i < g.length
  · have := h.row i hi
    have := h.m5
    omega
  · have e : g.getD i [] = [] := by simp [List.getD_eq_getElem?_getD, List.getElem?_eq_none (Nat.le_of_not_lt hi)]
    rw [e]; simp
def askFirst (n m : Int) (ans : List Int) : Grid × Bool := if ansB n m ans = true then ((fits n.toNat m.toNat ans).getD 0 [], decide (0 < (fits n.toNat m.toNat ans).length)) else ([], false)
theorem askFirst_at {n m : Nat} {ans : List Int} (h : AnsOk n m ans) : askFirst n m ans = ((fits n m ans).getD 0 [], decide (0 < (fits n m ans).length)) := by rw [askFirst, if_pos h.b]; rfl
theorem askFirst_not {n m : Int} {ans : List Int} (h : ansB n m ans = false) : askFirst n m ans = ([], false) := by rw [askFirst, if_neg (by rw [h]; decide)]
theorem askFirst_none {n m : Nat} {ans : List Int} (h : AnsOk n m ans) (hL : (fits n m ans).length = 0) : askFirst n m ans = ([], false) := by
  rw [askFirst_at h, hL]
  have : fits n m ans = [] := List.eq_nil_of_length_eq_zero hL
  rw [this]; rfl
theorem askFirst_some {n m : Nat} {ans : List Int} (h : AnsOk n m ans) (hL : 0 < (fits n m ans).length) : askFirst n m ans = ((fits n m ans).getD 0 [], true) := by rw [askFirst_at h, decide_eq_true hL]
theorem askFirst_len (n m : Int) (ans : List Int) : (askFirst n m ans).1.length ≤ 1000 := by
  cases hab : ansB n m ans with
  | false => rw [askFirst_not hab]; simp
  | true =>
    obtain ⟨a, b, rfl, rfl, hA⟩ := ansB_ex hab
    rcases Nat.eq_zero_or_pos (fits a b ans).length with h0 | h0
    · rw [askFirst_none hA h0]; simp
    · rw [askFirst_some hA h0]
      have := (hA.list.g 0 h0).1.n5
      show ((fits a b ans).getD 0 []).length ≤ 1000
      omega
theorem Own.new {α : Type} {r : Rep α} {cur : Array Value} {cap : Nat} {l : List α} {w0 w : World} {b : Nat} {e : TypeId} (o : Own r cur cap l) (hb : w0.heap.size ≤ b) (h : w.heap[b]? = some (.cells cur e (0, 0))) : New r e w0 w (vsl b l.length cap) l :=
  ⟨b, cap, cur, rfl, hb, h, o.size, o.le, by simpa [maxLen] using o.max, o.rw⟩
theorem askFirst_ex {n m : Int} {ans : List Int} {out : Grid} (h : askFirst n m ans = (out, true)) : ∃ a b : Nat, n = a ∧ m = b ∧ AnsOk a b ans ∧ 0 < (fits a b ans).length ∧ out = (fits a b ans).getD 0 [] := by
  cases hab : ansB n m ans with
  | false => rw [askFirst_not hab] at h; cases h
  | true =>
    obtain ⟨a, b, rfl, rfl, hA⟩ := ansB_ex hab
    rcases Nat.eq_zero_or_pos (fits a b ans).length with h0 | h0
    · rw [askFirst_none hA h0] at h; cases h
    · rw [askFirst_some hA h0] at h
      cases h
      exact ⟨a, b, rfl, rfl, hA, h0, rfl⟩

theorem markIntL (b cap : Nat) (cur : Array Value) (l : List Int) (k : Int) (w : World) (hb : w.heap[b]? = some (.cells cur 3 (0, 0))) (ho : Own rInt cur cap l) (hk : -1000000 ≤ k ∧ k ≤ 1000000) (hl : l.length ≤ 2000000) : Fn Try.prog 24 [vsl b l.length cap, vint k] w (fun v w1 => ∃ cur1, v = vint (k + l.length) ∧ Keep [b] w w1 ∧ w1.heap[b]? = some (.cells cur1 3 (0, 0)) ∧ Own rInt cur1 cap (marks k l.length)) := by
  refine Fn.enter (n := 19) Try.func24 rfl rfl rfl ?_
  show WC _ _ _ _ [(0, vsl b l.length cap), (1, vint k)] _
  have hH := Hp.at1 hb
  refine WC.seq ?_
  refine WC.region ?_
  refine WL.u rfl rfl (Wt.plain rfl) (Ex.assign rfl) ?_
  refine WL.next ?_
  refine WC.seq ?_
  refine WC.seq ?_
  refine WC.region ?_
  refine WL.u rfl rfl (Wt.plain rfl) (Ex.assign rfl) ?_
  refine WL.next ?_
  refine WC.block ?_
  refine WC.loop (ι := Nat × (Array Value) × (List Int)) (fun (i, cur, m) => [(0, vsl b l.length cap), (1, vint (k + i)), (5, vint i)]) (fun (i, cur, m) wn => Hp [b] w wn [(b, .cells cur 3 (0, 0))] ∧ Own rInt cur cap m ∧ m.length = l.length ∧ i ≤ l.length ∧ ∀ j, j < i → m.getD j 0 = k + (j : Int)) (fun (i, cur, m) => l.length - i) ((0, cur, l)) (by exact ⟨rfl, congrArg (fun x => some (Value.int IntKind.i64 x)) (show k = k + ((0 : Nat) : Int) by omega), rfl, trivial⟩) ?_ ?_
  · exact ⟨hH, ho, rfl, by omega, fun j hj => by omega⟩
  rintro ⟨i, cur, m⟩ wn ⟨hH, hoa, hml, hi, hI⟩
  intro mu0 hmu; try dsimp only at hmu
  show WC _ _ _ _ [(0, vsl b l.length cap), (1, vint (k + i)), (5, vint i)] _
  refine WC.seq ?_
  refine WC.seq ?_
  refine WC.region ?_
  refine WL.u rfl rfl (Wt.plain rfl) (Ex.move rfl) ?_
  refine WL.u rfl rfl (Wt.plain rfl) (Ex.move rfl) ?_
  refine WL.u rfl rfl (Wt.plain rfl) (Ex.lenSl Try.underlying24 rfl) ?_
  refine WL.u rfl rfl (Wt.plain rfl) (Ex.lss rfl rfl) ?_
  refine WL.next ?_
  refine WC.cond rfl (fun hc1 => ?_) (fun hc1 => ?_)
  · have hc1' := hc1; try simp only [decide_eq_true_eq, decide_eq_false_iff_not, Bool.not_eq_true', Bool.not_eq_false', Bool.not_eq_true, Bool.not_eq_false] at hc1'
    have hlt : i < l.length := by omega
    refine WC.skip ?_
    refine WN.next ?_
    refine WC.seq ?_
    refine WC.block ?_
    refine WC.seq ?_
    refine WC.region ?_
    refine WL.u rfl rfl (Wt.plain rfl) (Ex.move rfl) ?_
    refine WL.u rfl rfl (Wt.plain rfl) (Ex.move rfl) ?_
    refine WL.u rfl rfl (Wt.plain rfl) (Ex.move rfl) ?_
    refine WL.u rfl rfl (Wt.plain rfl) (Ex.indexAddr Try.underlying24 ty3 rfl rfl (by omega)) ?_
    refine WL.store1 ty3 rfl rfl rfl (Wt.plain rfl) hH (hoa.idx rfl (by omega)) (by simp) (fun wn hk hH => ?_)
    replace hoa := hoa.set rfl i (k + i)
    refine WL.next ?_
    refine WC.region ?_
    refine WL.u rfl rfl (Wt.plain rfl) (Ex.move rfl) ?_
    refine WL.u rfl rfl (Wt.plain rfl) (Ex.add rfl rfl (by omega)) ?_
    refine WL.u rfl rfl (Wt.plain rfl) (Ex.assign rfl) ?_
    refine WL.last ?_
    refine WN.normalBlock ?_
    refine WN.next ?_
    refine WC.region ?_
    refine WL.u rfl rfl (Wt.plain rfl) (Ex.move rfl) ?_
    refine WL.u rfl rfl (Wt.plain rfl) (Ex.add rfl rfl (by omega)) ?_
    refine WL.u rfl rfl (Wt.plain rfl) (Ex.assign rfl) ?_
    refine WL.last ?_
    refine WN.round (i + 1, cur.setIfInBounds (0 + (i : Int).toNat * 1) (rInt.val (k + i)), m.set i (k + i)) (by exact ⟨rfl, congrArg (fun x => some (Value.int IntKind.i64 x)) (show k + (i : Int) + 1 = k + ((i + 1 : Nat) : Int) by omega), rfl, trivial⟩) ?_ ?_
    · refine ⟨hH, hoa, by simp [hml], by omega, fun j hj => ?_⟩
      rcases Nat.lt_succ_iff_lt_or_eq.1 hj with h | rfl
      · rw [List.getD_eq_getElem?_getD, List.getElem?_set_ne (by omega), ← List.getD_eq_getElem?_getD]; exact hI j h
      · rw [List.getD_eq_getElem?_getD, List.getElem?_set_self (by omega)]; rfl
    · (try dsimp only); omega
  have hc1' := hc1; try simp only [decide_eq_true_eq, decide_eq_false_iff_not, Bool.not_eq_true', Bool.not_eq_false', Bool.not_eq_true, Bool.not_eq_false] at hc1'
  refine WC.exit ?_
  refine WN.exitThen ?_
  refine WN.exitThen ?_
  refine WN.exitHere ?_
  refine WN.next ?_
  refine WC.seq ?_
  refine WC.region ?_
  refine WL.u rfl rfl (Wt.plain rfl) (Ex.move rfl) ?_
  refine WL.u rfl rfl (Wt.plain rfl) (Ex.assign rfl) ?_
  refine WL.next ?_
  refine WC.ret ?_
  refine WN.body1 rfl rfl ?_
  have hieq : i = l.length := by omega
  rw [hieq] at hI ⊢
  exact ⟨cur, rfl, hH.keep, hH.at 0 rfl, by rw [← marks_of hml hI]; exact hoa⟩

theorem iAskFirst (n m : Int) (ans : List Int) (a : Option Addr) (cap : Nat) (w : World) (ha : Sl rInt w a ans) : Fn Try.prog 35 [vint n, vint m, .slice a ans.length cap] w (fun v w1 => ∃ x, v = .tuple #[x, .bool (askFirst n m ans).2] ∧ Keep [] w w1 ∧ New rStr 9 w w1 x (askFirst n m ans).1) := by
  refine Fn.enter (n := 24) Try.func35 rfl rfl rfl ?_
  show WC _ _ _ _ [(0, vint n), (1, vint m), (2, .slice a ans.length cap)] _
  have hH := Hp.start [] w
  refine WC.seq ?_
  refine WC.region ?_
  refine WL.u rfl rfl (Wt.plain rfl) (Ex.assign rfl) ?_
  refine WL.u rfl rfl (Wt.plain rfl) (Ex.assign rfl) ?_
  refine WL.next ?_
  refine WC.seq ?_
  refine WC.seq ?_
  refine WC.region ?_
  refine WL.u rfl rfl (Wt.plain rfl) (Ex.move rfl) ?_
  refine WL.u rfl rfl (Wt.plain rfl) (Ex.move rfl) ?_
  refine WL.u rfl rfl (Wt.plain rfl) (Ex.move rfl) ?_
  refine WL.call callable64 rfl (Wt.plain rfl) rfl rfl (ianswersOk n m ans _ _ _ (ha.kept hH.keep)) ?_
  rintro _ _ ⟨rfl, hw⟩; obtain rfl := hw.symm
  refine WL.next ?_
  refine WC.cond rfl (fun hc1 => ?_) (fun hc1 => ?_)
  · have hc1' := hc1; try simp only [decide_eq_true_eq, decide_eq_false_iff_not, Bool.not_eq_true', Bool.not_eq_false', Bool.not_eq_true, Bool.not_eq_false] at hc1'
    obtain ⟨n, m, rfl, rfl, hA⟩ := ansB_ex hc1
    refine WC.seq ?_
    refine WC.region ?_
    refine WL.u rfl rfl (Wt.plain rfl) (Ex.move rfl) ?_
    refine WL.u rfl rfl (Wt.plain rfl) (Ex.move rfl) ?_
    refine WL.u rfl rfl (Wt.plain rfl) (Ex.move rfl) ?_
    refine WL.call callable65 rfl (Wt.plain rfl) rfl rfl (ifits n m ans _ _ _ (ha.kept hH.keep) hA) ?_
    rintro _ wn ⟨hC, hN⟩; obtain ⟨hs, b16, cap16, cur16, rfl, hge16, hbb16, ho16, hgs⟩ := hN; replace hH := hH.push hC hge16 hbb16; have hsl := hgs.len; clear hC
    refine WL.u rfl rfl (Wt.plain rfl) (Ex.assign rfl) ?_
    refine WL.next ?_
    refine WC.seq ?_
    refine WC.region ?_
    refine WL.u rfl rfl (Wt.plain rfl) (Ex.move rfl) ?_
    refine WL.u rfl rfl (Wt.plain rfl) (Ex.lenSl Try.underlying56 rfl) ?_
    refine WL.u rfl rfl (Wt.plain rfl) (Ex.gtr rfl rfl) ?_
    refine WL.next ?_
    refine WC.cond rfl (fun hc2 => ?_) (fun hc2 => ?_)
    · have hc2' := hc2; try simp only [decide_eq_true_eq, decide_eq_false_iff_not, Bool.not_eq_true', Bool.not_eq_false', Bool.not_eq_true, Bool.not_eq_false] at hc2'
      have hL0 : 0 < (fits n m ans).length := by omega
      obtain ⟨bq, capq, curq, eq0, hq1, hq2, hq3, hoq⟩ := hgs.get 0 _ _ (getD_get hs 0 hd0 (by omega)) (getD_get (fits n m ans) 0 [] hL0)
      have hv0 : rHd.val (hs.getD 0 hd0) = vsl bq ((fits n m ans).getD 0 []).length capq := by rw [eq0]; rfl
      refine WC.seq ?_
      refine WC.region ?_
      refine WL.u rfl rfl (Wt.plain rfl) (Ex.move rfl) ?_
      refine WL.u rfl rfl (Wt.plain rfl) (Ex.indexAddr Try.underlying56 ty22 rfl rfl (by omega)) ?_
      refine WL.u rfl rfl (Wt.plain rfl) ((Ex.loadHp flat22 rfl hH (ho16.get (i := 0) rfl (getD_get hs 0 hd0 (by omega)))).to hv0) ?_
      refine WL.u rfl rfl (Wt.plain rfl) (Ex.assign rfl) ?_
      refine WL.u rfl rfl (Wt.plain rfl) (Ex.assign rfl) ?_
      refine WL.next ?_
      refine WC.ret ?_
      refine WN.retThen ?_
      refine WN.body2 rfl rfl rfl ?_
      exact ⟨_, by rw [askFirst_some hA hL0], hH.keep, by rw [askFirst_some hA hL0]; exact hoq.new hq2 hq3⟩
    have hc2' := hc2; try simp only [decide_eq_true_eq, decide_eq_false_iff_not, Bool.not_eq_true', Bool.not_eq_false', Bool.not_eq_true, Bool.not_eq_false] at hc2'
    have hL0 : (fits n m ans).length = 0 := by omega
    refine WC.skip ?_
    refine WN.next ?_
    refine WC.seq ?_
    refine WC.region ?_
    refine WL.lit0 Try.underlying22 ty9 rfl (Wt.plain rfl) hH (fun b23 wn hb23 hk23 hH => ?_)
    have ho23 := Own.nil rStr
    refine WL.u rfl rfl (Wt.plain rfl) (Ex.assign rfl) ?_
    refine WL.u rfl rfl (Wt.plain rfl) (Ex.assign rfl) ?_
    refine WL.next ?_
    refine WC.ret ?_
    refine WN.body2 rfl rfl rfl ?_
    have e := askFirst_none hA hL0
    exact ⟨_, by rw [e], hH.keep, by rw [e]; exact New.of (hH.front 0 rfl) ho23 (hH.base 0 rfl)⟩
  refine WC.skip ?_
  refine WN.next ?_
  refine WC.seq ?_
  refine WC.region ?_
  refine WL.lit0 Try.underlying22 ty9 rfl (Wt.plain rfl) hH (fun b23 wn hb23 hk23 hH => ?_)
  have ho23 := Own.nil rStr
  refine WL.u rfl rfl (Wt.plain rfl) (Ex.assign rfl) ?_
  refine WL.u rfl rfl (Wt.plain rfl) (Ex.assign rfl) ?_
  refine WL.next ?_
  refine WC.ret ?_
  refine WN.body2 rfl rfl rfl ?_
  have e := askFirst_not (n := n) (m := m) hc1
  exact ⟨_, by rw [e], hH.keep, by rw [e]; exact New.of (hH.front 0 rfl) ho23 (hH.base 0 rfl)⟩

theorem sl1NoneQ  (w : World) : Fn Try.prog 69 [] w (fun v w1 => ∃ x, v = .tuple #[x, .bool false] ∧ Keep [] w w1 ∧ New rStr 9 w w1 x []) := by
  refine Fn.enter (n := 3) Try.func69 rfl rfl rfl ?_
  show WC _ _ _ _ [] _
  have hH := Hp.start [] w
  refine WC.seq ?_
  refine WC.region ?_
  refine WL.u rfl rfl (Wt.plain rfl) (Ex.assign rfl) ?_
  refine WL.u rfl rfl (Wt.plain rfl) (Ex.assign rfl) ?_
  refine WL.next ?_
  refine WC.seq ?_
  refine WC.region ?_
  refine WL.lit0 Try.underlying22 ty9 rfl (Wt.plain rfl) hH (fun b2 wn hb2 hk2 hH => ?_)
  have ho2 := Own.nil rStr
  refine WL.u rfl rfl (Wt.plain rfl) (Ex.assign rfl) ?_
  refine WL.u rfl rfl (Wt.plain rfl) (Ex.assign rfl) ?_
  refine WL.next ?_
  refine WC.ret ?_
  refine WN.body2 rfl rfl rfl ?_
  exact ⟨_, rfl, hH.keep, New.of hH ho2 (hH.base 0 rfl)⟩

theorem sAskFirst (n m : Int) (ans : List Int) (a : Option Addr) (cap : Nat) (w : World) (ha : Sl rInt w a ans) : Fn Try.prog 34 [vint n, vint m, .slice a ans.length cap] w (fun v w1 => ∃ x, v = .tuple #[x, .bool (askFirst n m ans).2] ∧ Keep [] w w1 ∧ New rStr 9 w w1 x (askFirst n m ans).1) := by
  refine Fn.enter (n := 30) Try.func34 rfl rfl rfl ?_
  show WC _ _ _ _ [(0, vint n), (1, vint m), (2, .slice a ans.length cap)] _
  have hH := Hp.start [] w
  refine WC.seq ?_
  refine WC.region ?_
  refine WL.u rfl rfl (Wt.plain rfl) (Ex.assign rfl) ?_
  refine WL.u rfl rfl (Wt.plain rfl) (Ex.assign rfl) ?_
  refine WL.next ?_
  refine WC.seq ?_
  refine WC.seq ?_
  refine WC.region ?_
  refine WL.u rfl rfl (Wt.plain rfl) (Ex.move rfl) ?_
  refine WL.u rfl rfl (Wt.plain rfl) (Ex.move rfl) ?_
  refine WL.u rfl rfl (Wt.plain rfl) (Ex.move rfl) ?_
  refine WL.call callable62 rfl (Wt.plain rfl) rfl rfl (sl8Given n m ans _ _ _ (ha.kept hH.keep)) ?_
  rintro _ _ ⟨rfl, hw⟩; obtain rfl := hw.symm
  refine WL.u rfl rfl (Wt.plain rfl) (Ex.not rfl) ?_
  refine WL.next ?_
  refine WC.cond rfl (fun hc1 => ?_) (fun hc1 => ?_)
  · have hc1' := hc1; try simp only [decide_eq_true_eq, decide_eq_false_iff_not, Bool.not_eq_true', Bool.not_eq_false', Bool.not_eq_true, Bool.not_eq_false] at hc1'
    have hab : ansB n m ans = false := by simpa using hc1
    refine WC.seq ?_
    refine WC.region ?_
    refine WL.call callable69 rfl (Wt.plain rfl) rfl rfl (sl1NoneQ _) ?_
    rintro _ wn ⟨x, rfl, hC, hN⟩; obtain ⟨b14, cap14, cur14, rfl, hge14, hbb14, ho14⟩ := hN.own; replace hH := hH.push hC hge14 hbb14; clear hC hN
    refine WL.u rfl rfl (Wt.plain rfl) (Ex.extract rfl rfl) ?_
    refine WL.u rfl rfl (Wt.plain rfl) (Ex.extract rfl rfl) ?_
    refine WL.u rfl rfl (Wt.plain rfl) (Ex.assign rfl) ?_
    refine WL.u rfl rfl (Wt.plain rfl) (Ex.assign rfl) ?_
    refine WL.next ?_
    refine WC.ret ?_
    refine WN.retThen ?_
    refine WN.body2 rfl rfl rfl ?_
    have e := askFirst_not hab
    exact ⟨_, by rw [e] <;> rfl, hH.keep, by rw [e]; exact New.of (hH.front 0 rfl) ho14 (hH.base 0 rfl)⟩
  have hc1' := hc1; try simp only [decide_eq_true_eq, decide_eq_false_iff_not, Bool.not_eq_true', Bool.not_eq_false', Bool.not_eq_true, Bool.not_eq_false] at hc1'
  have hab : ansB n m ans = true := by simpa using hc1
  obtain ⟨n, m, rfl, rfl, hA⟩ := ansB_ex hab
  refine WC.skip ?_
  refine WN.next ?_
  refine WC.seq ?_
  refine WC.region ?_
  refine WL.u rfl rfl (Wt.plain rfl) (Ex.move rfl) ?_
  refine WL.u rfl rfl (Wt.plain rfl) (Ex.move rfl) ?_
  refine WL.u rfl rfl (Wt.plain rfl) (Ex.move rfl) ?_
  refine WL.call callable63 rfl (Wt.plain rfl) rfl rfl (sl8All n m ans _ _ _ (ha.kept hH.keep) hA) ?_
  rintro _ wn ⟨hC, hN⟩; obtain ⟨hs, b20, cap20, cur20, rfl, hge20, hbb20, ho20, hgs⟩ := hN; replace hH := hH.push hC hge20 hbb20; have hsl := hgs.len; clear hC
  refine WL.u rfl rfl (Wt.plain rfl) (Ex.assign rfl) ?_
  refine WL.next ?_
  refine WC.seq ?_
  refine WC.seq ?_
  refine WC.region ?_
  refine WL.u rfl rfl (Wt.plain rfl) (Ex.move rfl) ?_
  refine WL.u rfl rfl (Wt.plain rfl) (Ex.lenSl Try.underlying56 rfl) ?_
  refine WL.u rfl rfl (Wt.plain rfl) (Ex.eql rfl rfl) ?_
  refine WL.next ?_
  refine WC.cond rfl (fun hc2 => ?_) (fun hc2 => ?_)
  · have hc2' := hc2; try simp only [decide_eq_true_eq, decide_eq_false_iff_not, Bool.not_eq_true', Bool.not_eq_false', Bool.not_eq_true, Bool.not_eq_false] at hc2'
    have hL0 : (fits n m ans).length = 0 := by omega
    refine WC.seq ?_
    refine WC.region ?_
    refine WL.call callable69 rfl (Wt.plain rfl) rfl rfl (sl1NoneQ _) ?_
    rintro _ wn ⟨x, rfl, hC, hN⟩; obtain ⟨b24, cap24, cur24, rfl, hge24, hbb24, ho24⟩ := hN.own; replace hH := hH.push hC hge24 hbb24; clear hC hN
    refine WL.u rfl rfl (Wt.plain rfl) (Ex.extract rfl rfl) ?_
    refine WL.u rfl rfl (Wt.plain rfl) (Ex.extract rfl rfl) ?_
    refine WL.u rfl rfl (Wt.plain rfl) (Ex.assign rfl) ?_
    refine WL.u rfl rfl (Wt.plain rfl) (Ex.assign rfl) ?_
    refine WL.next ?_
    refine WC.ret ?_
    refine WN.retThen ?_
    refine WN.body2 rfl rfl rfl ?_
    have e := askFirst_none hA hL0
    exact ⟨_, by rw [e] <;> rfl, hH.keep, by rw [e]; exact New.of (hH.front 0 rfl) ho24 (hH.base 0 rfl)⟩
  have hc2' := hc2; try simp only [decide_eq_true_eq, decide_eq_false_iff_not, Bool.not_eq_true', Bool.not_eq_false', Bool.not_eq_true, Bool.not_eq_false] at hc2'
  have hL0 : 0 < (fits n m ans).length := by omega
  obtain ⟨bq, capq, curq, eq0, hq1, hq2, hq3, hoq⟩ := hgs.get 0 _ _ (getD_get hs 0 hd0 (by omega)) (getD_get (fits n m ans) 0 [] hL0)
  have hv0 : rHd.val (hs.getD 0 hd0) = vsl bq ((fits n m ans).getD 0 []).length capq := by rw [eq0]; rfl
  refine WC.skip ?_
  refine WN.next ?_
  refine WC.seq ?_
  refine WC.region ?_
  refine WL.u rfl rfl (Wt.plain rfl) (Ex.move rfl) ?_
  refine WL.u rfl rfl (Wt.plain rfl) (Ex.indexAddr Try.underlying56 ty22 rfl rfl (by omega)) ?_
  refine WL.u rfl rfl (Wt.plain rfl) ((Ex.loadHp flat22 rfl hH (ho20.get (i := 0) rfl (getD_get hs 0 hd0 (by omega)))).to hv0) ?_
  refine WL.u rfl rfl (Wt.plain rfl) (Ex.assign rfl) ?_
  refine WL.u rfl rfl (Wt.plain rfl) (Ex.assign rfl) ?_
  refine WL.next ?_
  refine WC.ret ?_
  refine WN.body2 rfl rfl rfl ?_
  exact ⟨_, by rw [askFirst_some hA hL0], hH.keep, by rw [askFirst_some hA hL0]; exact hoq.new hq2 hq3⟩

set_option maxHeartbeats 1000000 in
theorem lawExactAskFirst (n m : Int) (ans : List Int) (a : Option Addr) (cap : Nat) (w : World) (ha : Sl rInt w a ans) (hb : ∀ x ∈ ans, -9223372036854775808 ≤ x ∧ x ≤ 9223372036854775807) : Fn Try.prog 8 [vint n, vint m, .slice a ans.length cap] w (fun v w1 => v = .bool true ∧ Keep [] w w1) := by
  refine Fn.enter (n := 103) Try.func8 rfl rfl rfl ?_
  show WC _ _ _ _ [(0, vint n), (1, vint m), (2, .slice a ans.length cap)] _
  have hH := Hp.start [] w
  have hlen : ((askFirst n m ans).1).length ≤ 1000 := askFirst_len n m ans
  refine WC.seq ?_
  refine WC.region ?_
  refine WL.u rfl rfl (Wt.plain rfl) (Ex.assign rfl) ?_
  refine WL.next ?_
  refine WC.seq ?_
  refine WC.seq ?_
  refine WC.region ?_
  refine WL.u rfl rfl (Wt.plain rfl) (Ex.move rfl) ?_
  refine WL.u rfl rfl (Wt.plain rfl) (Ex.lenSl Try.underlying24 rfl) ?_
  refine WL.u rfl rfl (Wt.plain rfl) (Ex.gtr rfl rfl) ?_
  refine WL.next ?_
  refine WC.cond rfl (fun hc1 => ?_) (fun hc1 => ?_)
  · have hc1' := hc1; try simp only [decide_eq_true_eq, decide_eq_false_iff_not, Bool.not_eq_true', Bool.not_eq_false', Bool.not_eq_true, Bool.not_eq_false] at hc1'
    refine WC.seq ?_
    refine WC.region ?_
    refine WL.u rfl rfl (Wt.plain rfl) (Ex.assign rfl) ?_
    refine WL.next ?_
    refine WC.ret ?_
    refine WN.retThen ?_
    refine WN.body1 rfl rfl ?_
    exact ⟨rfl, hH.keep⟩
  have hc1' := hc1; try simp only [decide_eq_true_eq, decide_eq_false_iff_not, Bool.not_eq_true', Bool.not_eq_false', Bool.not_eq_true, Bool.not_eq_false] at hc1'
  refine WC.skip ?_
  refine WN.next ?_
  refine WC.seq ?_
  refine WC.region ?_
  refine WL.u rfl rfl (Wt.plain rfl) (Ex.move rfl) ?_
  refine WL.u rfl rfl (Wt.plain rfl) (Ex.move rfl) ?_
  refine WL.u rfl rfl (Wt.plain rfl) (Ex.move rfl) ?_
  refine WL.call callable27 rfl (Wt.plain rfl) rfl rfl (toIntS ans _ _ _ (ha.kept hH.keep) (by omega)) ?_
  rintro _ wn ⟨hC, hN⟩; obtain ⟨b101, cap101, cur101, rfl, hge, hbb, ho101⟩ := hN.own; replace hH := hH.push hC hge hbb; clear hC hN
  refine WL.call callable34 rfl (Wt.plain rfl) rfl rfl (sAskFirst n m ans _ _ _ (ho101.slAt hH 0 rfl)) ?_
  rintro _ wn ⟨x, rfl, hC, hN⟩; obtain ⟨b25, cap25, cur25, rfl, hge25, hbb25, ho25⟩ := hN.own; replace hH := hH.push hC hge25 hbb25; clear hC hN
  refine WL.u rfl rfl (Wt.plain rfl) (Ex.move rfl) ?_
  refine WL.u rfl rfl (Wt.plain rfl) (Ex.extract rfl rfl) ?_
  refine WL.u rfl rfl (Wt.plain rfl) (Ex.extract rfl rfl) ?_
  refine WL.u rfl rfl (Wt.plain rfl) (Ex.assign rfl) ?_
  refine WL.u rfl rfl (Wt.plain rfl) (Ex.assign rfl) ?_
  refine WL.next ?_
  refine WC.seq ?_
  refine WC.region ?_
  refine WL.u rfl rfl (Wt.plain rfl) (Ex.move rfl) ?_
  refine WL.call callable27 rfl (Wt.plain rfl) rfl rfl (toIntS ans _ _ _ (ha.kept hH.keep) (by omega)) ?_
  rintro _ wn ⟨hC, hN⟩; obtain ⟨b102, cap102, cur102, rfl, hge, hbb, ho102⟩ := hN.own; replace hH := hH.push hC hge hbb; clear hC hN
  refine WL.u rfl rfl (Wt.plain rfl) (Ex.assign rfl) ?_
  refine WL.next ?_
  refine WC.seq ?_
  refine WC.region ?_
  refine WL.u rfl rfl (Wt.plain rfl) (Ex.move rfl) ?_
  refine WL.u rfl rfl (Wt.plain rfl) (Ex.move rfl) ?_
  refine WL.u rfl rfl (Wt.plain rfl) (Ex.move rfl) ?_
  refine WL.call callable35 rfl (Wt.plain rfl) rfl rfl (iAskFirst n m ans _ _ _ (ho102.slAt hH 0 rfl)) ?_
  rintro _ wn ⟨x, rfl, hC, hN⟩; obtain ⟨b34, cap34, cur34, rfl, hge34, hbb34, ho34⟩ := hN.own; replace hH := hH.push hC hge34 hbb34; clear hC hN
  refine WL.u rfl rfl (Wt.plain rfl) (Ex.move rfl) ?_
  refine WL.u rfl rfl (Wt.plain rfl) (Ex.extract rfl rfl) ?_
  refine WL.u rfl rfl (Wt.plain rfl) (Ex.extract rfl rfl) ?_
  refine WL.u rfl rfl (Wt.plain rfl) (Ex.assign rfl) ?_
  refine WL.u rfl rfl (Wt.plain rfl) (Ex.assign rfl) ?_
  refine WL.next ?_
  refine WC.seq ?_
  refine WC.seq ?_
  refine WC.region ?_
  refine WL.u rfl rfl (Wt.plain rfl) (Ex.move rfl) ?_
  refine WL.u rfl rfl (Wt.plain rfl) (Ex.move rfl) ?_
  refine WL.call callable22 rfl (Wt.plain rfl) rfl rfl (eqStringS ((askFirst n m ans).1) ((askFirst n m ans).1) _ _ _ _ _ (ho34.slAt hH 0 rfl) (ho25.slAt hH 2 rfl)) ?_
  rintro _ wn ⟨rfl, hC⟩; replace hH := hH.dr hC; clear hC
  refine WL.u rfl rfl (Wt.plain rfl) (Ex.not rfl) ?_
  refine WL.u rfl rfl (Wt.plain rfl) (Ex.move rfl) ?_
  refine WL.split (t := 41) rfl (fun hg6_4 => ?_) (fun hg6_4 => ?_)
  · exfalso; simp at hg6_4
  have hg6_4' := hg6_4; try simp only [decide_eq_true_eq, decide_eq_false_iff_not, Bool.not_eq_true', Bool.not_eq_false', Bool.not_eq_true, Bool.not_eq_false] at hg6_4'
  refine WL.u rfl rfl (Wt.guard' rfl rfl rfl hg6_4 rfl) (Ex.move rfl) ?_
  refine WL.u rfl rfl (Wt.guard' rfl rfl rfl hg6_4 rfl) (Ex.move rfl) ?_
  refine WL.u rfl rfl (Wt.guard' rfl rfl rfl hg6_4 rfl) (Ex.neqB Try.underlying4 rfl rfl) ?_
  refine WL.u rfl rfl (Wt.plain rfl) (Ex.pickF rfl hg6_4 rfl) ?_
  refine WL.next ?_
  refine WC.condF rfl (by simp) ?_
  refine WC.skip ?_
  refine WN.next ?_
  refine WC.seq ?_
  refine WC.seq ?_
  refine WC.region ?_
  refine WL.u rfl rfl (Wt.plain rfl) (Ex.move rfl) ?_
  refine WL.u rfl rfl (Wt.plain rfl) (Ex.move rfl) ?_
  refine WL.call callable27 rfl (Wt.plain rfl) rfl rfl (toIntS ans _ _ _ (ha.kept hH.keep) (by omega)) ?_
  rintro _ wn ⟨hC, hN⟩; obtain ⟨b103, cap103, cur103, rfl, hge, hbb, ho103⟩ := hN.own; replace hH := hH.push hC hge hbb; clear hC hN
  refine WL.call callable21 rfl (Wt.plain rfl) rfl rfl (eqIntS ans ans _ _ _ _ _ (ho102.slAt hH 2 rfl) (ho103.slAt hH 0 rfl)) ?_
  rintro _ wn ⟨rfl, hC⟩; replace hH := hH.dr hC; clear hC
  refine WL.u rfl rfl (Wt.plain rfl) (Ex.not rfl) ?_
  refine WL.next ?_
  refine WC.condF rfl (by simp) ?_
  refine WC.skip ?_
  refine WN.next ?_
  refine WC.seq ?_
  refine WC.region ?_
  refine WL.u rfl rfl (Wt.plain rfl) (Ex.assign rfl) ?_
  refine WL.next ?_
  refine WC.seq ?_
  refine WC.region ?_
  refine WL.u rfl rfl (Wt.plain rfl) (Ex.move rfl) ?_
  refine WL.u rfl rfl (Wt.plain rfl) (Ex.move rfl) ?_
  replace hH := hH.f2
  refine WL.call callable24 rfl (Wt.plain rfl) rfl rfl (markIntL b102 cap102 cur102 (ans) 1 _ (hH.at 0 rfl) ho102 (by omega) (by omega)) ?_
  rintro _ wn ⟨cur102m, rfl, hK, hb, ho102⟩; replace hH := hH.turn hK hb; clear hK hb
  refine WL.u rfl rfl (Wt.plain rfl) (Ex.assign rfl) ?_
  refine WL.next ?_
  refine WC.seq ?_
  refine WC.seq ?_
  refine WC.region ?_
  refine WL.u rfl rfl (Wt.plain rfl) (Ex.move rfl) ?_
  refine WL.u rfl rfl (Wt.plain rfl) (Ex.lss rfl rfl) ?_
  refine WL.u rfl rfl (Wt.plain rfl) (Ex.move rfl) ?_
  refine WL.u rfl rfl (Wt.guard' rfl rfl rfl (decide_eq_false (by omega)) rfl) (Ex.move rfl) ?_
  refine WL.u rfl rfl (Wt.guard' rfl rfl rfl (decide_eq_false (by omega)) rfl) (Ex.move rfl) ?_
  refine WL.call callable22 rfl (Wt.guard' rfl rfl rfl (decide_eq_false (by omega)) rfl) rfl rfl (eqStringS ((askFirst n m ans).1) ((askFirst n m ans).1) _ _ _ _ _ (ho34.slAt hH 2 rfl) (ho25.slAt hH 3 rfl)) ?_
  rintro _ wn ⟨rfl, hC⟩; replace hH := hH.dr hC; clear hC
  refine WL.u rfl rfl (Wt.guard' rfl rfl rfl (decide_eq_false (by omega)) rfl) (Ex.not rfl) ?_
  refine WL.u rfl rfl (Wt.plain rfl) (Ex.pickF rfl (decide_eq_false (by omega)) rfl) ?_
  refine WL.u rfl rfl (Wt.plain rfl) (Ex.move rfl) ?_
  refine WL.u rfl rfl (Wt.guard' rfl rfl rfl (show (!_) = false by simp) rfl) (Ex.move rfl) ?_
  refine WL.u rfl rfl (Wt.guard' rfl rfl rfl (show (!_) = false by simp) rfl) (Ex.move rfl) ?_
  refine WL.u rfl rfl (Wt.guard' rfl rfl rfl (show (!_) = false by simp) rfl) (Ex.neqB Try.underlying4 rfl rfl) ?_
  refine WL.u rfl rfl (Wt.plain rfl) (Ex.pickF rfl (show (!_) = false by simp) rfl) ?_
  refine WL.next ?_
  refine WC.condF rfl (by simp) ?_
  refine WC.skip ?_
  refine WN.next ?_
  refine WC.seq ?_
  refine WC.region ?_
  refine WL.u rfl rfl (Wt.plain rfl) (Ex.assign rfl) ?_
  refine WL.next ?_
  refine WC.seq ?_
  refine WC.region ?_
  refine WL.u rfl rfl (Wt.plain rfl) (Ex.move rfl) ?_
  refine WL.u rfl rfl (Wt.plain rfl) (Ex.move rfl) ?_
  replace hH := hH.f2
  refine WL.call callable23 rfl (Wt.plain rfl) rfl rfl (markStringS b34 cap34 cur34 ((askFirst n m ans).1) 1 _ (hH.at 0 rfl) ho34 (by omega) (by omega)) ?_
  rintro _ wn ⟨cur34m, rfl, hK, hb, ho34⟩; replace hH := hH.turn hK hb; clear hK hb
  refine WL.u rfl rfl (Wt.plain rfl) (Ex.assign rfl) ?_
  refine WL.next ?_
  refine WC.seq ?_
  refine WC.region ?_
  refine WL.u rfl rfl (Wt.plain rfl) (Ex.assign rfl) ?_
  refine WL.next ?_
  refine WC.seq ?_
  refine WC.region ?_
  refine WL.u rfl rfl (Wt.plain rfl) (Ex.move rfl) ?_
  refine WL.u rfl rfl (Wt.plain rfl) (Ex.move rfl) ?_
  refine WL.call callable36 rfl (Wt.plain rfl) rfl rfl (heldStringS (some ⟨b34, 0, none⟩) cap34 1 ((askFirst n m ans).1).length _ (ho34.slAt hH 0 rfl) (by omega) (by omega)) ?_
  rintro _ wn ⟨rfl, hC⟩; replace hH := hH.call hC; clear hC
  refine WL.u rfl rfl (Wt.plain rfl) (Ex.assign rfl) ?_
  refine WL.next ?_
  refine WC.seq ?_
  refine WC.seq ?_
  refine WC.region ?_
  refine WL.u rfl rfl (Wt.plain rfl) (Ex.move rfl) ?_
  refine WL.u rfl rfl (Wt.plain rfl) (Ex.lss rfl rfl) ?_
  refine WL.next ?_
  refine WC.condF rfl (decide_eq_false (by omega)) ?_
  refine WC.skip ?_
  refine WN.next ?_
  refine WC.seq ?_
  refine WC.seq ?_
  refine WC.region ?_
  refine WL.u rfl rfl (Wt.plain rfl) (Ex.move rfl) ?_
  refine WL.u rfl rfl (Wt.plain rfl) (Ex.move rfl) ?_
  refine WL.u rfl rfl (Wt.plain rfl) (Ex.neq rfl rfl) ?_
  refine WL.next ?_
  refine WC.condF rfl (by simp) ?_
  refine WC.skip ?_
  refine WN.next ?_
  refine WC.seq ?_
  refine WC.region ?_
  refine WL.u rfl rfl (Wt.plain rfl) (Ex.move rfl) ?_
  refine WL.u rfl rfl (Wt.plain rfl) (Ex.move rfl) ?_
  refine WL.u rfl rfl (Wt.plain rfl) (Ex.move rfl) ?_
  refine WL.call callable27 rfl (Wt.plain rfl) rfl rfl (toIntS ans _ _ _ (ha.kept hH.keep) (by omega)) ?_
  rintro _ wn ⟨hC, hN⟩; obtain ⟨b104, cap104, cur104, rfl, hge, hbb, ho104⟩ := hN.own; replace hH := hH.push hC hge hbb; clear hC hN
  refine WL.call callable35 rfl (Wt.plain rfl) rfl rfl (iAskFirst n m ans _ _ _ (ho104.slAt hH 0 rfl)) ?_
  rintro _ wn ⟨x, rfl, hC, hN⟩; obtain ⟨b83, cap83, cur83, rfl, hge83, hbb83, ho83⟩ := hN.own; replace hH := hH.push hC hge83 hbb83; clear hC hN
  refine WL.u rfl rfl (Wt.plain rfl) (Ex.move rfl) ?_
  refine WL.u rfl rfl (Wt.plain rfl) (Ex.extract rfl rfl) ?_
  refine WL.u rfl rfl (Wt.plain rfl) (Ex.extract rfl rfl) ?_
  refine WL.u rfl rfl (Wt.plain rfl) (Ex.assign rfl) ?_
  refine WL.u rfl rfl (Wt.plain rfl) (Ex.assign rfl) ?_
  refine WL.next ?_
  refine WC.seq ?_
  refine WC.seq ?_
  refine WC.region ?_
  refine WL.u rfl rfl (Wt.plain rfl) (Ex.move rfl) ?_
  refine WL.u rfl rfl (Wt.plain rfl) (Ex.move rfl) ?_
  refine WL.call callable22 rfl (Wt.plain rfl) rfl rfl (eqStringS ((askFirst n m ans).1) ((askFirst n m ans).1) _ _ _ _ _ (ho83.slAt hH 0 rfl) (ho25.slAt hH 5 rfl)) ?_
  rintro _ wn ⟨rfl, hC⟩; replace hH := hH.dr hC; clear hC
  refine WL.u rfl rfl (Wt.plain rfl) (Ex.not rfl) ?_
  refine WL.u rfl rfl (Wt.plain rfl) (Ex.move rfl) ?_
  refine WL.split (t := 90) rfl (fun hg23_4 => ?_) (fun hg23_4 => ?_)
  · exfalso; simp at hg23_4
  have hg23_4' := hg23_4; try simp only [decide_eq_true_eq, decide_eq_false_iff_not, Bool.not_eq_true', Bool.not_eq_false', Bool.not_eq_true, Bool.not_eq_false] at hg23_4'
  refine WL.u rfl rfl (Wt.guard' rfl rfl rfl hg23_4 rfl) (Ex.move rfl) ?_
  refine WL.u rfl rfl (Wt.guard' rfl rfl rfl hg23_4 rfl) (Ex.move rfl) ?_
  refine WL.u rfl rfl (Wt.guard' rfl rfl rfl hg23_4 rfl) (Ex.neqB Try.underlying4 rfl rfl) ?_
  refine WL.u rfl rfl (Wt.plain rfl) (Ex.pickF rfl hg23_4 rfl) ?_
  refine WL.next ?_
  refine WC.condF rfl (by simp) ?_
  refine WC.skip ?_
  refine WN.next ?_
  refine WC.seq ?_
  refine WC.region ?_
  refine WL.u rfl rfl (Wt.plain rfl) (Ex.assign rfl) ?_
  refine WL.next ?_
  refine WC.seq ?_
  refine WC.region ?_
  refine WL.u rfl rfl (Wt.plain rfl) (Ex.move rfl) ?_
  refine WL.u rfl rfl (Wt.plain rfl) (Ex.move rfl) ?_
  refine WL.call callable36 rfl (Wt.plain rfl) rfl rfl (heldStringS (some ⟨b34, 0, none⟩) cap34 1 ((askFirst n m ans).1).length _ (ho34.slAt hH 2 rfl) (by omega) (by omega)) ?_
  rintro _ wn ⟨rfl, hC⟩; replace hH := hH.call hC; clear hC
  refine WL.u rfl rfl (Wt.plain rfl) (Ex.assign rfl) ?_
  refine WL.next ?_
  refine WC.seq ?_
  refine WC.seq ?_
  refine WC.region ?_
  refine WL.u rfl rfl (Wt.plain rfl) (Ex.move rfl) ?_
  refine WL.u rfl rfl (Wt.plain rfl) (Ex.lss rfl rfl) ?_
  refine WL.next ?_
  refine WC.condF rfl (decide_eq_false (by omega)) ?_
  refine WC.skip ?_
  refine WN.next ?_
  refine WC.seq ?_
  refine WC.seq ?_
  refine WC.region ?_
  refine WL.u rfl rfl (Wt.plain rfl) (Ex.move rfl) ?_
  refine WL.u rfl rfl (Wt.plain rfl) (Ex.move rfl) ?_
  refine WL.u rfl rfl (Wt.plain rfl) (Ex.neq rfl rfl) ?_
  refine WL.next ?_
  refine WC.condF rfl (by simp) ?_
  refine WC.skip ?_
  refine WN.next ?_
  refine WC.seq ?_
  refine WC.region ?_
  refine WL.u rfl rfl (Wt.plain rfl) (Ex.assign rfl) ?_
  refine WL.next ?_
  refine WC.ret ?_
  refine WN.body1 rfl rfl ?_
  exact ⟨rfl, hH.keep⟩

theorem iBeamPairs (g : Grid) (a : Option Addr) (cap : Nat) (w : World) (hg : Sl rStr w a g) (hG : GridOk g) : Fn Try.prog 46 [.slice a g.length cap] w (fun v w1 => ∃ x, v = .tuple #[x, .bool true] ∧ Keep [] w w1 ∧ New rInt 3 w w1 x (pairsI g)) := by
  refine Fn.enter (n := 10) Try.func46 rfl rfl rfl ?_
  show WC _ _ _ _ [(0, .slice a g.length cap)] _
  have hH := Hp.start [] w
  have hgi := gridIn_true hG
  refine WC.seq ?_
  refine WC.region ?_
  refine WL.u rfl rfl (Wt.plain rfl) (Ex.assign rfl) ?_
  refine WL.u rfl rfl (Wt.plain rfl) (Ex.assign rfl) ?_
  refine WL.next ?_
  refine WC.seq ?_
  refine WC.seq ?_
  refine WC.region ?_
  refine WL.u rfl rfl (Wt.plain rfl) (Ex.move rfl) ?_
  refine WL.call callable56 rfl (Wt.plain rfl) rfl rfl (iGridIn _ _ _ _ (hg.kept hH.keep) (GridOk.shortQ hG)) ?_
  rintro _ _ ⟨rfl, hw⟩; obtain rfl := hw.symm
  refine WL.u rfl rfl (Wt.plain rfl) (Ex.not rfl) ?_
  refine WL.next ?_
  refine WC.condF rfl (by rw [hgi]; rfl) ?_
  refine WC.skip ?_
  refine WN.next ?_
  refine WC.seq ?_
  refine WC.region ?_
  refine WL.u rfl rfl (Wt.plain rfl) (Ex.move rfl) ?_
  refine WL.call callable60 rfl (Wt.plain rfl) rfl rfl (ipairsOf g _ _ _ (hg.kept hH.keep) hG) ?_
  rintro _ wn ⟨hC, hN⟩; obtain ⟨b9, cap9, cur9, rfl, hge9, hbb9, ho9⟩ := hN.own; replace hH := hH.push hC hge9 hbb9; clear hC hN
  refine WL.u rfl rfl (Wt.plain rfl) (Ex.assign rfl) ?_
  refine WL.u rfl rfl (Wt.plain rfl) (Ex.assign rfl) ?_
  refine WL.next ?_
  refine WC.ret ?_
  refine WN.body2 rfl rfl rfl ?_
  exact ⟨_, rfl, hH.keep, New.of (hH.front 0 rfl) ho9 (hH.base 0 rfl)⟩

set_option maxHeartbeats 1000000 in
theorem lawAskFirst (a : Option Addr) (l : List UInt8) (cap : Nat) (w : World) (hc : Sl rByte w a l) (hcap : l.length ≤ cap) : Fn Try.prog 14 [.slice a l.length cap] w (fun v w1 => v = .bool true ∧ Keep [] w w1) := by
  refine Fn.enter (n := 102) Try.func14 rfl rfl rfl ?_
  show WC _ _ _ _ [(0, .slice a l.length cap)] _
  have hH := Hp.start [] w
  refine WC.seq ?_
  refine WC.region ?_
  refine WL.u rfl rfl (Wt.plain rfl) (Ex.assign rfl) ?_
  refine WL.next ?_
  refine WC.seq ?_
  refine WC.seq ?_
  refine WC.region ?_
  refine WL.u rfl rfl (Wt.plain rfl) (Ex.move rfl) ?_
  refine WL.u rfl rfl (Wt.plain rfl) (Ex.lenSl Try.underlying38 rfl) ?_
  refine WL.u rfl rfl (Wt.plain rfl) (Ex.gtr rfl rfl) ?_
  refine WL.next ?_
  refine WC.cond rfl (fun hc1 => ?_) (fun hc1 => ?_)
  · have hc1' := hc1; try simp only [decide_eq_true_eq, decide_eq_false_iff_not, Bool.not_eq_true', Bool.not_eq_false', Bool.not_eq_true, Bool.not_eq_false] at hc1'
    refine WC.seq ?_
    refine WC.region ?_
    refine WL.u rfl rfl (Wt.plain rfl) (Ex.assign rfl) ?_
    refine WL.next ?_
    refine WC.ret ?_
    refine WN.retThen ?_
    refine WN.body1 rfl rfl ?_
    exact ⟨rfl, hH.keep⟩
  have hc1' := hc1; try simp only [decide_eq_true_eq, decide_eq_false_iff_not, Bool.not_eq_true', Bool.not_eq_false', Bool.not_eq_true, Bool.not_eq_false] at hc1'
  refine WC.skip ?_
  refine WN.next ?_
  refine WC.seq ?_
  refine WC.region ?_
  refine WL.u rfl rfl (Wt.plain rfl) (Ex.move rfl) ?_
  refine WL.call callable44 rfl (Wt.plain rfl) rfl rfl (sDrawAskFirst _ _ _ _ (hc.kept hH.keep) hcap) ?_
  rintro _ wn ⟨n, m, ans, x, rfl, hC, hN, hsz⟩; obtain ⟨b20, cap20, cur20, rfl, hge20, hbb20, ho20⟩ := hN.own; replace hH := hH.push hC hge20 hbb20; clear hC hN
  refine WL.u rfl rfl (Wt.plain rfl) (Ex.move rfl) ?_
  refine WL.u rfl rfl (Wt.plain rfl) (Ex.extract rfl rfl) ?_
  refine WL.u rfl rfl (Wt.plain rfl) (Ex.extract rfl rfl) ?_
  refine WL.u rfl rfl (Wt.plain rfl) (Ex.extract rfl rfl) ?_
  refine WL.u rfl rfl (Wt.plain rfl) (Ex.assign rfl) ?_
  refine WL.u rfl rfl (Wt.plain rfl) (Ex.assign rfl) ?_
  refine WL.u rfl rfl (Wt.plain rfl) (Ex.assign rfl) ?_
  refine WL.next ?_
  refine WC.seq ?_
  rcases hx : askFirst n m ans with ⟨out, ok⟩
  refine WC.region ?_
  refine WL.u rfl rfl (Wt.plain rfl) (Ex.move rfl) ?_
  refine WL.u rfl rfl (Wt.plain rfl) (Ex.move rfl) ?_
  refine WL.u rfl rfl (Wt.plain rfl) (Ex.move rfl) ?_
  refine WL.call callable35 rfl (Wt.plain rfl) rfl rfl (iAskFirst n m ans _ _ _ (ho20.slAt hH 0 rfl)) ?_
  rintro _ wn ⟨x, hv, hC, hN⟩; rw [hx] at hv hN; dsimp only at hv hN; subst hv; obtain ⟨b27, cap27, cur27, rfl, hge27, hbb27, ho27⟩ := hN.own; replace hH := hH.push hC hge27 hbb27; clear hC hN
  refine WL.u rfl rfl (Wt.plain rfl) (Ex.move rfl) ?_
  refine WL.u rfl rfl (Wt.plain rfl) (Ex.extract rfl rfl) ?_
  refine WL.u rfl rfl (Wt.plain rfl) (Ex.extract rfl rfl) ?_
  refine WL.u rfl rfl (Wt.plain rfl) (Ex.assign rfl) ?_
  refine WL.u rfl rfl (Wt.plain rfl) (Ex.assign rfl) ?_
  refine WL.next ?_
  refine WC.seq ?_
  refine WC.region ?_
  refine WL.u rfl rfl (Wt.plain rfl) (Ex.move rfl) ?_
  refine WL.u rfl rfl (Wt.plain rfl) (Ex.move rfl) ?_
  refine WL.u rfl rfl (Wt.plain rfl) (Ex.move rfl) ?_
  refine WL.call callable34 rfl (Wt.plain rfl) rfl rfl (sAskFirst n m ans _ _ _ (ho20.slAt hH 1 rfl)) ?_
  rintro _ wn ⟨x, hv, hC, hN⟩; rw [hx] at hv hN; dsimp only at hv hN; subst hv; obtain ⟨b34, cap34, cur34, rfl, hge34, hbb34, ho34⟩ := hN.own; replace hH := hH.push hC hge34 hbb34; clear hC hN
  refine WL.u rfl rfl (Wt.plain rfl) (Ex.move rfl) ?_
  refine WL.u rfl rfl (Wt.plain rfl) (Ex.extract rfl rfl) ?_
  refine WL.u rfl rfl (Wt.plain rfl) (Ex.extract rfl rfl) ?_
  refine WL.u rfl rfl (Wt.plain rfl) (Ex.assign rfl) ?_
  refine WL.u rfl rfl (Wt.plain rfl) (Ex.assign rfl) ?_
  refine WL.next ?_
  refine WC.seq ?_
  refine WC.seq ?_
  refine WC.region ?_
  refine WL.u rfl rfl (Wt.plain rfl) (Ex.move rfl) ?_
  refine WL.u rfl rfl (Wt.plain rfl) (Ex.move rfl) ?_
  refine WL.u rfl rfl (Wt.plain rfl) (Ex.neqB Try.underlying4 rfl rfl) ?_
  refine WL.u rfl rfl (Wt.plain rfl) (Ex.move rfl) ?_
  refine WL.split (t := 41) rfl (fun hg6_3 => ?_) (fun hg6_3 => ?_)
  · exfalso; simp at hg6_3
  have hg6_3' := hg6_3; try simp only [decide_eq_true_eq, decide_eq_false_iff_not, Bool.not_eq_true', Bool.not_eq_false', Bool.not_eq_true, Bool.not_eq_false] at hg6_3'
  refine WL.u rfl rfl (Wt.guard' rfl rfl rfl hg6_3 rfl) (Ex.move rfl) ?_
  refine WL.u rfl rfl (Wt.guard' rfl rfl rfl hg6_3 rfl) (Ex.move rfl) ?_
  refine WL.call callable45 rfl (Wt.guard' rfl rfl rfl hg6_3 rfl) rfl rfl (sameTexts out out _ _ _ _ _ (ho27.slAt hH 1 rfl) (ho34.slAt hH 0 rfl)) ?_
  rintro _ wn ⟨rfl, hC⟩; replace hH := hH.dr hC; clear hC
  refine WL.u rfl rfl (Wt.guard' rfl rfl rfl hg6_3 rfl) (Ex.not rfl) ?_
  refine WL.u rfl rfl (Wt.plain rfl) (Ex.pickF rfl hg6_3 rfl) ?_
  refine WL.u rfl rfl (Wt.plain rfl) (Ex.move rfl) ?_
  refine WL.split (t := 47) rfl (fun hg6_9 => ?_) (fun hg6_9 => ?_)
  · exfalso; simp at hg6_9
  have hg6_9' := hg6_9; try simp only [decide_eq_true_eq, decide_eq_false_iff_not, Bool.not_eq_true', Bool.not_eq_false', Bool.not_eq_true, Bool.not_eq_false] at hg6_9'
  refine WL.u rfl rfl (Wt.guard' rfl rfl rfl hg6_9 rfl) (Ex.move rfl) ?_
  refine WL.u rfl rfl (Wt.guard' rfl rfl rfl hg6_9 rfl) (Ex.not rfl) ?_
  refine WL.u rfl rfl (Wt.plain rfl) (Ex.pickF rfl hg6_9 rfl) ?_
  refine WL.next ?_
  refine WC.cond rfl (fun hc2 => ?_) (fun hc2 => ?_)
  · have hc2' := hc2; try simp only [decide_eq_true_eq, decide_eq_false_iff_not, Bool.not_eq_true', Bool.not_eq_false', Bool.not_eq_true, Bool.not_eq_false] at hc2'
    refine WC.seq ?_
    refine WC.region ?_
    refine WL.u rfl rfl (Wt.plain rfl) (Ex.move rfl) ?_
    refine WL.u rfl rfl (Wt.plain rfl) (Ex.move rfl) ?_
    refine WL.u rfl rfl (Wt.plain rfl) (Ex.eqlB Try.underlying4 rfl rfl) ?_
    refine WL.u rfl rfl (Wt.plain rfl) (Ex.move rfl) ?_
    refine WL.split (t := 54) rfl (fun hg7_3 => ?_) (fun hg7_3 => ?_)
    · have hg7_3' := hg7_3; try simp only [decide_eq_true_eq, decide_eq_false_iff_not, Bool.not_eq_true', Bool.not_eq_false', Bool.not_eq_true, Bool.not_eq_false] at hg7_3'
      refine WL.u rfl rfl (Wt.guard' rfl rfl rfl hg7_3 rfl) (Ex.move rfl) ?_
      refine WL.u rfl rfl (Wt.guard' rfl rfl rfl hg7_3 rfl) (Ex.move rfl) ?_
      refine WL.call callable45 rfl (Wt.guard' rfl rfl rfl hg7_3 rfl) rfl rfl (sameTexts out out _ _ _ _ _ (ho27.slAt hH 1 rfl) (ho34.slAt hH 0 rfl)) ?_
      rintro _ wn ⟨rfl, hC⟩; replace hH := hH.dr hC; clear hC
      refine WL.u rfl rfl (Wt.plain rfl) (Ex.pickT rfl hg7_3 rfl) ?_
      refine WL.u rfl rfl (Wt.plain rfl) (Ex.assign rfl) ?_
      refine WL.next ?_
      refine WC.ret ?_
      refine WN.retThen ?_
      refine WN.body1 rfl rfl ?_
      exact ⟨congrArg Value.bool (decide_eq_true rfl), hH.keep⟩
    exfalso; simp at hg7_3
  have hc2' := hc2; try simp only [decide_eq_true_eq, decide_eq_false_iff_not, Bool.not_eq_true', Bool.not_eq_false', Bool.not_eq_true, Bool.not_eq_false] at hc2'
  have hok : ok = true := by simpa using hc2
  subst hok
  obtain ⟨n2, m2, e1, e2, hA, hL0, rfl⟩ := askFirst_ex hx
  obtain rfl : n = n2 := by omega
  obtain rfl : m = m2 := by omega
  have hO := hA.list
  obtain ⟨hGo, hPo, _⟩ := hO.g 0 hL0
  have hko := hO.k 0 hL0
  have h81 := fits_le hA
  have hlen := hA.len
  generalize hgo : (fits n m ans).getD 0 [] = go at *
  refine WC.skip ?_
  refine WN.next ?_
  refine WC.seq ?_
  refine WC.region ?_
  refine WL.u rfl rfl (Wt.plain rfl) (Ex.move rfl) ?_
  refine WL.call callable46 rfl (Wt.plain rfl) rfl rfl (iBeamPairs go _ _ _ (ho27.slAt hH 1 rfl) hGo) ?_
  rintro _ wn ⟨x, rfl, hC, hN⟩; obtain ⟨b61, cap61, cur61, rfl, hge61, hbb61, ho61⟩ := hN.own; rw [pairsI_len]; replace hH := hH.push hC hge61 hbb61; clear hC hN
  refine WL.u rfl rfl (Wt.plain rfl) (Ex.move rfl) ?_
  refine WL.u rfl rfl (Wt.plain rfl) (Ex.extract rfl rfl) ?_
  refine WL.u rfl rfl (Wt.plain rfl) (Ex.extract rfl rfl) ?_
  refine WL.u rfl rfl (Wt.plain rfl) (Ex.assign rfl) ?_
  refine WL.u rfl rfl (Wt.plain rfl) (Ex.assign rfl) ?_
  refine WL.next ?_
  refine WC.seq ?_
  refine WC.region ?_
  refine WL.u rfl rfl (Wt.plain rfl) (Ex.move rfl) ?_
  refine WL.u rfl rfl (Wt.plain rfl) (Ex.move rfl) ?_
  refine WL.u rfl rfl (Wt.plain rfl) (Ex.move rfl) ?_
  refine WL.call callable28 rfl (Wt.plain rfl) rfl rfl (iAskFit n m ans _ _ _ (ho20.slAt hH 3 rfl)) ?_
  rintro _ wn ⟨hv, hC⟩; rw [askFit_at hA] at hv; dsimp only at hv; subst hv; replace hH := hH.call hC; clear hC
  refine WL.u rfl rfl (Wt.plain rfl) (Ex.move rfl) ?_
  refine WL.u rfl rfl (Wt.plain rfl) (Ex.extract rfl rfl) ?_
  refine WL.u rfl rfl (Wt.plain rfl) (Ex.extract rfl rfl) ?_
  refine WL.u rfl rfl (Wt.plain rfl) (Ex.assign rfl) ?_
  refine WL.u rfl rfl (Wt.plain rfl) (Ex.assign rfl) ?_
  refine WL.next ?_
  refine WC.seq ?_
  refine WC.seq ?_
  refine WC.region ?_
  refine WL.u rfl rfl (Wt.plain rfl) (Ex.assign rfl) ?_
  refine WL.next ?_
  refine WC.block ?_
  replace hH := hH.f3
  refine WC.loop (ι := Nat) (fun i => [(5, vsl b20 ans.length cap20), (10, vsl b61 (ports go) cap61), (11, .bool true), (12, vint ((fits n m ans).length : Nat)), (13, .bool true), (14, vint i)]) (fun i wn => Hp [] w wn [(b20, .cells cur20 3 (0, 0)), (b61, .cells cur61 3 (0, 0))] ∧ i ≤ ans.length) (fun i => ans.length - i) (0) (by exact ⟨rfl, rfl, rfl, rfl, rfl, rfl, trivial⟩) ?_ ?_
  · exact ⟨hH.first2, Nat.zero_le _⟩
  rintro i wn ⟨hH, hi⟩
  intro mu0 hmu; try dsimp only at hmu
  show WC _ _ _ _ [(5, vsl b20 ans.length cap20), (10, vsl b61 (ports go) cap61), (11, .bool true), (12, vint ((fits n m ans).length : Nat)), (13, .bool true), (14, vint i)] _
  refine WC.seq ?_
  refine WC.seq ?_
  refine WC.region ?_
  refine WL.u rfl rfl (Wt.plain rfl) (Ex.move rfl) ?_
  refine WL.u rfl rfl (Wt.plain rfl) (Ex.move rfl) ?_
  refine WL.u rfl rfl (Wt.plain rfl) (Ex.lenSl Try.underlying24 rfl) ?_
  refine WL.u rfl rfl (Wt.plain rfl) (Ex.lss rfl rfl) ?_
  refine WL.next ?_
  refine WC.cond rfl (fun hc3 => ?_) (fun hc3 => ?_)
  · have hc3' := hc3; try simp only [decide_eq_true_eq, decide_eq_false_iff_not, Bool.not_eq_true', Bool.not_eq_false', Bool.not_eq_true, Bool.not_eq_false] at hc3'
    have hli : i < ans.length := by omega
    have hpe := pairsI_get go (p := i) (by omega)
    have hki := (keepB_iff _ _ _).1 (hko i hli)
    refine WC.skip ?_
    refine WN.next ?_
    refine WC.seq ?_
    refine WC.block ?_
    refine WC.seq ?_
    refine WC.quietK rfl (by kernel_rfl) ?_
    refine WQ.u rfl rfl (Wt.plain rfl) (fun w hC => Ex.move rfl) ?_
    refine WQ.u rfl rfl (Wt.plain rfl) (fun w hC => Ex.not rfl) ?_
    refine WQ.u rfl rfl (Wt.plain rfl) (fun w hC => Ex.move rfl) ?_
    refine WQ.u rfl rfl (Wt.guard' rfl rfl rfl (rfl) rfl) (fun w hC => Ex.move rfl) ?_
    refine WQ.u rfl rfl (Wt.guard' rfl rfl rfl (rfl) rfl) (fun w hC => Ex.move rfl) ?_
    refine WQ.u rfl rfl (Wt.guard' rfl rfl rfl (rfl) rfl) (fun w hC => Ex.indexAddr Try.underlying24 ty3 rfl rfl (by omega)) ?_
    refine WQ.u rfl rfl (Wt.guard' rfl rfl rfl (rfl) rfl) (fun w hC => Ex.loadHp flat3 rfl (hH.call hC) (ho20.get rfl (getD_get ans i 0 hli))) ?_
    refine WQ.u rfl rfl (Wt.guard' rfl rfl rfl (rfl) rfl) (fun w hC => Ex.geq rfl rfl) ?_
    refine WQ.u rfl rfl (Wt.guard' rfl rfl rfl (rfl) rfl) (fun w hC => Ex.move rfl) ?_
    refine WQ.split (t := 85) rfl (fun hg13_8 => ?_) (fun hg13_8 => ?_)
    · have hg13_8' := hg13_8; try simp only [decide_eq_true_eq, decide_eq_false_iff_not, Bool.not_eq_true', Bool.not_eq_false', Bool.not_eq_true, Bool.not_eq_false] at hg13_8'
      refine WQ.u rfl rfl (Wt.guard' rfl rfl rfl hg13_8 rfl) (fun w hC => Ex.move rfl) ?_
      refine WQ.u rfl rfl (Wt.guard' rfl rfl rfl hg13_8 rfl) (fun w hC => Ex.move rfl) ?_
      refine WQ.u rfl rfl (Wt.guard' rfl rfl rfl hg13_8 rfl) (fun w hC => Ex.indexAddr Try.underlying24 ty3 rfl rfl (by omega)) ?_
      refine WQ.u rfl rfl (Wt.guard' rfl rfl rfl hg13_8 rfl) (fun w hC => Ex.loadHp flat3 rfl (hH.call hC) (ho20.get rfl (getD_get ans i 0 hli))) ?_
      refine WQ.u rfl rfl (Wt.guard' rfl rfl rfl hg13_8 rfl) (fun w hC => Ex.move rfl) ?_
      refine WQ.u rfl rfl (Wt.guard' rfl rfl rfl hg13_8 rfl) (fun w hC => Ex.move rfl) ?_
      refine WQ.u rfl rfl (Wt.guard' rfl rfl rfl hg13_8 rfl) (fun w hC => Ex.indexAddr Try.underlying24 ty3 rfl rfl (by omega)) ?_
      replace hH := hH.f1
      refine WQ.u rfl rfl (Wt.guard' rfl rfl rfl hg13_8 rfl) (fun w hC => Ex.loadHp flat3 rfl (hH.call hC) (ho61.get rfl (getD_get (pairsI go) i 0 (by rw [pairsI_len]; omega)))) ?_
      refine WQ.u rfl rfl (Wt.guard' rfl rfl rfl hg13_8 rfl) (fun w hC => Ex.neq rfl rfl) ?_
      refine WQ.u rfl rfl (Wt.guard' rfl rfl rfl (rfl) rfl) (fun w hC => Ex.pickT rfl hg13_8 rfl) ?_
      refine WQ.u rfl rfl (Wt.plain rfl) (fun w hC => Ex.pickF rfl (rfl) rfl) ?_
      refine WQ.nil ?_
      intro wn hC; replace hH := hH.call hC; clear hC
      refine WN.next ?_
      refine WC.condF rfl (decide_eq_false (by omega)) ?_
      refine WC.skip ?_
      refine WN.normalBlock ?_
      refine WN.next ?_
      refine WC.region ?_
      refine WL.u rfl rfl (Wt.plain rfl) (Ex.move rfl) ?_
      refine WL.u rfl rfl (Wt.plain rfl) (Ex.add rfl rfl (by omega)) ?_
      refine WL.u rfl rfl (Wt.plain rfl) (Ex.assign rfl) ?_
      refine WL.last ?_
      replace hH := hH.f1
      refine WN.round (i + 1) (by exact ⟨rfl, rfl, rfl, rfl, rfl, rfl, trivial⟩) ?_ ?_
      · exact ⟨hH, by omega⟩
      · (try dsimp only); omega
    have hg13_8' := hg13_8; try simp only [decide_eq_true_eq, decide_eq_false_iff_not, Bool.not_eq_true', Bool.not_eq_false', Bool.not_eq_true, Bool.not_eq_false] at hg13_8'
    refine WQ.pass rfl rfl (Wt.guard' rfl rfl rfl hg13_8 rfl) ?_
    refine WQ.pass rfl rfl (Wt.guard' rfl rfl rfl hg13_8 rfl) ?_
    refine WQ.pass rfl rfl (Wt.guard' rfl rfl rfl hg13_8 rfl) ?_
    refine WQ.pass rfl rfl (Wt.guard' rfl rfl rfl hg13_8 rfl) ?_
    refine WQ.pass rfl rfl (Wt.guard' rfl rfl rfl hg13_8 rfl) ?_
    refine WQ.pass rfl rfl (Wt.guard' rfl rfl rfl hg13_8 rfl) ?_
    refine WQ.pass rfl rfl (Wt.guard' rfl rfl rfl hg13_8 rfl) ?_
    refine WQ.pass rfl rfl (Wt.guard' rfl rfl rfl hg13_8 rfl) ?_
    refine WQ.pass rfl rfl (Wt.guard' rfl rfl rfl hg13_8 rfl) ?_
    refine WQ.u rfl rfl (Wt.guard' rfl rfl rfl (rfl) rfl) (fun w hC => Ex.pickF rfl hg13_8 rfl) ?_
    refine WQ.u rfl rfl (Wt.plain rfl) (fun w hC => Ex.pickF rfl (rfl) rfl) ?_
    refine WQ.nil ?_
    intro wn hC; replace hH := hH.call hC; clear hC
    refine WN.next ?_
    refine WC.condF rfl rfl ?_
    refine WC.skip ?_
    refine WN.normalBlock ?_
    refine WN.next ?_
    refine WC.region ?_
    refine WL.u rfl rfl (Wt.plain rfl) (Ex.move rfl) ?_
    refine WL.u rfl rfl (Wt.plain rfl) (Ex.add rfl rfl (by omega)) ?_
    refine WL.u rfl rfl (Wt.plain rfl) (Ex.assign rfl) ?_
    refine WL.last ?_
    replace hH := hH.f1
    replace hH := hH.f1
    refine WN.round (i + 1) (by exact ⟨rfl, rfl, rfl, rfl, rfl, rfl, trivial⟩) ?_ ?_
    · exact ⟨hH, by omega⟩
    · (try dsimp only); omega
  have hc3' := hc3; try simp only [decide_eq_true_eq, decide_eq_false_iff_not, Bool.not_eq_true', Bool.not_eq_false', Bool.not_eq_true, Bool.not_eq_false] at hc3'
  refine WC.exit ?_
  refine WN.exitThen ?_
  refine WN.exitThen ?_
  refine WN.exitHere ?_
  refine WN.next ?_
  refine WC.seq ?_
  refine WC.region ?_
  refine WL.u rfl rfl (Wt.plain rfl) (Ex.move rfl) ?_
  refine WL.u rfl rfl (Wt.plain rfl) (Ex.move rfl) ?_
  refine WL.u rfl rfl (Wt.guard' rfl rfl rfl (rfl) rfl) (Ex.move rfl) ?_
  refine WL.u rfl rfl (Wt.guard' rfl rfl rfl (rfl) rfl) (Ex.geq rfl rfl) ?_
  refine WL.u rfl rfl (Wt.plain rfl) (Ex.pickT rfl (rfl) rfl) ?_
  refine WL.u rfl rfl (Wt.plain rfl) (Ex.assign rfl) ?_
  refine WL.next ?_
  refine WC.ret ?_
  refine WN.body1 rfl rfl ?_
  exact ⟨congrArg Value.bool (decide_eq_true (by omega)), hH.keep⟩

end Go.Proofs.Ytmlefpddjfonlaa
