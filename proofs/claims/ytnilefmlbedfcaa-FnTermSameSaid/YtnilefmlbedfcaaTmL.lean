/- The laws on reading terms. -/
import Derived.Test.YtnilefmlbedfcaaTmC
import Derived.Test.YtnilefmlbedfcaaAimT
import Derived.Test.YtnilefmlbedfcaaTexts
import Derived.Test.YtnilefmlbedfcaaBound
namespace Go.Proofs.Ytnilefmlbedfcaa
set_option maxRecDepth 100000
set_option linter.unusedSimpArgs false
set_option linter.unusedVariables false
open Go Go.RowKit
theorem sgridT (lo : Nat) : ∀ (t : Tm), Wf t → valid t = true → ∀ (w : World) (q : Qd), TQ lo w t q → Fn Try.prog 71 [rQd.val q] w (fun v w1 => Keep [] w w1 ∧ New rStr 9 w w1 v (gridT t))
  | .leaf c, h, _, w, q, ⟨hd, e⟩ => by
    cases h with
    | leaf hc => subst e; exact sgridLeaf c hd w hc
  | .una s a, h, hv, w, q, hT => by
    cases h with
    | una hs ha =>
      obtain ⟨b, cap, qa, e, hl, hsl, hTa⟩ := hT
      subst e
      exact sgridUna lo b cap _ _ s a qa w (fun w2 q2 h => sgridT lo a ha hv w2 q2 h) hs ha hv hsl hTa
  | .bin s a c, h, hv, w, q, hT => by
    cases h with
    | bin hs ha hc =>
      obtain ⟨b, cap, qa, qc, e, hl, hsl, hTa, hTc⟩ := hT
      subst e
      have hv0 := hv
      rw [valid, Bool.and_eq_true, Bool.and_eq_true] at hv0
      exact sgridBin lo b cap _ _ s a c qa qc w (fun w2 q2 h => sgridT lo a ha hv0.1.1 w2 q2 h) (fun w2 q2 h => sgridT lo c hc hv0.1.2 w2 q2 h) hs ha hc hv hsl hTa hTc
theorem termGrid_len (s : Str) : (termGrid s).1.length ≤ 5 := by
  unfold termGrid
  cases h : termT s with
  | none => simp
  | some t => exact (gridT_ok (termT_ok h).1 (termT_ok h).2).1.n5
theorem termGrid_ex {s : Str} (h : (termGrid s).2 = true) : ∃ t, termT s = some t ∧ (termGrid s).1 = gridT t := by
  unfold termGrid at h ⊢
  cases ht : termT s with
  | none => rw [ht] at h; cases h
  | some t => exact ⟨t, rfl, rfl⟩
theorem termGrid_no {s : Str} (h : (termGrid s).2 = false) : termT s = none := by
  unfold termGrid at h
  cases ht : termT s with
  | none => rfl
  | some t => rw [ht] at h; cases h
theorem apartRow_zero {a b : Str} : ∀ k, apartRow a b k = 0 → ∀ j, j < k → a.getD j 0 = b.getD j 0
  | 0, _, j, hj => by omega
  | k + 1, h, j, hj => by
    rw [apartRow] at h
    by_cases e : a.getD k 0 = b.getD k 0
    · by_cases hk : j = k
      · rw [hk]; exact e
      · exact apartRow_zero k (by omega) j (by omega)
    · rw [if_neg e] at h; omega
theorem apartN_zero {g h : Grid} : ∀ i, apartN g h i = 0 → ∀ j, j < i → apartRow (g.getD j []) (h.getD j []) (g.getD j []).length = 0
  | 0, _, j, hj => by omega
  | i + 1, h, j, hj => by
    rw [apartN] at h
    by_cases hk : j = i
    · rw [hk]; omega
    · exact apartN_zero i (by omega) j (by omega)
theorem apart_zero {g h : Grid} (hG : GridOk g) (hH : GridOk h) (hn : nR h = nR g) (hm : nC h = nC g) (h0 : apart g h = 0) : g = h := by
  rw [← gridOf_self hG, ← gridOf_self hH, hn, hm]
  refine gridOf_ext fun i k hi hk => ?_
  have h1 := apartN_zero _ h0 i hi
  exact apartRow_zero _ h1 k (by rw [hG.row i hi]; exact hk)
def termSame (s t : Str) : Bool := match termT s, termT t with
  | some a, some c => decide (gridT a = gridT c)
  | _, _ => false
theorem termSame_at {s t : Str} {a c : Tm} (h1 : termT s = some a) (h2 : termT t = some c) : termSame s t = decide (gridT a = gridT c) := by rw [termSame, h1, h2]
theorem termSame_no1 {s t : Str} (h1 : termT s = none) : termSame s t = false := by rw [termSame, h1]
theorem termSame_no2 {s t : Str} (h2 : termT t = none) : termSame s t = false := by
  rw [termSame, h2]; cases termT s <;> rfl
theorem grids_same {g h : Grid} (hl : g.length = h.length) (he : ∀ j, j < g.length → g.getD j [] = h.getD j []) : g = h :=
  List.ext_getElem hl fun j h1 h2 => by
    have := he j h1
    rwa [List.getD_eq_getElem?_getD, List.getD_eq_getElem?_getD, List.getElem?_eq_getElem h1, List.getElem?_eq_getElem h2] at this

theorem sTermGrid (s : Str) (w : World) (hs : s.length ≤ 1048577) : Fn Try.prog 37 [vstr s] w (fun v w1 => ∃ x, v = .tuple #[x, .bool (termGrid s).2] ∧ Keep [] w w1 ∧ New rStr 9 w w1 x (termGrid s).1) := by
  refine Fn.enter (n := 18) Try.func37 rfl rfl rfl ?_
  show WC _ _ _ _ [(0, vstr s)] _
  have hH := Hp.start [] w
  refine WC.seq ?_
  refine WC.region ?_
  refine WL.u rfl rfl (Wt.plain rfl) (Ex.assign rfl) ?_
  refine WL.u rfl rfl (Wt.plain rfl) (Ex.assign rfl) ?_
  refine WL.next ?_
  refine WC.seq ?_
  refine WC.region ?_
  refine WL.u rfl rfl (Wt.plain rfl) (Ex.move rfl) ?_
  have hl9 := hH.keep.size
  refine WL.call callable62 rfl (Wt.plain rfl) rfl rfl (sl11Of _ _ (by omega)) ?_
  have hsK := hH.keep.size; rintro _ wn ⟨q8, rfl, hC, hT8⟩; obtain ⟨c8, n8, m8, a8, l8, k8⟩ := q8; replace hH := hH.call hC
  have hV := Keep.refl [] wn
  refine WL.u rfl rfl (Wt.plain rfl) (Ex.move rfl) ?_
  refine WL.u rfl rfl (Wt.plain rfl) (Ex.extract rfl rfl) ?_
  refine WL.u rfl rfl (Wt.plain rfl) (Ex.extract rfl rfl) ?_
  have hsV4 := hV.size
  refine WL.alloc ty56 rfl rfl (Wt.plain rfl) hH (fun b4 wn hb4 hk4 hH => ?_)
  replace hV := hV.trans (hk4.nil)
  refine WL.store4 ty56 rfl rfl rfl rfl rfl rfl (Wt.plain rfl) hH (fun wn hk hH => ?_)
  replace hV := hV.shr hk (by intro x hx; rw [List.mem_singleton.1 hx]; omega)
  refine WL.u rfl rfl (Wt.plain rfl) (Ex.assign rfl) ?_
  refine WL.next ?_
  refine WC.seq ?_
  refine WC.seq ?_
  refine WC.region ?_
  refine WL.u rfl rfl (Wt.plain rfl) (Ex.move rfl) ?_
  refine WL.u rfl rfl (Wt.plain rfl) (Ex.not rfl) ?_
  refine WL.next ?_
  refine WC.cond rfl (fun hc1 => ?_) (fun hc1 => ?_)
  · have htn : termT s = none := by simpa using hc1
    refine WC.seq ?_
    refine WC.region ?_
    refine WL.call callable70 rfl (Wt.plain rfl) rfl rfl (sl1None _) ?_
    rintro _ wn ⟨_, rfl, hC, hN⟩; obtain ⟨b13, cap13, cur13, rfl, hge13, hbb13, ho13⟩ := hN.own; replace hH := hH.push hC hge13 hbb13; clear hC hN
    refine WL.u rfl rfl (Wt.plain rfl) (Ex.extract rfl rfl) ?_
    refine WL.u rfl rfl (Wt.plain rfl) (Ex.extract rfl rfl) ?_
    refine WL.u rfl rfl (Wt.plain rfl) (Ex.assign rfl) ?_
    refine WL.u rfl rfl (Wt.plain rfl) (Ex.assign rfl) ?_
    refine WL.next ?_
    refine WC.ret ?_
    refine WN.retThen ?_
    refine WN.body2 rfl rfl rfl ?_
    have e := termGrid_not htn
    exact ⟨_, by rw [e] <;> rfl, hH.keep, by rw [e]; exact New.of hH ho13 (hH.base 0 rfl)⟩
  have hts : (termT s).isSome = true := by simpa using hc1
  obtain ⟨t, ht⟩ := Option.isSome_iff_exists.1 hts
  have hTq := TQ.keep hV (by simp) (hT8 t ht)
  obtain ⟨hW, hv⟩ := termT_ok ht
  refine WC.skip ?_
  refine WN.next ?_
  refine WC.seq ?_
  refine WC.region ?_
  refine WL.u rfl rfl (Wt.plain rfl) (Ex.loadHp4 Try.underlying56 ty56 rfl hH) ?_
  refine WL.call callable71 rfl (Wt.plain rfl) rfl rfl (sgridT _ t hW hv _ (c8, n8, m8, (a8, l8, k8)) hTq) ?_
  rintro _ wn ⟨hC, hN⟩; obtain ⟨b17, cap17, cur17, rfl, hge17, hbb17, ho17⟩ := hN.own; replace hH := hH.push hC hge17 hbb17; clear hC hN
  refine WL.u rfl rfl (Wt.plain rfl) (Ex.assign rfl) ?_
  refine WL.u rfl rfl (Wt.plain rfl) (Ex.assign rfl) ?_
  refine WL.next ?_
  refine WC.ret ?_
  refine WN.body2 rfl rfl rfl ?_
  have e := termGrid_at ht
  exact ⟨_, by rw [e] <;> rfl, hH.keep, by rw [e]; exact New.of hH ho17 (hH.base 0 rfl)⟩

theorem lawExactTermIn (s : Str) (w : World) (hy : (s.length : Int) ≤ 9223372036854775807) : Fn Try.prog 4 [vstr s] w (fun v w1 => v = .bool true ∧ Keep [] w w1) := by
  refine Fn.enter (n := 15) Try.func4 rfl rfl rfl ?_
  show WC _ _ _ _ [(0, vstr s)] _
  have hH := Hp.start [] w
  refine WC.seq ?_
  refine WC.region ?_
  refine WL.u rfl rfl (Wt.plain rfl) (Ex.assign rfl) ?_
  refine WL.next ?_
  refine WC.seq ?_
  refine WC.seq ?_
  refine WC.region ?_
  refine WL.u rfl rfl (Wt.plain rfl) (Ex.move rfl) ?_
  refine WL.u rfl rfl (Wt.plain rfl) (Ex.lenStr Try.underlying9 rfl) ?_
  refine WL.u rfl rfl (Wt.plain rfl) (Ex.gtr rfl rfl) ?_
  refine WL.next ?_
  refine WC.cond rfl (fun hc1 => ?_) (fun hc1 => ?_)
  · have hc1' := hc1; try simp only [decide_eq_true_eq, decide_eq_false_iff_not, Bool.not_eq_true', Bool.not_eq_false', Bool.not_eq_true, Bool.not_eq_false] at hc1'
    refine WC.seq ?_
    refine WC.region ?_
    refine WL.u rfl rfl (Wt.plain rfl) (Ex.assign rfl) ?_
    refine WL.next ?_
    refine WC.ret ?_
    refine WN.retThen ?_
    refine WN.body1 rfl rfl ?_
    exact ⟨rfl, hH.keep⟩
  have hc1' := hc1; try simp only [decide_eq_true_eq, decide_eq_false_iff_not, Bool.not_eq_true', Bool.not_eq_false', Bool.not_eq_true, Bool.not_eq_false] at hc1'
  refine WC.skip ?_
  refine WN.next ?_
  refine WC.seq ?_
  refine WC.region ?_
  refine WL.u rfl rfl (Wt.plain rfl) (Ex.move rfl) ?_
  refine WL.call callable24 rfl (Wt.plain rfl) rfl rfl (sTermIn _ _ (by omega)) ?_
  rintro _ wn ⟨rfl, hC⟩; replace hH := hH.call hC; clear hC
  refine WL.u rfl rfl (Wt.plain rfl) (Ex.assign rfl) ?_
  refine WL.next ?_
  refine WC.seq ?_
  refine WC.region ?_
  refine WL.u rfl rfl (Wt.plain rfl) (Ex.move rfl) ?_
  refine WL.call callable25 rfl (Wt.plain rfl) rfl rfl (iTermIn _ _ (by omega)) ?_
  rintro _ wn ⟨rfl, hC⟩; replace hH := hH.call hC; clear hC
  refine WL.u rfl rfl (Wt.plain rfl) (Ex.assign rfl) ?_
  refine WL.next ?_
  refine WC.seq ?_
  refine WC.seq ?_
  refine WC.region ?_
  refine WL.u rfl rfl (Wt.plain rfl) (Ex.move rfl) ?_
  refine WL.u rfl rfl (Wt.plain rfl) (Ex.move rfl) ?_
  refine WL.u rfl rfl (Wt.plain rfl) (Ex.neqB Try.underlying4 rfl rfl) ?_
  refine WL.next ?_
  refine WC.condF rfl (by simp) ?_
  refine WC.skip ?_
  refine WN.next ?_
  refine WC.seq ?_
  refine WC.region ?_
  refine WL.u rfl rfl (Wt.plain rfl) (Ex.assign rfl) ?_
  refine WL.next ?_
  refine WC.ret ?_
  refine WN.body1 rfl rfl ?_
  exact ⟨rfl, hH.keep⟩

theorem lawExactTermSize (s : Str) (w : World) (hy : (s.length : Int) ≤ 9223372036854775807) : Fn Try.prog 5 [vstr s] w (fun v w1 => v = .bool true ∧ Keep [] w w1) := by
  refine Fn.enter (n := 37) Try.func5 rfl rfl rfl ?_
  show WC _ _ _ _ [(0, vstr s)] _
  have hH := Hp.start [] w
  refine WC.seq ?_
  refine WC.region ?_
  refine WL.u rfl rfl (Wt.plain rfl) (Ex.assign rfl) ?_
  refine WL.next ?_
  refine WC.seq ?_
  refine WC.seq ?_
  refine WC.region ?_
  refine WL.u rfl rfl (Wt.plain rfl) (Ex.move rfl) ?_
  refine WL.u rfl rfl (Wt.plain rfl) (Ex.lenStr Try.underlying9 rfl) ?_
  refine WL.u rfl rfl (Wt.plain rfl) (Ex.gtr rfl rfl) ?_
  refine WL.next ?_
  refine WC.cond rfl (fun hc1 => ?_) (fun hc1 => ?_)
  · have hc1' := hc1; try simp only [decide_eq_true_eq, decide_eq_false_iff_not, Bool.not_eq_true', Bool.not_eq_false', Bool.not_eq_true, Bool.not_eq_false] at hc1'
    refine WC.seq ?_
    refine WC.region ?_
    refine WL.u rfl rfl (Wt.plain rfl) (Ex.assign rfl) ?_
    refine WL.next ?_
    refine WC.ret ?_
    refine WN.retThen ?_
    refine WN.body1 rfl rfl ?_
    exact ⟨rfl, hH.keep⟩
  have hc1' := hc1; try simp only [decide_eq_true_eq, decide_eq_false_iff_not, Bool.not_eq_true', Bool.not_eq_false', Bool.not_eq_true, Bool.not_eq_false] at hc1'
  refine WC.skip ?_
  refine WN.next ?_
  refine WC.seq ?_
  refine WC.region ?_
  refine WL.u rfl rfl (Wt.plain rfl) (Ex.move rfl) ?_
  refine WL.call callable26 rfl (Wt.plain rfl) rfl rfl (sTermSize _ _ (by omega)) ?_
  rintro _ wn ⟨rfl, hC⟩; replace hH := hH.call hC; clear hC
  refine WL.u rfl rfl (Wt.plain rfl) (Ex.move rfl) ?_
  refine WL.u rfl rfl (Wt.plain rfl) (Ex.extract rfl rfl) ?_
  refine WL.u rfl rfl (Wt.plain rfl) (Ex.extract rfl rfl) ?_
  refine WL.u rfl rfl (Wt.plain rfl) (Ex.extract rfl rfl) ?_
  refine WL.u rfl rfl (Wt.plain rfl) (Ex.assign rfl) ?_
  refine WL.u rfl rfl (Wt.plain rfl) (Ex.assign rfl) ?_
  refine WL.u rfl rfl (Wt.plain rfl) (Ex.assign rfl) ?_
  refine WL.next ?_
  refine WC.seq ?_
  refine WC.region ?_
  refine WL.u rfl rfl (Wt.plain rfl) (Ex.move rfl) ?_
  refine WL.call callable27 rfl (Wt.plain rfl) rfl rfl (iTermSize _ _ (by omega)) ?_
  rintro _ wn ⟨rfl, hC⟩; replace hH := hH.call hC; clear hC
  refine WL.u rfl rfl (Wt.plain rfl) (Ex.move rfl) ?_
  refine WL.u rfl rfl (Wt.plain rfl) (Ex.extract rfl rfl) ?_
  refine WL.u rfl rfl (Wt.plain rfl) (Ex.extract rfl rfl) ?_
  refine WL.u rfl rfl (Wt.plain rfl) (Ex.extract rfl rfl) ?_
  refine WL.u rfl rfl (Wt.plain rfl) (Ex.assign rfl) ?_
  refine WL.u rfl rfl (Wt.plain rfl) (Ex.assign rfl) ?_
  refine WL.u rfl rfl (Wt.plain rfl) (Ex.assign rfl) ?_
  refine WL.next ?_
  refine WC.seq ?_
  refine WC.seq ?_
  refine WC.region ?_
  refine WL.u rfl rfl (Wt.plain rfl) (Ex.move rfl) ?_
  refine WL.u rfl rfl (Wt.plain rfl) (Ex.move rfl) ?_
  refine WL.u rfl rfl (Wt.plain rfl) (Ex.neq rfl rfl) ?_
  refine WL.u rfl rfl (Wt.plain rfl) (Ex.move rfl) ?_
  refine WL.split (t := 27) rfl (fun hg5_3 => ?_) (fun hg5_3 => ?_)
  · exfalso; simp at hg5_3
  have hg5_3' := hg5_3; try simp only [decide_eq_true_eq, decide_eq_false_iff_not, Bool.not_eq_true', Bool.not_eq_false', Bool.not_eq_true, Bool.not_eq_false] at hg5_3'
  refine WL.u rfl rfl (Wt.guard' rfl rfl rfl hg5_3 rfl) (Ex.move rfl) ?_
  refine WL.u rfl rfl (Wt.guard' rfl rfl rfl hg5_3 rfl) (Ex.move rfl) ?_
  refine WL.u rfl rfl (Wt.guard' rfl rfl rfl hg5_3 rfl) (Ex.neq rfl rfl) ?_
  refine WL.u rfl rfl (Wt.plain rfl) (Ex.pickF rfl hg5_3 rfl) ?_
  refine WL.u rfl rfl (Wt.plain rfl) (Ex.move rfl) ?_
  refine WL.split (t := 32) rfl (fun hg5_8 => ?_) (fun hg5_8 => ?_)
  · exfalso; simp at hg5_8
  have hg5_8' := hg5_8; try simp only [decide_eq_true_eq, decide_eq_false_iff_not, Bool.not_eq_true', Bool.not_eq_false', Bool.not_eq_true, Bool.not_eq_false] at hg5_8'
  refine WL.u rfl rfl (Wt.guard' rfl rfl rfl hg5_8 rfl) (Ex.move rfl) ?_
  refine WL.u rfl rfl (Wt.guard' rfl rfl rfl hg5_8 rfl) (Ex.move rfl) ?_
  refine WL.u rfl rfl (Wt.guard' rfl rfl rfl hg5_8 rfl) (Ex.neqB Try.underlying4 rfl rfl) ?_
  refine WL.u rfl rfl (Wt.plain rfl) (Ex.pickF rfl hg5_8 rfl) ?_
  refine WL.next ?_
  refine WC.condF rfl (by simp) ?_
  refine WC.skip ?_
  refine WN.next ?_
  refine WC.seq ?_
  refine WC.region ?_
  refine WL.u rfl rfl (Wt.plain rfl) (Ex.assign rfl) ?_
  refine WL.next ?_
  refine WC.ret ?_
  refine WN.body1 rfl rfl ?_
  exact ⟨rfl, hH.keep⟩

set_option maxHeartbeats 1000000 in
theorem lawExactTermGrid (s : Str) (w : World) (hy : (s.length : Int) ≤ 9223372036854775807) : Fn Try.prog 11 [vstr s] w (fun v w1 => v = .bool true ∧ Keep [] w w1) := by
  refine Fn.enter (n := 66) Try.func11 rfl rfl rfl ?_
  show WC _ _ _ _ [(0, vstr s)] _
  have hH := Hp.start [] w
  have hlen := termGrid_len s
  refine WC.seq ?_
  refine WC.region ?_
  refine WL.u rfl rfl (Wt.plain rfl) (Ex.assign rfl) ?_
  refine WL.next ?_
  refine WC.seq ?_
  refine WC.seq ?_
  refine WC.region ?_
  refine WL.u rfl rfl (Wt.plain rfl) (Ex.move rfl) ?_
  refine WL.u rfl rfl (Wt.plain rfl) (Ex.lenStr Try.underlying9 rfl) ?_
  refine WL.u rfl rfl (Wt.plain rfl) (Ex.gtr rfl rfl) ?_
  refine WL.next ?_
  refine WC.cond rfl (fun hc1 => ?_) (fun hc1 => ?_)
  · have hc1' := hc1; try simp only [decide_eq_true_eq, decide_eq_false_iff_not, Bool.not_eq_true', Bool.not_eq_false', Bool.not_eq_true, Bool.not_eq_false] at hc1'
    refine WC.seq ?_
    refine WC.region ?_
    refine WL.u rfl rfl (Wt.plain rfl) (Ex.assign rfl) ?_
    refine WL.next ?_
    refine WC.ret ?_
    refine WN.retThen ?_
    refine WN.body1 rfl rfl ?_
    exact ⟨rfl, hH.keep⟩
  have hc1' := hc1; try simp only [decide_eq_true_eq, decide_eq_false_iff_not, Bool.not_eq_true', Bool.not_eq_false', Bool.not_eq_true, Bool.not_eq_false] at hc1'
  refine WC.skip ?_
  refine WN.next ?_
  refine WC.seq ?_
  refine WC.region ?_
  refine WL.u rfl rfl (Wt.plain rfl) (Ex.move rfl) ?_
  refine WL.call callable37 rfl (Wt.plain rfl) rfl rfl (sTermGrid _ _ (by omega)) ?_
  rintro _ wn ⟨x16, rfl, hC, hN⟩; obtain ⟨b16, cap16, cur16, rfl, hge16, hbb16, ho16⟩ := hN.own; replace hH := hH.push hC hge16 hbb16; clear hC hN
  refine WL.u rfl rfl (Wt.plain rfl) (Ex.move rfl) ?_
  refine WL.u rfl rfl (Wt.plain rfl) (Ex.extract rfl rfl) ?_
  refine WL.u rfl rfl (Wt.plain rfl) (Ex.extract rfl rfl) ?_
  refine WL.u rfl rfl (Wt.plain rfl) (Ex.assign rfl) ?_
  refine WL.u rfl rfl (Wt.plain rfl) (Ex.assign rfl) ?_
  refine WL.next ?_
  refine WC.seq ?_
  refine WC.region ?_
  refine WL.u rfl rfl (Wt.plain rfl) (Ex.move rfl) ?_
  refine WL.call callable30 rfl (Wt.plain rfl) rfl rfl (iTermGrid _ _ (by omega)) ?_
  rintro _ wn ⟨x21, rfl, hC, hN⟩; obtain ⟨b21, cap21, cur21, rfl, hge21, hbb21, ho21⟩ := hN.own; replace hH := hH.push hC hge21 hbb21; clear hC hN
  refine WL.u rfl rfl (Wt.plain rfl) (Ex.move rfl) ?_
  refine WL.u rfl rfl (Wt.plain rfl) (Ex.extract rfl rfl) ?_
  refine WL.u rfl rfl (Wt.plain rfl) (Ex.extract rfl rfl) ?_
  refine WL.u rfl rfl (Wt.plain rfl) (Ex.assign rfl) ?_
  refine WL.u rfl rfl (Wt.plain rfl) (Ex.assign rfl) ?_
  refine WL.next ?_
  refine WC.seq ?_
  refine WC.seq ?_
  refine WC.region ?_
  refine WL.u rfl rfl (Wt.plain rfl) (Ex.move rfl) ?_
  refine WL.u rfl rfl (Wt.plain rfl) (Ex.move rfl) ?_
  refine WL.call callable23 rfl (Wt.plain rfl) rfl rfl (eqStringS ((termGrid s).1) ((termGrid s).1) _ _ _ _ _ (ho21.slAt hH 0 rfl) (ho16.slAt hH 1 rfl)) ?_
  rintro _ wn ⟨rfl, hC⟩; replace hH := hH.dr hC; clear hC
  refine WL.u rfl rfl (Wt.plain rfl) (Ex.not rfl) ?_
  refine WL.u rfl rfl (Wt.plain rfl) (Ex.move rfl) ?_
  refine WL.split (t := 28) rfl (fun hg5_4 => ?_) (fun hg5_4 => ?_)
  · exfalso; simp at hg5_4
  have hg5_4' := hg5_4; try simp only [decide_eq_true_eq, decide_eq_false_iff_not, Bool.not_eq_true', Bool.not_eq_false', Bool.not_eq_true, Bool.not_eq_false] at hg5_4'
  refine WL.u rfl rfl (Wt.guard' rfl rfl rfl hg5_4 rfl) (Ex.move rfl) ?_
  refine WL.u rfl rfl (Wt.guard' rfl rfl rfl hg5_4 rfl) (Ex.move rfl) ?_
  refine WL.u rfl rfl (Wt.guard' rfl rfl rfl hg5_4 rfl) (Ex.neqB Try.underlying4 rfl rfl) ?_
  refine WL.u rfl rfl (Wt.plain rfl) (Ex.pickF rfl hg5_4 rfl) ?_
  refine WL.next ?_
  refine WC.condF rfl (by simp) ?_
  refine WC.skip ?_
  refine WN.next ?_
  refine WC.seq ?_
  refine WC.region ?_
  refine WL.u rfl rfl (Wt.plain rfl) (Ex.assign rfl) ?_
  refine WL.next ?_
  refine WC.seq ?_
  refine WC.region ?_
  refine WL.u rfl rfl (Wt.plain rfl) (Ex.move rfl) ?_
  refine WL.u rfl rfl (Wt.plain rfl) (Ex.move rfl) ?_
  refine WL.call callable38 rfl (Wt.plain rfl) rfl rfl (markStringS b21 cap21 cur21 ((termGrid s).1) 1 _ (hH.at 0 rfl) ho21 (by omega) (by omega)) ?_
  rintro _ wn ⟨cur21m, rfl, hK, hb, ho21⟩; replace hH := hH.turn hK hb; clear hK hb
  refine WL.u rfl rfl (Wt.plain rfl) (Ex.assign rfl) ?_
  refine WL.next ?_
  refine WC.seq ?_
  refine WC.region ?_
  refine WL.u rfl rfl (Wt.plain rfl) (Ex.assign rfl) ?_
  refine WL.next ?_
  refine WC.seq ?_
  refine WC.region ?_
  refine WL.u rfl rfl (Wt.plain rfl) (Ex.move rfl) ?_
  refine WL.u rfl rfl (Wt.plain rfl) (Ex.move rfl) ?_
  refine WL.call callable39 rfl (Wt.plain rfl) rfl rfl (heldStringS (some ⟨b21, 0, none⟩) cap21 1 ((termGrid s).1).length _ (ho21.slAt hH 0 rfl) (by omega) (by omega)) ?_
  rintro _ wn ⟨rfl, hC⟩; replace hH := hH.call hC; clear hC
  refine WL.u rfl rfl (Wt.plain rfl) (Ex.assign rfl) ?_
  refine WL.next ?_
  refine WC.seq ?_
  refine WC.seq ?_
  refine WC.region ?_
  refine WL.u rfl rfl (Wt.plain rfl) (Ex.move rfl) ?_
  refine WL.u rfl rfl (Wt.plain rfl) (Ex.lss rfl rfl) ?_
  refine WL.next ?_
  refine WC.condF rfl (decide_eq_false (by omega)) ?_
  refine WC.skip ?_
  refine WN.next ?_
  refine WC.seq ?_
  refine WC.seq ?_
  refine WC.region ?_
  refine WL.u rfl rfl (Wt.plain rfl) (Ex.move rfl) ?_
  refine WL.u rfl rfl (Wt.plain rfl) (Ex.move rfl) ?_
  refine WL.u rfl rfl (Wt.plain rfl) (Ex.neq rfl rfl) ?_
  refine WL.next ?_
  refine WC.condF rfl (by simp) ?_
  refine WC.skip ?_
  refine WN.next ?_
  refine WC.seq ?_
  refine WC.region ?_
  refine WL.u rfl rfl (Wt.plain rfl) (Ex.move rfl) ?_
  refine WL.call callable30 rfl (Wt.plain rfl) rfl rfl (iTermGrid _ _ (by omega)) ?_
  rintro _ wn ⟨x46, rfl, hC, hN⟩; obtain ⟨b46, cap46, cur46, rfl, hge46, hbb46, ho46⟩ := hN.own; replace hH := hH.push hC hge46 hbb46; clear hC hN
  refine WL.u rfl rfl (Wt.plain rfl) (Ex.move rfl) ?_
  refine WL.u rfl rfl (Wt.plain rfl) (Ex.extract rfl rfl) ?_
  refine WL.u rfl rfl (Wt.plain rfl) (Ex.extract rfl rfl) ?_
  refine WL.u rfl rfl (Wt.plain rfl) (Ex.assign rfl) ?_
  refine WL.u rfl rfl (Wt.plain rfl) (Ex.assign rfl) ?_
  refine WL.next ?_
  refine WC.seq ?_
  refine WC.seq ?_
  refine WC.region ?_
  refine WL.u rfl rfl (Wt.plain rfl) (Ex.move rfl) ?_
  refine WL.u rfl rfl (Wt.plain rfl) (Ex.move rfl) ?_
  refine WL.call callable23 rfl (Wt.plain rfl) rfl rfl (eqStringS ((termGrid s).1) ((termGrid s).1) _ _ _ _ _ (ho46.slAt hH 0 rfl) (ho16.slAt hH 2 rfl)) ?_
  rintro _ wn ⟨rfl, hC⟩; replace hH := hH.dr hC; clear hC
  refine WL.u rfl rfl (Wt.plain rfl) (Ex.not rfl) ?_
  refine WL.u rfl rfl (Wt.plain rfl) (Ex.move rfl) ?_
  refine WL.split (t := 53) rfl (fun hg16_4 => ?_) (fun hg16_4 => ?_)
  · exfalso; simp at hg16_4
  have hg16_4' := hg16_4; try simp only [decide_eq_true_eq, decide_eq_false_iff_not, Bool.not_eq_true', Bool.not_eq_false', Bool.not_eq_true, Bool.not_eq_false] at hg16_4'
  refine WL.u rfl rfl (Wt.guard' rfl rfl rfl hg16_4 rfl) (Ex.move rfl) ?_
  refine WL.u rfl rfl (Wt.guard' rfl rfl rfl hg16_4 rfl) (Ex.move rfl) ?_
  refine WL.u rfl rfl (Wt.guard' rfl rfl rfl hg16_4 rfl) (Ex.neqB Try.underlying4 rfl rfl) ?_
  refine WL.u rfl rfl (Wt.plain rfl) (Ex.pickF rfl hg16_4 rfl) ?_
  refine WL.next ?_
  refine WC.condF rfl (by simp) ?_
  refine WC.skip ?_
  refine WN.next ?_
  refine WC.seq ?_
  refine WC.region ?_
  refine WL.u rfl rfl (Wt.plain rfl) (Ex.assign rfl) ?_
  refine WL.next ?_
  refine WC.seq ?_
  refine WC.region ?_
  refine WL.u rfl rfl (Wt.plain rfl) (Ex.move rfl) ?_
  refine WL.u rfl rfl (Wt.plain rfl) (Ex.move rfl) ?_
  refine WL.call callable39 rfl (Wt.plain rfl) rfl rfl (heldStringS (some ⟨b21, 0, none⟩) cap21 1 ((termGrid s).1).length _ (ho21.slAt hH 1 rfl) (by omega) (by omega)) ?_
  rintro _ wn ⟨rfl, hC⟩; replace hH := hH.call hC; clear hC
  refine WL.u rfl rfl (Wt.plain rfl) (Ex.assign rfl) ?_
  refine WL.next ?_
  refine WC.seq ?_
  refine WC.seq ?_
  refine WC.region ?_
  refine WL.u rfl rfl (Wt.plain rfl) (Ex.move rfl) ?_
  refine WL.u rfl rfl (Wt.plain rfl) (Ex.lss rfl rfl) ?_
  refine WL.next ?_
  refine WC.condF rfl (decide_eq_false (by omega)) ?_
  refine WC.skip ?_
  refine WN.next ?_
  refine WC.seq ?_
  refine WC.seq ?_
  refine WC.region ?_
  refine WL.u rfl rfl (Wt.plain rfl) (Ex.move rfl) ?_
  refine WL.u rfl rfl (Wt.plain rfl) (Ex.move rfl) ?_
  refine WL.u rfl rfl (Wt.plain rfl) (Ex.neq rfl rfl) ?_
  refine WL.next ?_
  refine WC.condF rfl (by simp) ?_
  refine WC.skip ?_
  refine WN.next ?_
  refine WC.seq ?_
  refine WC.region ?_
  refine WL.u rfl rfl (Wt.plain rfl) (Ex.assign rfl) ?_
  refine WL.next ?_
  refine WC.ret ?_
  refine WN.body1 rfl rfl ?_
  exact ⟨rfl, hH.keep⟩

theorem iTermSame (s t : Str) (w : World) (hs : s.length ≤ 1048577) (ht : t.length ≤ 1048577) : Fn Try.prog 36 [vstr s, vstr t] w (fun v w1 => v = .bool (termSame s t) ∧ Keep [] w w1) := by
  refine Fn.enter (n := 51) Try.func36 rfl rfl rfl ?_
  show WC _ _ _ _ [(0, vstr s), (1, vstr t)] _
  have hH := Hp.start [] w
  refine WC.seq ?_
  refine WC.region ?_
  refine WL.u rfl rfl (Wt.plain rfl) (Ex.assign rfl) ?_
  refine WL.next ?_
  refine WC.seq ?_
  refine WC.region ?_
  refine WL.u rfl rfl (Wt.plain rfl) (Ex.move rfl) ?_
  refine WL.call callable63 rfl (Wt.plain rfl) rfl rfl (itermOf s _ hs) ?_
  rintro _ wn ⟨p13, x13, rfl, hC, hT13⟩; have hHa13 := hH; have hCa13 := hC; replace hH := hH.call hC
  refine WL.u rfl rfl (Wt.plain rfl) (Ex.move rfl) ?_
  refine WL.u rfl rfl (Wt.plain rfl) (Ex.extract rfl rfl) ?_
  refine WL.u rfl rfl (Wt.plain rfl) (Ex.extract rfl rfl) ?_
  refine WL.u rfl rfl (Wt.plain rfl) (Ex.extract rfl rfl) ?_
  refine WL.u rfl rfl (Wt.plain rfl) (Ex.assign rfl) ?_
  refine WL.u rfl rfl (Wt.plain rfl) (Ex.assign rfl) ?_
  refine WL.u rfl rfl (Wt.plain rfl) (Ex.assign rfl) ?_
  refine WL.next ?_
  refine WC.seq ?_
  refine WC.region ?_
  refine WL.u rfl rfl (Wt.plain rfl) (Ex.move rfl) ?_
  refine WL.call callable63 rfl (Wt.plain rfl) rfl rfl (itermOf t _ ht) ?_
  rintro _ wn ⟨p19, x19, rfl, hC19, hT19⟩; have hHa19 := hH; replace hH := hH.call hC19
  refine WL.u rfl rfl (Wt.plain rfl) (Ex.move rfl) ?_
  refine WL.u rfl rfl (Wt.plain rfl) (Ex.extract rfl rfl) ?_
  refine WL.u rfl rfl (Wt.plain rfl) (Ex.extract rfl rfl) ?_
  refine WL.u rfl rfl (Wt.plain rfl) (Ex.extract rfl rfl) ?_
  refine WL.u rfl rfl (Wt.plain rfl) (Ex.assign rfl) ?_
  refine WL.u rfl rfl (Wt.plain rfl) (Ex.assign rfl) ?_
  refine WL.u rfl rfl (Wt.plain rfl) (Ex.assign rfl) ?_
  refine WL.next ?_
  refine WC.seq ?_
  refine WC.quietK rfl (by kernel_rfl) ?_
  refine WQ.u rfl rfl (Wt.plain rfl) (fun w hC => Ex.move rfl) ?_
  refine WQ.u rfl rfl (Wt.plain rfl) (fun w hC => Ex.move rfl) ?_
  refine WQ.split (t := 24) rfl (fun hg3_1 => ?_) (fun hg3_1 => ?_)
  · obtain ⟨a, hea⟩ := Option.isSome_iff_exists.1 hg3_1
    obtain ⟨hWa, hva, hNa, _⟩ := hT13 a hea
    obtain ⟨b13, cap13, cur13, rfl, hge13, hbb13, ho13⟩ := hNa.own
    have hsl13 := ho13.sl0 hbb13
    obtain ⟨hGa, hRa, hCCa⟩ := gridT_ok hWa hva
    have hn1a := hGa.n1
    have hn5a := hGa.n5
    replace hsl13 := hsl13.kept hC19
    refine WQ.u rfl rfl (Wt.guard' rfl rfl rfl hg3_1 rfl) (fun w hC => Ex.move rfl) ?_
    refine WQ.u rfl rfl (Wt.plain rfl) (fun w hC => Ex.pickT rfl hg3_1 rfl) ?_
    refine WQ.u rfl rfl (Wt.plain rfl) (fun w hC => Ex.move rfl) ?_
    refine WQ.split (t := 27) rfl (fun hg3_4 => ?_) (fun hg3_4 => ?_)
    · obtain ⟨c, hec⟩ := Option.isSome_iff_exists.1 hg3_4
      obtain ⟨hWc, hvc, hNc, _⟩ := hT19 c hec
      obtain ⟨b19, cap19, cur19, rfl, hge19, hbb19, ho19⟩ := hNc.own
      have hsl19 := ho19.sl0 hbb19
      obtain ⟨hGc, hRc, hCCc⟩ := gridT_ok hWc hvc
      have hn1c := hGc.n1
      have hn5c := hGc.n5
      have hat := termSame_at hea hec
      refine WQ.u rfl rfl (Wt.guard' rfl rfl rfl hg3_4 rfl) (fun w hC => Ex.move rfl) ?_
      refine WQ.u rfl rfl (Wt.guard' rfl rfl rfl hg3_4 rfl) (fun w hC => Ex.lenSl Try.underlying22 rfl) ?_
      refine WQ.u rfl rfl (Wt.guard' rfl rfl rfl hg3_4 rfl) (fun w hC => Ex.move rfl) ?_
      refine WQ.u rfl rfl (Wt.guard' rfl rfl rfl hg3_4 rfl) (fun w hC => Ex.lenSl Try.underlying22 rfl) ?_
      refine WQ.u rfl rfl (Wt.guard' rfl rfl rfl hg3_4 rfl) (fun w hC => Ex.eql rfl rfl) ?_
      refine WQ.u rfl rfl (Wt.plain rfl) (fun w hC => Ex.pickT rfl hg3_4 rfl) ?_
      refine WQ.u rfl rfl (Wt.plain rfl) (fun w hC => Ex.move rfl) ?_
      refine WQ.split (t := 34) rfl (fun hg3_11 => ?_) (fun hg3_11 => ?_)
      · have hg3_11' := hg3_11; try simp only [decide_eq_true_eq, decide_eq_false_iff_not, Bool.not_eq_true', Bool.not_eq_false', Bool.not_eq_true, Bool.not_eq_false] at hg3_11'
        have hnn : (gridT a).length = (gridT c).length := by omega
        refine WQ.u rfl rfl (Wt.guard' rfl rfl rfl hg3_11 rfl) (fun w hC => Ex.move rfl) ?_
        refine WQ.u rfl rfl (Wt.guard' rfl rfl rfl hg3_11 rfl) (fun w hC => Ex.indexAddr Try.underlying22 ty9 rfl rfl (by omega)) ?_
        refine WQ.u rfl rfl (Wt.guard' rfl rfl rfl hg3_11 rfl) (fun w hC => Ex.loadSl flat9 (hsl13.kept hC) rfl rfl (getD_get (gridT a) 0 [] (by omega))) ?_
        refine WQ.u rfl rfl (Wt.guard' rfl rfl rfl hg3_11 rfl) (fun w hC => Ex.lenStr Try.underlying9 rfl) ?_
        refine WQ.u rfl rfl (Wt.guard' rfl rfl rfl hg3_11 rfl) (fun w hC => Ex.move rfl) ?_
        refine WQ.u rfl rfl (Wt.guard' rfl rfl rfl hg3_11 rfl) (fun w hC => Ex.indexAddr Try.underlying22 ty9 rfl rfl (by omega)) ?_
        refine WQ.u rfl rfl (Wt.guard' rfl rfl rfl hg3_11 rfl) (fun w hC => Ex.loadSl flat9 (hsl19.kept hC) rfl rfl (getD_get (gridT c) 0 [] (by omega))) ?_
        refine WQ.u rfl rfl (Wt.guard' rfl rfl rfl hg3_11 rfl) (fun w hC => Ex.lenStr Try.underlying9 rfl) ?_
        refine WQ.u rfl rfl (Wt.guard' rfl rfl rfl hg3_11 rfl) (fun w hC => Ex.eql rfl rfl) ?_
        refine WQ.u rfl rfl (Wt.plain rfl) (fun w hC => Ex.pickT rfl hg3_11 rfl) ?_
        refine WQ.u rfl rfl (Wt.plain rfl) (fun w hC => Ex.move rfl) ?_
        refine WQ.split (t := 45) rfl (fun hg3_22 => ?_) (fun hg3_22 => ?_)
        · have hg3_22' := hg3_22; try simp only [decide_eq_true_eq, decide_eq_false_iff_not, Bool.not_eq_true', Bool.not_eq_false', Bool.not_eq_true, Bool.not_eq_false] at hg3_22'
          have hmm : ((gridT a).getD 0 []).length = ((gridT c).getD 0 []).length := by omega
          refine WQ.u rfl rfl (Wt.guard' rfl rfl rfl hg3_22 rfl) (fun w hC => Ex.move rfl) ?_
          refine WQ.u rfl rfl (Wt.guard' rfl rfl rfl hg3_22 rfl) (fun w hC => Ex.move rfl) ?_
          refine WQ.call callable69 rfl (Wt.guard' rfl rfl rfl hg3_22 rfl) rfl rfl (fun w hC => Fn.rk hC (icost (gridT a) (gridT c) _ _ _ _ _ (hsl13.kept hC) (hsl19.kept hC) hGa hGc hnn.symm hmm.symm)) ?_
          refine WQ.u rfl rfl (Wt.guard' rfl rfl rfl hg3_22 rfl) (fun w hC => Ex.eql rfl rfl) ?_
          refine WQ.u rfl rfl (Wt.plain rfl) (fun w hC => Ex.pickT rfl hg3_22 rfl) ?_
          refine WQ.u rfl rfl (Wt.plain rfl) (fun w hC => Ex.assign rfl) ?_
          refine WQ.nil ?_
          intro wn hC; replace hH := hH.call hC; clear hC
          refine WN.next ?_
          refine WC.ret ?_
          refine WN.body1 rfl rfl ?_
          refine ⟨?_, hH.keep⟩
          rw [hat]
          refine congrArg Value.bool ?_
          by_cases e : gridT a = gridT c
          · rw [decide_eq_true e]; exact decide_eq_true (show ((apart (gridT a) (gridT c) : Nat) : Int) = 0 by rw [← e, apart_self]; rfl)
          · rw [decide_eq_false e]; exact decide_eq_false (fun h => e (apart_zero hGa hGc hnn.symm hmm.symm (by have h : ((apart (gridT a) (gridT c) : Nat) : Int) = 0 := h; omega)))
        have hg3_22' := hg3_22; try simp only [decide_eq_true_eq, decide_eq_false_iff_not, Bool.not_eq_true', Bool.not_eq_false', Bool.not_eq_true, Bool.not_eq_false] at hg3_22'
        have hno : termSame s t = false := by rw [hat]; exact decide_eq_false (fun e => hg3_22' (by rw [e]))
        refine WQ.pass rfl rfl (Wt.guard' rfl rfl rfl hg3_22 rfl) ?_
        refine WQ.pass rfl rfl (Wt.guard' rfl rfl rfl hg3_22 rfl) ?_
        refine WQ.pass rfl rfl (Wt.guard' rfl rfl rfl hg3_22 rfl) ?_
        refine WQ.pass rfl rfl (Wt.guard' rfl rfl rfl hg3_22 rfl) ?_
        refine WQ.u rfl rfl (Wt.plain rfl) (fun w hC => Ex.pickF rfl hg3_22 rfl) ?_
        refine WQ.u rfl rfl (Wt.plain rfl) (fun w hC => Ex.assign rfl) ?_
        refine WQ.nil ?_
        intro wn hC; replace hH := hH.call hC; clear hC
        refine WN.next ?_
        refine WC.ret ?_
        refine WN.body1 rfl rfl ?_
        exact ⟨by rw [hno] <;> rfl, hH.keep⟩
      have hg3_11' := hg3_11; try simp only [decide_eq_true_eq, decide_eq_false_iff_not, Bool.not_eq_true', Bool.not_eq_false', Bool.not_eq_true, Bool.not_eq_false] at hg3_11'
      have hno : termSame s t = false := by rw [hat]; exact decide_eq_false (fun e => hg3_11' (by rw [e]))
      refine WQ.pass rfl rfl (Wt.guard' rfl rfl rfl hg3_11 rfl) ?_
      refine WQ.pass rfl rfl (Wt.guard' rfl rfl rfl hg3_11 rfl) ?_
      refine WQ.pass rfl rfl (Wt.guard' rfl rfl rfl hg3_11 rfl) ?_
      refine WQ.pass rfl rfl (Wt.guard' rfl rfl rfl hg3_11 rfl) ?_
      refine WQ.pass rfl rfl (Wt.guard' rfl rfl rfl hg3_11 rfl) ?_
      refine WQ.pass rfl rfl (Wt.guard' rfl rfl rfl hg3_11 rfl) ?_
      refine WQ.pass rfl rfl (Wt.guard' rfl rfl rfl hg3_11 rfl) ?_
      refine WQ.pass rfl rfl (Wt.guard' rfl rfl rfl hg3_11 rfl) ?_
      refine WQ.pass rfl rfl (Wt.guard' rfl rfl rfl hg3_11 rfl) ?_
      refine WQ.u rfl rfl (Wt.plain rfl) (fun w hC => Ex.pickF rfl hg3_11 rfl) ?_
      refine WQ.u rfl rfl (Wt.plain rfl) (fun w hC => Ex.move rfl) ?_
      refine WQ.pass rfl rfl (Wt.guard' rfl rfl rfl rfl rfl) ?_
      refine WQ.pass rfl rfl (Wt.guard' rfl rfl rfl rfl rfl) ?_
      refine WQ.pass rfl rfl (Wt.guard' rfl rfl rfl rfl rfl) ?_
      refine WQ.pass rfl rfl (Wt.guard' rfl rfl rfl rfl rfl) ?_
      refine WQ.u rfl rfl (Wt.plain rfl) (fun w hC => Ex.pickF rfl rfl rfl) ?_
      refine WQ.u rfl rfl (Wt.plain rfl) (fun w hC => Ex.assign rfl) ?_
      refine WQ.nil ?_
      intro wn hC; replace hH := hH.call hC; clear hC
      refine WN.next ?_
      refine WC.ret ?_
      refine WN.body1 rfl rfl ?_
      exact ⟨by rw [hno] <;> rfl, hH.keep⟩
    have hno := termSame_no2 (s := s) (show termT t = none by simpa using hg3_4)
    refine WQ.pass rfl rfl (Wt.guard' rfl rfl rfl hg3_4 rfl) ?_
    refine WQ.pass rfl rfl (Wt.guard' rfl rfl rfl hg3_4 rfl) ?_
    refine WQ.pass rfl rfl (Wt.guard' rfl rfl rfl hg3_4 rfl) ?_
    refine WQ.pass rfl rfl (Wt.guard' rfl rfl rfl hg3_4 rfl) ?_
    refine WQ.pass rfl rfl (Wt.guard' rfl rfl rfl hg3_4 rfl) ?_
    refine WQ.u rfl rfl (Wt.plain rfl) (fun w hC => Ex.pickF rfl hg3_4 rfl) ?_
    refine WQ.u rfl rfl (Wt.plain rfl) (fun w hC => Ex.move rfl) ?_
    refine WQ.pass rfl rfl (Wt.guard' rfl rfl rfl rfl rfl) ?_
    refine WQ.pass rfl rfl (Wt.guard' rfl rfl rfl rfl rfl) ?_
    refine WQ.pass rfl rfl (Wt.guard' rfl rfl rfl rfl rfl) ?_
    refine WQ.pass rfl rfl (Wt.guard' rfl rfl rfl rfl rfl) ?_
    refine WQ.pass rfl rfl (Wt.guard' rfl rfl rfl rfl rfl) ?_
    refine WQ.pass rfl rfl (Wt.guard' rfl rfl rfl rfl rfl) ?_
    refine WQ.pass rfl rfl (Wt.guard' rfl rfl rfl rfl rfl) ?_
    refine WQ.pass rfl rfl (Wt.guard' rfl rfl rfl rfl rfl) ?_
    refine WQ.pass rfl rfl (Wt.guard' rfl rfl rfl rfl rfl) ?_
    refine WQ.u rfl rfl (Wt.plain rfl) (fun w hC => Ex.pickF rfl rfl rfl) ?_
    refine WQ.u rfl rfl (Wt.plain rfl) (fun w hC => Ex.move rfl) ?_
    refine WQ.pass rfl rfl (Wt.guard' rfl rfl rfl rfl rfl) ?_
    refine WQ.pass rfl rfl (Wt.guard' rfl rfl rfl rfl rfl) ?_
    refine WQ.pass rfl rfl (Wt.guard' rfl rfl rfl rfl rfl) ?_
    refine WQ.pass rfl rfl (Wt.guard' rfl rfl rfl rfl rfl) ?_
    refine WQ.u rfl rfl (Wt.plain rfl) (fun w hC => Ex.pickF rfl rfl rfl) ?_
    refine WQ.u rfl rfl (Wt.plain rfl) (fun w hC => Ex.assign rfl) ?_
    refine WQ.nil ?_
    intro wn hC; replace hH := hH.call hC; clear hC
    refine WN.next ?_
    refine WC.ret ?_
    refine WN.body1 rfl rfl ?_
    exact ⟨by rw [hno] <;> rfl, hH.keep⟩
  have hno := termSame_no1 (t := t) (show termT s = none by simpa using hg3_1)
  refine WQ.pass rfl rfl (Wt.guard' rfl rfl rfl hg3_1 rfl) ?_
  refine WQ.u rfl rfl (Wt.plain rfl) (fun w hC => Ex.pickF rfl hg3_1 rfl) ?_
  refine WQ.u rfl rfl (Wt.plain rfl) (fun w hC => Ex.move rfl) ?_
  refine WQ.pass rfl rfl (Wt.guard' rfl rfl rfl rfl rfl) ?_
  refine WQ.pass rfl rfl (Wt.guard' rfl rfl rfl rfl rfl) ?_
  refine WQ.pass rfl rfl (Wt.guard' rfl rfl rfl rfl rfl) ?_
  refine WQ.pass rfl rfl (Wt.guard' rfl rfl rfl rfl rfl) ?_
  refine WQ.pass rfl rfl (Wt.guard' rfl rfl rfl rfl rfl) ?_
  refine WQ.u rfl rfl (Wt.plain rfl) (fun w hC => Ex.pickF rfl rfl rfl) ?_
  refine WQ.u rfl rfl (Wt.plain rfl) (fun w hC => Ex.move rfl) ?_
  refine WQ.pass rfl rfl (Wt.guard' rfl rfl rfl rfl rfl) ?_
  refine WQ.pass rfl rfl (Wt.guard' rfl rfl rfl rfl rfl) ?_
  refine WQ.pass rfl rfl (Wt.guard' rfl rfl rfl rfl rfl) ?_
  refine WQ.pass rfl rfl (Wt.guard' rfl rfl rfl rfl rfl) ?_
  refine WQ.pass rfl rfl (Wt.guard' rfl rfl rfl rfl rfl) ?_
  refine WQ.pass rfl rfl (Wt.guard' rfl rfl rfl rfl rfl) ?_
  refine WQ.pass rfl rfl (Wt.guard' rfl rfl rfl rfl rfl) ?_
  refine WQ.pass rfl rfl (Wt.guard' rfl rfl rfl rfl rfl) ?_
  refine WQ.pass rfl rfl (Wt.guard' rfl rfl rfl rfl rfl) ?_
  refine WQ.u rfl rfl (Wt.plain rfl) (fun w hC => Ex.pickF rfl rfl rfl) ?_
  refine WQ.u rfl rfl (Wt.plain rfl) (fun w hC => Ex.move rfl) ?_
  refine WQ.pass rfl rfl (Wt.guard' rfl rfl rfl rfl rfl) ?_
  refine WQ.pass rfl rfl (Wt.guard' rfl rfl rfl rfl rfl) ?_
  refine WQ.pass rfl rfl (Wt.guard' rfl rfl rfl rfl rfl) ?_
  refine WQ.pass rfl rfl (Wt.guard' rfl rfl rfl rfl rfl) ?_
  refine WQ.u rfl rfl (Wt.plain rfl) (fun w hC => Ex.pickF rfl rfl rfl) ?_
  refine WQ.u rfl rfl (Wt.plain rfl) (fun w hC => Ex.assign rfl) ?_
  refine WQ.nil ?_
  intro wn hC; replace hH := hH.call hC; clear hC
  refine WN.next ?_
  refine WC.ret ?_
  refine WN.body1 rfl rfl ?_
  exact ⟨by rw [hno] <;> rfl, hH.keep⟩

theorem sTermSame (s t : Str) (w : World) (hs : s.length ≤ 1048577) (ht : t.length ≤ 1048577) : Fn Try.prog 35 [vstr s, vstr t] w (fun v w1 => v = .bool (termSame s t) ∧ Keep [] w w1) := by
  refine Fn.enter (n := 48) Try.func35 rfl rfl rfl ?_
  show WC _ _ _ _ [(0, vstr s), (1, vstr t)] _
  have hH := Hp.start [] w
  have hlen1 := termGrid_len s
  have hlen2 := termGrid_len t
  refine WC.seq ?_
  refine WC.region ?_
  refine WL.u rfl rfl (Wt.plain rfl) (Ex.assign rfl) ?_
  refine WL.next ?_
  refine WC.seq ?_
  refine WC.region ?_
  refine WL.u rfl rfl (Wt.plain rfl) (Ex.move rfl) ?_
  refine WL.call callable37 rfl (Wt.plain rfl) rfl rfl (sTermGrid _ _ (by omega)) ?_
  rintro _ wn ⟨x12, rfl, hC, hN⟩; obtain ⟨b12, cap12, cur12, rfl, hge12, hbb12, ho12⟩ := hN.own; replace hH := hH.push hC hge12 hbb12; clear hC hN
  refine WL.u rfl rfl (Wt.plain rfl) (Ex.move rfl) ?_
  refine WL.u rfl rfl (Wt.plain rfl) (Ex.extract rfl rfl) ?_
  refine WL.u rfl rfl (Wt.plain rfl) (Ex.extract rfl rfl) ?_
  refine WL.u rfl rfl (Wt.plain rfl) (Ex.assign rfl) ?_
  refine WL.u rfl rfl (Wt.plain rfl) (Ex.assign rfl) ?_
  refine WL.next ?_
  refine WC.seq ?_
  refine WC.region ?_
  refine WL.u rfl rfl (Wt.plain rfl) (Ex.move rfl) ?_
  refine WL.call callable37 rfl (Wt.plain rfl) rfl rfl (sTermGrid _ _ (by omega)) ?_
  rintro _ wn ⟨x17, rfl, hC, hN⟩; obtain ⟨b17, cap17, cur17, rfl, hge17, hbb17, ho17⟩ := hN.own; replace hH := hH.push hC hge17 hbb17; clear hC hN
  refine WL.u rfl rfl (Wt.plain rfl) (Ex.move rfl) ?_
  refine WL.u rfl rfl (Wt.plain rfl) (Ex.extract rfl rfl) ?_
  refine WL.u rfl rfl (Wt.plain rfl) (Ex.extract rfl rfl) ?_
  refine WL.u rfl rfl (Wt.plain rfl) (Ex.assign rfl) ?_
  refine WL.u rfl rfl (Wt.plain rfl) (Ex.assign rfl) ?_
  refine WL.next ?_
  refine WC.seq ?_
  refine WC.seq ?_
  refine WC.region ?_
  refine WL.u rfl rfl (Wt.plain rfl) (Ex.move rfl) ?_
  refine WL.u rfl rfl (Wt.plain rfl) (Ex.not rfl) ?_
  refine WL.u rfl rfl (Wt.plain rfl) (Ex.move rfl) ?_
  refine WL.split (t := 22) rfl (fun hg3_2 => ?_) (fun hg3_2 => ?_)
  · have hno := termSame_no1 (t := t) (termGrid_no (by simpa using hg3_2))
    refine WL.pass rfl rfl (Wt.guard' rfl rfl rfl hg3_2 rfl) ?_
    refine WL.pass rfl rfl (Wt.guard' rfl rfl rfl hg3_2 rfl) ?_
    refine WL.u rfl rfl (Wt.plain rfl) (Ex.pickT rfl hg3_2 rfl) ?_
    refine WL.u rfl rfl (Wt.plain rfl) (Ex.move rfl) ?_
    refine WL.pass rfl rfl (Wt.guard' rfl rfl rfl rfl rfl) ?_
    refine WL.pass rfl rfl (Wt.guard' rfl rfl rfl rfl rfl) ?_
    refine WL.pass rfl rfl (Wt.guard' rfl rfl rfl rfl rfl) ?_
    refine WL.pass rfl rfl (Wt.guard' rfl rfl rfl rfl rfl) ?_
    refine WL.pass rfl rfl (Wt.guard' rfl rfl rfl rfl rfl) ?_
    refine WL.u rfl rfl (Wt.plain rfl) (Ex.pickT rfl rfl rfl) ?_
    refine WL.next ?_
    refine WC.condT rfl rfl ?_
    refine WC.seq ?_
    refine WC.region ?_
    refine WL.u rfl rfl (Wt.plain rfl) (Ex.assign rfl) ?_
    refine WL.next ?_
    refine WC.ret ?_
    refine WN.retThen ?_
    refine WN.body1 rfl rfl ?_
    exact ⟨by rw [hno] <;> rfl, hH.keep⟩
  obtain ⟨a, hea, hga⟩ := termGrid_ex (show (termGrid s).2 = true by simpa using hg3_2)
  refine WL.u rfl rfl (Wt.guard' rfl rfl rfl hg3_2 rfl) (Ex.move rfl) ?_
  refine WL.u rfl rfl (Wt.guard' rfl rfl rfl hg3_2 rfl) (Ex.not rfl) ?_
  refine WL.u rfl rfl (Wt.plain rfl) (Ex.pickF rfl hg3_2 rfl) ?_
  refine WL.u rfl rfl (Wt.plain rfl) (Ex.move rfl) ?_
  refine WL.split (t := 26) rfl (fun hg3_6 => ?_) (fun hg3_6 => ?_)
  · have hno := termSame_no2 (s := s) (termGrid_no (by simpa using hg3_6))
    refine WL.pass rfl rfl (Wt.guard' rfl rfl rfl hg3_6 rfl) ?_
    refine WL.pass rfl rfl (Wt.guard' rfl rfl rfl hg3_6 rfl) ?_
    refine WL.pass rfl rfl (Wt.guard' rfl rfl rfl hg3_6 rfl) ?_
    refine WL.pass rfl rfl (Wt.guard' rfl rfl rfl hg3_6 rfl) ?_
    refine WL.pass rfl rfl (Wt.guard' rfl rfl rfl hg3_6 rfl) ?_
    refine WL.u rfl rfl (Wt.plain rfl) (Ex.pickT rfl hg3_6 rfl) ?_
    refine WL.next ?_
    refine WC.condT rfl rfl ?_
    refine WC.seq ?_
    refine WC.region ?_
    refine WL.u rfl rfl (Wt.plain rfl) (Ex.assign rfl) ?_
    refine WL.next ?_
    refine WC.ret ?_
    refine WN.retThen ?_
    refine WN.body1 rfl rfl ?_
    exact ⟨by rw [hno] <;> rfl, hH.keep⟩
  obtain ⟨c, hec, hgc⟩ := termGrid_ex (show (termGrid t).2 = true by simpa using hg3_6)
  have hat := termSame_at hea hec
  rw [← hga, ← hgc] at hat
  refine WL.u rfl rfl (Wt.guard' rfl rfl rfl hg3_6 rfl) (Ex.move rfl) ?_
  refine WL.u rfl rfl (Wt.guard' rfl rfl rfl hg3_6 rfl) (Ex.lenSl Try.underlying22 rfl) ?_
  refine WL.u rfl rfl (Wt.guard' rfl rfl rfl hg3_6 rfl) (Ex.move rfl) ?_
  refine WL.u rfl rfl (Wt.guard' rfl rfl rfl hg3_6 rfl) (Ex.lenSl Try.underlying22 rfl) ?_
  refine WL.u rfl rfl (Wt.guard' rfl rfl rfl hg3_6 rfl) (Ex.neq rfl rfl) ?_
  refine WL.u rfl rfl (Wt.plain rfl) (Ex.pickF rfl hg3_6 rfl) ?_
  refine WL.next ?_
  refine WC.cond rfl (fun hc1 => ?_) (fun hc1 => ?_)
  · have hc1' := hc1; try simp only [decide_eq_true_eq, decide_eq_false_iff_not, Bool.not_eq_true', Bool.not_eq_false', Bool.not_eq_true, Bool.not_eq_false] at hc1'
    have hno : termSame s t = false := by rw [hat]; exact decide_eq_false (fun e => hc1' (by rw [e]))
    refine WC.seq ?_
    refine WC.region ?_
    refine WL.u rfl rfl (Wt.plain rfl) (Ex.assign rfl) ?_
    refine WL.next ?_
    refine WC.ret ?_
    refine WN.retThen ?_
    refine WN.body1 rfl rfl ?_
    exact ⟨by rw [hno] <;> rfl, hH.keep⟩
  have hc1' := hc1; try simp only [decide_eq_true_eq, decide_eq_false_iff_not, Bool.not_eq_true', Bool.not_eq_false', Bool.not_eq_true, Bool.not_eq_false] at hc1'
  have hll : (termGrid s).1.length = (termGrid t).1.length := by omega
  refine WC.skip ?_
  refine WN.next ?_
  refine WC.seq ?_
  refine WC.seq ?_
  refine WC.region ?_
  refine WL.u rfl rfl (Wt.plain rfl) (Ex.assign rfl) ?_
  refine WL.next ?_
  refine WC.block ?_
  replace hH := hH.f1
  refine WC.loop (ι := Nat) (fun i => [(5, vsl b12 (termGrid s).1.length cap12), (7, vsl b17 (termGrid t).1.length cap17), (9, vint i)]) (fun i wn => Hp [] w wn [(b12, .cells cur12 9 (0, 0)), (b17, .cells cur17 9 (0, 0))] ∧ (∀ j, j < i → (termGrid s).1.getD j [] = (termGrid t).1.getD j []) ∧ i ≤ (termGrid s).1.length) (fun i => (termGrid s).1.length - i) (0) (by exact ⟨rfl, rfl, rfl, trivial⟩) ?_ ?_
  · exact ⟨hH, fun j hj => by omega, Nat.zero_le _⟩
  rintro i wn ⟨hH, hI, hi⟩
  intro mu0 hmu; try dsimp only at hmu
  show WC _ _ _ _ [(5, vsl b12 (termGrid s).1.length cap12), (7, vsl b17 (termGrid t).1.length cap17), (9, vint i)] _
  refine WC.seq ?_
  refine WC.seq ?_
  refine WC.region ?_
  refine WL.u rfl rfl (Wt.plain rfl) (Ex.move rfl) ?_
  refine WL.u rfl rfl (Wt.plain rfl) (Ex.move rfl) ?_
  refine WL.u rfl rfl (Wt.plain rfl) (Ex.lenSl Try.underlying22 rfl) ?_
  refine WL.u rfl rfl (Wt.plain rfl) (Ex.lss rfl rfl) ?_
  refine WL.next ?_
  refine WC.cond rfl (fun hc2 => ?_) (fun hc2 => ?_)
  · have hc2' := hc2; try simp only [decide_eq_true_eq, decide_eq_false_iff_not, Bool.not_eq_true', Bool.not_eq_false', Bool.not_eq_true, Bool.not_eq_false] at hc2'
    have hli : i < (termGrid s).1.length := by omega
    refine WC.skip ?_
    refine WN.next ?_
    refine WC.seq ?_
    refine WC.block ?_
    refine WC.seq ?_
    refine WC.quietK rfl (by kernel_rfl) ?_
    refine WQ.u rfl rfl (Wt.plain rfl) (fun w hC => Ex.move rfl) ?_
    refine WQ.u rfl rfl (Wt.plain rfl) (fun w hC => Ex.move rfl) ?_
    refine WQ.u rfl rfl (Wt.plain rfl) (fun w hC => Ex.indexAddr Try.underlying22 ty9 rfl rfl (by omega)) ?_
    refine WQ.u rfl rfl (Wt.plain rfl) (fun w hC => Ex.loadSl flat9 ((ho12.slAt hH 0 rfl).kept hC) rfl rfl (getD_get (termGrid s).1 i [] hli)) ?_
    refine WQ.u rfl rfl (Wt.plain rfl) (fun w hC => Ex.move rfl) ?_
    refine WQ.u rfl rfl (Wt.plain rfl) (fun w hC => Ex.move rfl) ?_
    refine WQ.u rfl rfl (Wt.plain rfl) (fun w hC => Ex.indexAddr Try.underlying22 ty9 rfl rfl (by omega)) ?_
    refine WQ.u rfl rfl (Wt.plain rfl) (fun w hC => Ex.loadSl flat9 ((ho17.slAt hH 1 rfl).kept hC) rfl rfl (getD_get (termGrid t).1 i [] (by omega))) ?_
    refine WQ.u rfl rfl (Wt.plain rfl) (fun w hC => Ex.neqStr rfl rfl) ?_
    refine WQ.nil ?_
    intro wn hC; replace hH := hH.call hC; clear hC
    refine WN.next ?_
    refine WC.cond rfl (fun hc3 => ?_) (fun hc3 => ?_)
    · have hne : (termGrid s).1.getD i [] ≠ (termGrid t).1.getD i [] := by simpa using hc3
      have hno : termSame s t = false := by rw [hat]; exact decide_eq_false (fun e => hne (by rw [e]))
      refine WC.seq ?_
      refine WC.region ?_
      refine WL.u rfl rfl (Wt.plain rfl) (Ex.assign rfl) ?_
      refine WL.next ?_
      refine WC.ret ?_
      refine WN.retBlock ?_
      refine WN.retThen ?_
      refine WN.retThen ?_
      refine WN.retBlock ?_
      refine WN.retThen ?_
      refine WN.body1 rfl rfl ?_
      exact ⟨by rw [hno] <;> rfl, hH.keep⟩
    have heq : (termGrid s).1.getD i [] = (termGrid t).1.getD i [] := by simpa using hc3
    refine WC.skip ?_
    refine WN.normalBlock ?_
    refine WN.next ?_
    refine WC.region ?_
    refine WL.u rfl rfl (Wt.plain rfl) (Ex.move rfl) ?_
    refine WL.u rfl rfl (Wt.plain rfl) (Ex.add rfl rfl (by omega)) ?_
    refine WL.u rfl rfl (Wt.plain rfl) (Ex.assign rfl) ?_
    refine WL.last ?_
    replace hH := hH.f1
    replace hH := hH.f1
    refine WN.round (i + 1) (by exact ⟨rfl, rfl, rfl, trivial⟩) ?_ ?_
    · exact ⟨hH, fun j hj => by rcases Nat.lt_succ_iff_lt_or_eq.1 hj with h | h; exact hI j h; rw [h]; exact heq, by omega⟩
    · (try dsimp only); omega
  have hc2' := hc2; try simp only [decide_eq_true_eq, decide_eq_false_iff_not, Bool.not_eq_true', Bool.not_eq_false', Bool.not_eq_true, Bool.not_eq_false] at hc2'
  refine WC.exit ?_
  refine WN.exitThen ?_
  refine WN.exitThen ?_
  refine WN.exitHere ?_
  refine WN.next ?_
  refine WC.seq ?_
  refine WC.region ?_
  refine WL.u rfl rfl (Wt.plain rfl) (Ex.assign rfl) ?_
  refine WL.next ?_
  refine WC.ret ?_
  refine WN.body1 rfl rfl ?_
  have hall := grids_same hll (fun j hj => hI j (by omega))
  exact ⟨by rw [hat, decide_eq_true hall], hH.keep⟩

theorem lawExactTermSame (s t : Str) (w : World) (hy : (s.length : Int) ≤ 9223372036854775807) (hz : (t.length : Int) ≤ 9223372036854775807) : Fn Try.prog 10 [vstr s, vstr t] w (fun v w1 => v = .bool true ∧ Keep [] w w1) := by
  refine Fn.enter (n := 22) Try.func10 rfl rfl rfl ?_
  show WC _ _ _ _ [(0, vstr s), (1, vstr t)] _
  have hH := Hp.start [] w
  refine WC.seq ?_
  refine WC.region ?_
  refine WL.u rfl rfl (Wt.plain rfl) (Ex.assign rfl) ?_
  refine WL.next ?_
  refine WC.seq ?_
  refine WC.seq ?_
  refine WC.region ?_
  refine WL.u rfl rfl (Wt.plain rfl) (Ex.move rfl) ?_
  refine WL.u rfl rfl (Wt.plain rfl) (Ex.lenStr Try.underlying9 rfl) ?_
  refine WL.u rfl rfl (Wt.plain rfl) (Ex.gtr rfl rfl) ?_
  refine WL.next ?_
  refine WC.cond rfl (fun hc1 => ?_) (fun hc1 => ?_)
  · have hc1' := hc1; try simp only [decide_eq_true_eq, decide_eq_false_iff_not, Bool.not_eq_true', Bool.not_eq_false', Bool.not_eq_true, Bool.not_eq_false] at hc1'
    refine WC.seq ?_
    refine WC.region ?_
    refine WL.u rfl rfl (Wt.plain rfl) (Ex.assign rfl) ?_
    refine WL.next ?_
    refine WC.ret ?_
    refine WN.retThen ?_
    refine WN.body1 rfl rfl ?_
    exact ⟨rfl, hH.keep⟩
  have hc1' := hc1; try simp only [decide_eq_true_eq, decide_eq_false_iff_not, Bool.not_eq_true', Bool.not_eq_false', Bool.not_eq_true, Bool.not_eq_false] at hc1'
  refine WC.skip ?_
  refine WN.next ?_
  refine WC.seq ?_
  refine WC.seq ?_
  refine WC.region ?_
  refine WL.u rfl rfl (Wt.plain rfl) (Ex.move rfl) ?_
  refine WL.u rfl rfl (Wt.plain rfl) (Ex.lenStr Try.underlying9 rfl) ?_
  refine WL.u rfl rfl (Wt.plain rfl) (Ex.gtr rfl rfl) ?_
  refine WL.next ?_
  refine WC.cond rfl (fun hc2 => ?_) (fun hc2 => ?_)
  · have hc2' := hc2; try simp only [decide_eq_true_eq, decide_eq_false_iff_not, Bool.not_eq_true', Bool.not_eq_false', Bool.not_eq_true, Bool.not_eq_false] at hc2'
    refine WC.seq ?_
    refine WC.region ?_
    refine WL.u rfl rfl (Wt.plain rfl) (Ex.assign rfl) ?_
    refine WL.next ?_
    refine WC.ret ?_
    refine WN.retThen ?_
    refine WN.body1 rfl rfl ?_
    exact ⟨rfl, hH.keep⟩
  have hc2' := hc2; try simp only [decide_eq_true_eq, decide_eq_false_iff_not, Bool.not_eq_true', Bool.not_eq_false', Bool.not_eq_true, Bool.not_eq_false] at hc2'
  refine WC.skip ?_
  refine WN.next ?_
  refine WC.seq ?_
  refine WC.region ?_
  refine WL.u rfl rfl (Wt.plain rfl) (Ex.move rfl) ?_
  refine WL.u rfl rfl (Wt.plain rfl) (Ex.move rfl) ?_
  refine WL.call callable35 rfl (Wt.plain rfl) rfl rfl (sTermSame _ _ _ (by omega) (by omega)) ?_
  rintro _ wn ⟨rfl, hC⟩; replace hH := hH.call hC; clear hC
  refine WL.u rfl rfl (Wt.plain rfl) (Ex.assign rfl) ?_
  refine WL.next ?_
  refine WC.seq ?_
  refine WC.region ?_
  refine WL.u rfl rfl (Wt.plain rfl) (Ex.move rfl) ?_
  refine WL.u rfl rfl (Wt.plain rfl) (Ex.move rfl) ?_
  refine WL.call callable36 rfl (Wt.plain rfl) rfl rfl (iTermSame _ _ _ (by omega) (by omega)) ?_
  rintro _ wn ⟨rfl, hC⟩; replace hH := hH.call hC; clear hC
  refine WL.u rfl rfl (Wt.plain rfl) (Ex.assign rfl) ?_
  refine WL.next ?_
  refine WC.seq ?_
  refine WC.seq ?_
  refine WC.region ?_
  refine WL.u rfl rfl (Wt.plain rfl) (Ex.move rfl) ?_
  refine WL.u rfl rfl (Wt.plain rfl) (Ex.move rfl) ?_
  refine WL.u rfl rfl (Wt.plain rfl) (Ex.neqB Try.underlying4 rfl rfl) ?_
  refine WL.next ?_
  refine WC.condF rfl (by simp) ?_
  refine WC.skip ?_
  refine WN.next ?_
  refine WC.seq ?_
  refine WC.region ?_
  refine WL.u rfl rfl (Wt.plain rfl) (Ex.assign rfl) ?_
  refine WL.next ?_
  refine WC.ret ?_
  refine WN.body1 rfl rfl ?_
  exact ⟨rfl, hH.keep⟩

end Go.Proofs.Ytnilefmlbedfcaa
