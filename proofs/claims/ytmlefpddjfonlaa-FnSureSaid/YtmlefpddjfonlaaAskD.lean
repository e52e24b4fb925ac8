/- The draws of answers. -/
import Derived.Test.YtmlefpddjfonlaaAsk2
import Derived.Test.YtmlefpddjfonlaaDraw
namespace Go.Proofs.Ytmlefpddjfonlaa
set_option maxRecDepth 100000
set_option linter.unusedSimpArgs false
set_option linter.unusedVariables false
open Go Go.RowKit
theorem ok3 (x : Int) (h0 : 0 ≤ x) (h3 : x < 3) : okL (([46, 114, 102] : List UInt8).getD x.toNat 0) = true := by
  obtain h | h | h : x = 0 ∨ x = 1 ∨ x = 2 := by omega
  all_goals (subst h; rfl)
theorem ok2 (x : Int) (h0 : 0 ≤ x) (h3 : x < 2) : okL (([114, 102] : List UInt8).getD x.toNat 0) = true := by
  obtain h | h : x = 0 ∨ x = 1 := by omega
  all_goals (subst h; rfl)
theorem ok_snoc {row : List UInt8} {c : UInt8} (h : ∀ x ∈ row, okL x = true) (hc : okL c = true) : ∀ x ∈ row ++ [c], okL x = true := fun x hx => by
  rcases List.mem_append.1 hx with h1 | h1
  · exact h x h1
  · rw [List.mem_singleton.1 h1]; exact hc
theorem gridOk_rows {g : Grid} {n m : Nat} (hn : g.length = n) (hr : ∀ s ∈ g, s.length = m) (ho : ∀ s ∈ g, ∀ c ∈ s, okL c = true) (h1 : 1 ≤ n) (h2 : n ≤ 5) (h3 : 1 ≤ m) (h4 : m ≤ 5) : GridOk g ∧ nR g = n ∧ nC g = m := by
  have key : ∀ i, i < g.length → (g.getD i []).length = m := fun i hi => hr _ (List.mem_of_getElem? (getD_get g i [] hi))
  have h0 := key 0 (by omega)
  refine ⟨⟨by omega, by omega, by omega, by omega, fun i hi => by rw [key i hi, h0], fun i hi j hj => ?_⟩, hn, h0⟩
  refine ho _ (List.mem_of_getElem? (getD_get g i [] hi)) _ (List.mem_of_getElem? (getD_get (g.getD i []) j 0 ?_))
  rw [key i hi]; rw [h0] at hj; exact hj

theorem sl91OfL (r : Nat) (a : Option Addr) (l : List UInt8) (cap p0 : Nat) (n m : Nat) (w : World) (hr : w.heap[r]? = some (rdo a l.length cap p0)) (hc : Sl rByte w a l) (hca : Off [r] a l) (hl : l.length ≤ 2000) (hp : p0 ≤ 900000) (hn : n ≤ 8) (hm : m ≤ 8) : Fn Try.prog 95 [vptr r 0, vint n, vint m] w (fun v w1 => ∃ (g : Grid) (q : Nat), New rStr 9 w w1 v g ∧ g.length = n ∧ (∀ s ∈ g, s.length = m) ∧ Keep [r] w w1 ∧ w1.heap[r]? = some (rdo a l.length cap q) ∧ q ≤ p0 + 200 ∧ ∀ s ∈ g, ∀ c ∈ s, okL c = true) := by
  refine Fn.enter (n := 63) Try.func95 rfl rfl rfl ?_
  show WC _ _ _ _ [(0, vptr r 0), (1, vint n), (2, vint m)] _
  have hH := Hp.at1 hr
  refine WC.seq ?_
  refine WC.region ?_
  refine WL.u rfl rfl (Wt.plain rfl) (Ex.assign rfl) ?_
  refine WL.next ?_
  refine WC.seq ?_
  refine WC.region ?_
  refine WL.lit0 Try.underlying22 ty9 rfl (Wt.plain rfl) hH (fun b13 wn hb13 hk13 hH => ?_)
  have ho13 := Own.nil rStr
  refine WL.u rfl rfl (Wt.plain rfl) (Ex.assign rfl) ?_
  refine WL.next ?_
  refine WC.seq ?_
  refine WC.region ?_
  refine WL.u rfl rfl (Wt.plain rfl) (Ex.move rfl) ?_
  replace hH := hH.f1
  refine WL.call callable72 rfl (Wt.plain rfl) rfl rfl (spick _ _ _ _ _ 4 _ (hH.at 0 rfl) (hc.keepO hH.keep hca) hca hl (by omega) (by omega)) ?_
  rintro _ wn ⟨kind, rfl, hkind, hKK, ho⟩; replace hH := hH.turn hKK ho; clear hKK ho
  refine WL.u rfl rfl (Wt.plain rfl) (Ex.assign rfl) ?_
  refine WL.next ?_
  refine WC.seq ?_
  refine WC.seq ?_
  refine WC.region ?_
  refine WL.u rfl rfl (Wt.plain rfl) (Ex.assign rfl) ?_
  refine WL.next ?_
  refine WC.block ?_
  replace hH := hH.f1
  replace hH := hH.f1
  refine WC.loop (ι := Nat × Nat × Nat × Nat × (Array Value) × Grid) (fun (i, p, b13, cap13, cur13, g) => [(0, vptr r 0), (1, vint n), (2, vint m), (7, vsl b13 g.length cap13), (8, vint kind), (9, vint i)]) (fun (i, p, b13, cap13, cur13, g) wn => Hp [r] w wn [(r, rdo a l.length cap p), (b13, .cells cur13 9 (0, 0))] ∧ Own rStr cur13 cap13 g ∧ g.length = i ∧ (∀ s ∈ g, s.length = m) ∧ (∀ s ∈ g, ∀ c ∈ s, okL c = true) ∧ i ≤ n ∧ p ≤ p0 + 1 + 20 * i) (fun (i, p, b13, cap13, cur13, g) => n - i) ((0, p0 + 1, b13, 0, #[], [])) (by exact ⟨rfl, rfl, rfl, rfl, rfl, rfl, trivial⟩) ?_ ?_
  · exact ⟨hH, ho13, rfl, by simp, by simp, by omega, by omega⟩
  rintro ⟨i, p, b13, cap13, cur13, g⟩ wn ⟨hH, ho13, hgl, hgr, hgo, hi, hp⟩
  intro mu0 hmu; try dsimp only at hmu
  show WC _ _ _ _ [(0, vptr r 0), (1, vint n), (2, vint m), (7, vsl b13 g.length cap13), (8, vint kind), (9, vint i)] _
  refine WC.seq ?_
  refine WC.seq ?_
  refine WC.region ?_
  refine WL.u rfl rfl (Wt.plain rfl) (Ex.move rfl) ?_
  refine WL.u rfl rfl (Wt.plain rfl) (Ex.move rfl) ?_
  refine WL.u rfl rfl (Wt.plain rfl) (Ex.lss rfl rfl) ?_
  refine WL.next ?_
  refine WC.cond rfl (fun hc1 => ?_) (fun hc1 => ?_)
  · have hc1' := hc1; try simp only [decide_eq_true_eq, decide_eq_false_iff_not, Bool.not_eq_true', Bool.not_eq_false', Bool.not_eq_true, Bool.not_eq_false] at hc1'
    have hlt : i < n := by omega
    refine WC.skip ?_
    refine WN.next ?_
    refine WC.seq ?_
    refine WC.block ?_
    refine WC.seq ?_
    refine WC.region ?_
    refine WL.lit0 Try.underlying38 ty5 rfl (Wt.plain rfl) hH (fun b21 wn hb21 hk21 hH => ?_)
    have ho21 := Own.nil rByte
    refine WL.u rfl rfl (Wt.plain rfl) (Ex.assign rfl) ?_
    refine WL.next ?_
    refine WC.seq ?_
    refine WC.seq ?_
    refine WC.region ?_
    refine WL.u rfl rfl (Wt.plain rfl) (Ex.assign rfl) ?_
    refine WL.next ?_
    refine WC.block ?_
    replace hH := hH.f2
    replace hH := hH.f2
    refine WC.loop (ι := Nat × Nat × Nat × Nat × (Array Value) × (List UInt8)) (fun (k, p, b21, cap21, cur21, row) => [(0, vptr r 0), (1, vint n), (2, vint m), (7, vsl b13 g.length cap13), (8, vint kind), (9, vint i), (10, vsl b21 row.length cap21), (11, vint k)]) (fun (k, p, b21, cap21, cur21, row) wn => Hp [r] w wn [(r, rdo a l.length cap p), (b13, .cells cur13 9 (0, 0)), (b21, .cells cur21 5 (0, 0))] ∧ Own rByte cur21 cap21 row ∧ row.length = k ∧ (∀ c ∈ row, okL c = true) ∧ k ≤ m ∧ p ≤ p0 + 1 + 20 * i + 2 * k) (fun (k, p, b21, cap21, cur21, row) => m - k) ((0, p, b21, 0, #[], [])) (by exact ⟨rfl, rfl, rfl, rfl, rfl, rfl, rfl, rfl, trivial⟩) ?_ ?_
    · exact ⟨hH, ho21, rfl, by simp, by omega, by omega⟩
    rintro ⟨k, p, b21, cap21, cur21, row⟩ wn ⟨hH, ho21, hrl, hrok, hk, hp⟩
    intro mu0 hmu; try dsimp only at hmu
    show WC _ _ _ _ [(0, vptr r 0), (1, vint n), (2, vint m), (7, vsl b13 g.length cap13), (8, vint kind), (9, vint i), (10, vsl b21 row.length cap21), (11, vint k)] _
    refine WC.seq ?_
    refine WC.seq ?_
    refine WC.region ?_
    refine WL.u rfl rfl (Wt.plain rfl) (Ex.move rfl) ?_
    refine WL.u rfl rfl (Wt.plain rfl) (Ex.move rfl) ?_
    refine WL.u rfl rfl (Wt.plain rfl) (Ex.lss rfl rfl) ?_
    refine WL.next ?_
    refine WC.cond rfl (fun hc2 => ?_) (fun hc2 => ?_)
    · have hc2' := hc2; try simp only [decide_eq_true_eq, decide_eq_false_iff_not, Bool.not_eq_true', Bool.not_eq_false', Bool.not_eq_true, Bool.not_eq_false] at hc2'
      refine WC.skip ?_
      refine WN.next ?_
      refine WC.seq ?_
      refine WC.block ?_
      refine WC.seq ?_
      refine WC.region ?_
      refine WL.u rfl rfl (Wt.plain rfl) (Ex.move rfl) ?_
      refine WL.call callable72 rfl (Wt.plain rfl) rfl rfl (spick _ _ _ _ _ 3 _ (hH.at 0 rfl) (hc.keepO hH.keep hca) hca hl (by omega) (by omega)) ?_
      rintro _ wn ⟨k28, rfl, hk28, hKK, ho⟩; replace hH := hH.turn hKK ho; clear hKK ho
      refine WL.u rfl rfl (Wt.plain rfl) (Ex.indexStr Try.underlying9 rfl rfl (by (try simp only [List.length_cons, List.length_nil]); omega)) ?_
      refine WL.u rfl rfl (Wt.plain rfl) (Ex.assign rfl) ?_
      refine WL.next ?_
      refine WC.seq ?_
      refine WC.seq ?_
      refine WC.region ?_
      refine WL.u rfl rfl (Wt.plain rfl) (Ex.move rfl) ?_
      refine WL.u rfl rfl (Wt.plain rfl) (Ex.eql rfl rfl) ?_
      refine WL.u rfl rfl (Wt.plain rfl) (Ex.move rfl) ?_
      refine WL.split (t := 32) rfl (fun hg11_2 => ?_) (fun hg11_2 => ?_)
      · have hg11_2' := hg11_2; try simp only [decide_eq_true_eq, decide_eq_false_iff_not, Bool.not_eq_true', Bool.not_eq_false', Bool.not_eq_true, Bool.not_eq_false] at hg11_2'
        refine WL.u rfl rfl (Wt.guard' rfl rfl rfl hg11_2 rfl) (Ex.move rfl) ?_
        refine WL.u rfl rfl (Wt.guard' rfl rfl rfl hg11_2 rfl) (Ex.eql rfl rfl) ?_
        refine WL.u rfl rfl (Wt.plain rfl) (Ex.pickT rfl hg11_2 rfl) ?_
        refine WL.next ?_
        refine WC.cond rfl (fun hc3 => ?_) (fun hc3 => ?_)
        · have hc3' := hc3; try simp only [decide_eq_true_eq, decide_eq_false_iff_not, Bool.not_eq_true', Bool.not_eq_false', Bool.not_eq_true, Bool.not_eq_false] at hc3'
          refine WC.region ?_
          refine WL.u rfl rfl (Wt.plain rfl) (Ex.move rfl) ?_
          refine WL.u rfl rfl (Wt.plain rfl) (Ex.move rfl) ?_
          refine WL.u rfl rfl (Wt.plain rfl) (Ex.add rfl rfl (by omega)) ?_
          refine WL.u rfl rfl (Wt.plain rfl) (Ex.rem rfl rfl (by omega) (by omega)) ?_
          refine WL.u rfl rfl (Wt.plain rfl) (Ex.indexStr Try.underlying9 rfl rfl (by (try simp only [List.length_cons, List.length_nil]); omega)) ?_
          refine WL.u rfl rfl (Wt.plain rfl) (Ex.assign rfl) ?_
          refine WL.next ?_
          refine WC.seq ?_
          refine WC.seq ?_
          refine WC.region ?_
          refine WL.u rfl rfl (Wt.plain rfl) (Ex.move rfl) ?_
          refine WL.u rfl rfl (Wt.plain rfl) (Ex.eql rfl rfl) ?_
          refine WL.u rfl rfl (Wt.plain rfl) (Ex.move rfl) ?_
          refine WL.split (t := 43) rfl (fun hg13_2 => ?_) (fun hg13_2 => ?_)
          · have hg13_2' := hg13_2; try simp only [decide_eq_true_eq, decide_eq_false_iff_not, Bool.not_eq_true', Bool.not_eq_false', Bool.not_eq_true, Bool.not_eq_false] at hg13_2'
            refine WL.u rfl rfl (Wt.guard' rfl rfl rfl hg13_2 rfl) (Ex.move rfl) ?_
            refine WL.call callable72 rfl (Wt.guard' rfl rfl rfl hg13_2 rfl) rfl rfl (spick _ _ _ _ _ 3 _ (hH.at 0 rfl) (hc.keepO hH.keep hca) hca hl (by omega) (by omega)) ?_
            rintro _ wn ⟨k45, rfl, hk45, hKK, ho⟩; replace hH := hH.turn hKK ho; clear hKK ho
            refine WL.u rfl rfl (Wt.guard' rfl rfl rfl hg13_2 rfl) (Ex.gtr rfl rfl) ?_
            refine WL.u rfl rfl (Wt.plain rfl) (Ex.pickT rfl hg13_2 rfl) ?_
            refine WL.next ?_
            refine WC.cond rfl (fun hc4 => ?_) (fun hc4 => ?_)
            · have hc4' := hc4; try simp only [decide_eq_true_eq, decide_eq_false_iff_not, Bool.not_eq_true', Bool.not_eq_false', Bool.not_eq_true, Bool.not_eq_false] at hc4'
              refine WC.region ?_
              refine WL.u rfl rfl (Wt.plain rfl) (Ex.move rfl) ?_
              refine WL.u rfl rfl (Wt.plain rfl) (Ex.move rfl) ?_
              refine WL.u rfl rfl (Wt.plain rfl) (Ex.add rfl rfl (by omega)) ?_
              refine WL.u rfl rfl (Wt.plain rfl) (Ex.rem rfl rfl (by omega) (by omega)) ?_
              refine WL.u rfl rfl (Wt.plain rfl) (Ex.indexStr Try.underlying9 rfl rfl (by (try simp only [List.length_cons, List.length_nil]); omega)) ?_
              refine WL.u rfl rfl (Wt.plain rfl) (Ex.assign rfl) ?_
              refine WL.next ?_
              refine WC.region ?_
              refine WL.u rfl rfl (Wt.plain rfl) (Ex.move rfl) ?_
              refine WL.u rfl rfl (Wt.plain rfl) (Ex.move rfl) ?_
              replace hH := hH.f2
              refine WL.append1 (r := rByte) (u := _) Try.underlying38 ty5 rfl rfl (fun _ => rfl) (fun _ => rfl) rfl rfl (Wt.plain rfl) (fun _ => (Wt.plain rfl)) hH ho21 rfl (by omega) (by omega) (fun b21 cap21 cur21 wn x21 hb21 hk21 hH ho21 => ?_)
              refine WL.u rfl rfl (Wt.plain rfl) (Ex.assign rfl) ?_
              refine WL.last ?_
              refine WN.normalBlock ?_
              refine WN.next ?_
              refine WC.region ?_
              refine WL.u rfl rfl (Wt.plain rfl) (Ex.move rfl) ?_
              refine WL.u rfl rfl (Wt.plain rfl) (Ex.add rfl rfl (by omega)) ?_
              refine WL.u rfl rfl (Wt.plain rfl) (Ex.assign rfl) ?_
              refine WL.last ?_
              replace hH := hH.f2
              replace hH := hH.f2
              refine WN.round (k + 1, p + 2, b21, cap21, cur21, row ++ [_]) (by exact ⟨rfl, rfl, rfl, rfl, rfl, rfl, rfl, rfl, trivial⟩) ?_ ?_
              · exact ⟨hH, ho21, by simp [hrl], ok_snoc hrok (by first | exact ok3 _ (by omega) (by omega) | exact ok2 _ (by omega) (by omega)), by omega, by omega⟩
              · (try dsimp only); omega
            have hc4' := hc4; try simp only [decide_eq_true_eq, decide_eq_false_iff_not, Bool.not_eq_true', Bool.not_eq_false', Bool.not_eq_true, Bool.not_eq_false] at hc4'
            refine WC.skip ?_
            refine WN.next ?_
            refine WC.region ?_
            refine WL.u rfl rfl (Wt.plain rfl) (Ex.move rfl) ?_
            refine WL.u rfl rfl (Wt.plain rfl) (Ex.move rfl) ?_
            replace hH := hH.f2
            refine WL.append1 (r := rByte) (u := _) Try.underlying38 ty5 rfl rfl (fun _ => rfl) (fun _ => rfl) rfl rfl (Wt.plain rfl) (fun _ => (Wt.plain rfl)) hH ho21 rfl (by omega) (by omega) (fun b21 cap21 cur21 wn x21 hb21 hk21 hH ho21 => ?_)
            refine WL.u rfl rfl (Wt.plain rfl) (Ex.assign rfl) ?_
            refine WL.last ?_
            refine WN.normalBlock ?_
            refine WN.next ?_
            refine WC.region ?_
            refine WL.u rfl rfl (Wt.plain rfl) (Ex.move rfl) ?_
            refine WL.u rfl rfl (Wt.plain rfl) (Ex.add rfl rfl (by omega)) ?_
            refine WL.u rfl rfl (Wt.plain rfl) (Ex.assign rfl) ?_
            refine WL.last ?_
            replace hH := hH.f2
            replace hH := hH.f2
            refine WN.round (k + 1, p + 2, b21, cap21, cur21, row ++ [_]) (by exact ⟨rfl, rfl, rfl, rfl, rfl, rfl, rfl, rfl, trivial⟩) ?_ ?_
            · exact ⟨hH, ho21, by simp [hrl], ok_snoc hrok (by first | exact ok3 _ (by omega) (by omega) | exact ok2 _ (by omega) (by omega)), by omega, by omega⟩
            · (try dsimp only); omega
          have hg13_2' := hg13_2; try simp only [decide_eq_true_eq, decide_eq_false_iff_not, Bool.not_eq_true', Bool.not_eq_false', Bool.not_eq_true, Bool.not_eq_false] at hg13_2'
          refine WL.pass rfl rfl (Wt.guard' rfl rfl rfl hg13_2 rfl) ?_
          refine WL.pass rfl rfl (Wt.guard' rfl rfl rfl hg13_2 rfl) ?_
          refine WL.pass rfl rfl (Wt.guard' rfl rfl rfl hg13_2 rfl) ?_
          refine WL.u rfl rfl (Wt.plain rfl) (Ex.pickF rfl hg13_2 rfl) ?_
          refine WL.next ?_
          refine WC.condF rfl rfl ?_
          refine WC.skip ?_
          refine WN.next ?_
          refine WC.region ?_
          refine WL.u rfl rfl (Wt.plain rfl) (Ex.move rfl) ?_
          refine WL.u rfl rfl (Wt.plain rfl) (Ex.move rfl) ?_
          replace hH := hH.f2
          refine WL.append1 (r := rByte) (u := _) Try.underlying38 ty5 rfl rfl (fun _ => rfl) (fun _ => rfl) rfl rfl (Wt.plain rfl) (fun _ => (Wt.plain rfl)) hH ho21 rfl (by omega) (by omega) (fun b21 cap21 cur21 wn x21 hb21 hk21 hH ho21 => ?_)
          refine WL.u rfl rfl (Wt.plain rfl) (Ex.assign rfl) ?_
          refine WL.last ?_
          refine WN.normalBlock ?_
          refine WN.next ?_
          refine WC.region ?_
          refine WL.u rfl rfl (Wt.plain rfl) (Ex.move rfl) ?_
          refine WL.u rfl rfl (Wt.plain rfl) (Ex.add rfl rfl (by omega)) ?_
          refine WL.u rfl rfl (Wt.plain rfl) (Ex.assign rfl) ?_
          refine WL.last ?_
          replace hH := hH.f2
          replace hH := hH.f2
          refine WN.round (k + 1, p + 1, b21, cap21, cur21, row ++ [_]) (by exact ⟨rfl, rfl, rfl, rfl, rfl, rfl, rfl, rfl, trivial⟩) ?_ ?_
          · exact ⟨hH, ho21, by simp [hrl], ok_snoc hrok (by first | exact ok3 _ (by omega) (by omega) | exact ok2 _ (by omega) (by omega)), by omega, by omega⟩
          · (try dsimp only); omega
        have hc3' := hc3; try simp only [decide_eq_true_eq, decide_eq_false_iff_not, Bool.not_eq_true', Bool.not_eq_false', Bool.not_eq_true, Bool.not_eq_false] at hc3'
        refine WC.skip ?_
        refine WN.next ?_
        refine WC.seq ?_
        refine WC.seq ?_
        refine WC.region ?_
        refine WL.u rfl rfl (Wt.plain rfl) (Ex.move rfl) ?_
        refine WL.u rfl rfl (Wt.plain rfl) (Ex.eql rfl rfl) ?_
        refine WL.u rfl rfl (Wt.plain rfl) (Ex.move rfl) ?_
        refine WL.split (t := 43) rfl (fun hg13_2 => ?_) (fun hg13_2 => ?_)
        · have hg13_2' := hg13_2; try simp only [decide_eq_true_eq, decide_eq_false_iff_not, Bool.not_eq_true', Bool.not_eq_false', Bool.not_eq_true, Bool.not_eq_false] at hg13_2'
          refine WL.u rfl rfl (Wt.guard' rfl rfl rfl hg13_2 rfl) (Ex.move rfl) ?_
          refine WL.call callable72 rfl (Wt.guard' rfl rfl rfl hg13_2 rfl) rfl rfl (spick _ _ _ _ _ 3 _ (hH.at 0 rfl) (hc.keepO hH.keep hca) hca hl (by omega) (by omega)) ?_
          rintro _ wn ⟨k45, rfl, hk45, hKK, ho⟩; replace hH := hH.turn hKK ho; clear hKK ho
          refine WL.u rfl rfl (Wt.guard' rfl rfl rfl hg13_2 rfl) (Ex.gtr rfl rfl) ?_
          refine WL.u rfl rfl (Wt.plain rfl) (Ex.pickT rfl hg13_2 rfl) ?_
          refine WL.next ?_
          refine WC.cond rfl (fun hc4 => ?_) (fun hc4 => ?_)
          · have hc4' := hc4; try simp only [decide_eq_true_eq, decide_eq_false_iff_not, Bool.not_eq_true', Bool.not_eq_false', Bool.not_eq_true, Bool.not_eq_false] at hc4'
            refine WC.region ?_
            refine WL.u rfl rfl (Wt.plain rfl) (Ex.move rfl) ?_
            refine WL.u rfl rfl (Wt.plain rfl) (Ex.move rfl) ?_
            refine WL.u rfl rfl (Wt.plain rfl) (Ex.add rfl rfl (by omega)) ?_
            refine WL.u rfl rfl (Wt.plain rfl) (Ex.rem rfl rfl (by omega) (by omega)) ?_
            refine WL.u rfl rfl (Wt.plain rfl) (Ex.indexStr Try.underlying9 rfl rfl (by (try simp only [List.length_cons, List.length_nil]); omega)) ?_
            refine WL.u rfl rfl (Wt.plain rfl) (Ex.assign rfl) ?_
            refine WL.next ?_
            refine WC.region ?_
            refine WL.u rfl rfl (Wt.plain rfl) (Ex.move rfl) ?_
            refine WL.u rfl rfl (Wt.plain rfl) (Ex.move rfl) ?_
            replace hH := hH.f2
            refine WL.append1 (r := rByte) (u := _) Try.underlying38 ty5 rfl rfl (fun _ => rfl) (fun _ => rfl) rfl rfl (Wt.plain rfl) (fun _ => (Wt.plain rfl)) hH ho21 rfl (by omega) (by omega) (fun b21 cap21 cur21 wn x21 hb21 hk21 hH ho21 => ?_)
            refine WL.u rfl rfl (Wt.plain rfl) (Ex.assign rfl) ?_
            refine WL.last ?_
            refine WN.normalBlock ?_
            refine WN.next ?_
            refine WC.region ?_
            refine WL.u rfl rfl (Wt.plain rfl) (Ex.move rfl) ?_
            refine WL.u rfl rfl (Wt.plain rfl) (Ex.add rfl rfl (by omega)) ?_
            refine WL.u rfl rfl (Wt.plain rfl) (Ex.assign rfl) ?_
            refine WL.last ?_
            replace hH := hH.f2
            replace hH := hH.f2
            refine WN.round (k + 1, p + 2, b21, cap21, cur21, row ++ [_]) (by exact ⟨rfl, rfl, rfl, rfl, rfl, rfl, rfl, rfl, trivial⟩) ?_ ?_
            · exact ⟨hH, ho21, by simp [hrl], ok_snoc hrok (by first | exact ok3 _ (by omega) (by omega) | exact ok2 _ (by omega) (by omega)), by omega, by omega⟩
            · (try dsimp only); omega
          have hc4' := hc4; try simp only [decide_eq_true_eq, decide_eq_false_iff_not, Bool.not_eq_true', Bool.not_eq_false', Bool.not_eq_true, Bool.not_eq_false] at hc4'
          refine WC.skip ?_
          refine WN.next ?_
          refine WC.region ?_
          refine WL.u rfl rfl (Wt.plain rfl) (Ex.move rfl) ?_
          refine WL.u rfl rfl (Wt.plain rfl) (Ex.move rfl) ?_
          replace hH := hH.f2
          refine WL.append1 (r := rByte) (u := _) Try.underlying38 ty5 rfl rfl (fun _ => rfl) (fun _ => rfl) rfl rfl (Wt.plain rfl) (fun _ => (Wt.plain rfl)) hH ho21 rfl (by omega) (by omega) (fun b21 cap21 cur21 wn x21 hb21 hk21 hH ho21 => ?_)
          refine WL.u rfl rfl (Wt.plain rfl) (Ex.assign rfl) ?_
          refine WL.last ?_
          refine WN.normalBlock ?_
          refine WN.next ?_
          refine WC.region ?_
          refine WL.u rfl rfl (Wt.plain rfl) (Ex.move rfl) ?_
          refine WL.u rfl rfl (Wt.plain rfl) (Ex.add rfl rfl (by omega)) ?_
          refine WL.u rfl rfl (Wt.plain rfl) (Ex.assign rfl) ?_
          refine WL.last ?_
          replace hH := hH.f2
          replace hH := hH.f2
          refine WN.round (k + 1, p + 2, b21, cap21, cur21, row ++ [_]) (by exact ⟨rfl, rfl, rfl, rfl, rfl, rfl, rfl, rfl, trivial⟩) ?_ ?_
          · exact ⟨hH, ho21, by simp [hrl], ok_snoc hrok (by first | exact ok3 _ (by omega) (by omega) | exact ok2 _ (by omega) (by omega)), by omega, by omega⟩
          · (try dsimp only); omega
        have hg13_2' := hg13_2; try simp only [decide_eq_true_eq, decide_eq_false_iff_not, Bool.not_eq_true', Bool.not_eq_false', Bool.not_eq_true, Bool.not_eq_false] at hg13_2'
        refine WL.pass rfl rfl (Wt.guard' rfl rfl rfl hg13_2 rfl) ?_
        refine WL.pass rfl rfl (Wt.guard' rfl rfl rfl hg13_2 rfl) ?_
        refine WL.pass rfl rfl (Wt.guard' rfl rfl rfl hg13_2 rfl) ?_
        refine WL.u rfl rfl (Wt.plain rfl) (Ex.pickF rfl hg13_2 rfl) ?_
        refine WL.next ?_
        refine WC.condF rfl rfl ?_
        refine WC.skip ?_
        refine WN.next ?_
        refine WC.region ?_
        refine WL.u rfl rfl (Wt.plain rfl) (Ex.move rfl) ?_
        refine WL.u rfl rfl (Wt.plain rfl) (Ex.move rfl) ?_
        replace hH := hH.f2
        refine WL.append1 (r := rByte) (u := _) Try.underlying38 ty5 rfl rfl (fun _ => rfl) (fun _ => rfl) rfl rfl (Wt.plain rfl) (fun _ => (Wt.plain rfl)) hH ho21 rfl (by omega) (by omega) (fun b21 cap21 cur21 wn x21 hb21 hk21 hH ho21 => ?_)
        refine WL.u rfl rfl (Wt.plain rfl) (Ex.assign rfl) ?_
        refine WL.last ?_
        refine WN.normalBlock ?_
        refine WN.next ?_
        refine WC.region ?_
        refine WL.u rfl rfl (Wt.plain rfl) (Ex.move rfl) ?_
        refine WL.u rfl rfl (Wt.plain rfl) (Ex.add rfl rfl (by omega)) ?_
        refine WL.u rfl rfl (Wt.plain rfl) (Ex.assign rfl) ?_
        refine WL.last ?_
        replace hH := hH.f2
        replace hH := hH.f2
        refine WN.round (k + 1, p + 1, b21, cap21, cur21, row ++ [_]) (by exact ⟨rfl, rfl, rfl, rfl, rfl, rfl, rfl, rfl, trivial⟩) ?_ ?_
        · exact ⟨hH, ho21, by simp [hrl], ok_snoc hrok (by first | exact ok3 _ (by omega) (by omega) | exact ok2 _ (by omega) (by omega)), by omega, by omega⟩
        · (try dsimp only); omega
      have hg11_2' := hg11_2; try simp only [decide_eq_true_eq, decide_eq_false_iff_not, Bool.not_eq_true', Bool.not_eq_false', Bool.not_eq_true, Bool.not_eq_false] at hg11_2'
      refine WL.pass rfl rfl (Wt.guard' rfl rfl rfl hg11_2 rfl) ?_
      refine WL.pass rfl rfl (Wt.guard' rfl rfl rfl hg11_2 rfl) ?_
      refine WL.u rfl rfl (Wt.plain rfl) (Ex.pickF rfl hg11_2 rfl) ?_
      refine WL.next ?_
      refine WC.condF rfl rfl ?_
      refine WC.skip ?_
      refine WN.next ?_
      refine WC.seq ?_
      refine WC.seq ?_
      refine WC.region ?_
      refine WL.u rfl rfl (Wt.plain rfl) (Ex.move rfl) ?_
      refine WL.u rfl rfl (Wt.plain rfl) (Ex.eql rfl rfl) ?_
      refine WL.u rfl rfl (Wt.plain rfl) (Ex.move rfl) ?_
      refine WL.split (t := 43) rfl (fun hg13_2 => ?_) (fun hg13_2 => ?_)
      · have hg13_2' := hg13_2; try simp only [decide_eq_true_eq, decide_eq_false_iff_not, Bool.not_eq_true', Bool.not_eq_false', Bool.not_eq_true, Bool.not_eq_false] at hg13_2'
        refine WL.u rfl rfl (Wt.guard' rfl rfl rfl hg13_2 rfl) (Ex.move rfl) ?_
        refine WL.call callable72 rfl (Wt.guard' rfl rfl rfl hg13_2 rfl) rfl rfl (spick _ _ _ _ _ 3 _ (hH.at 0 rfl) (hc.keepO hH.keep hca) hca hl (by omega) (by omega)) ?_
        rintro _ wn ⟨k45, rfl, hk45, hKK, ho⟩; replace hH := hH.turn hKK ho; clear hKK ho
        refine WL.u rfl rfl (Wt.guard' rfl rfl rfl hg13_2 rfl) (Ex.gtr rfl rfl) ?_
        refine WL.u rfl rfl (Wt.plain rfl) (Ex.pickT rfl hg13_2 rfl) ?_
        refine WL.next ?_
        refine WC.cond rfl (fun hc4 => ?_) (fun hc4 => ?_)
        · have hc4' := hc4; try simp only [decide_eq_true_eq, decide_eq_false_iff_not, Bool.not_eq_true', Bool.not_eq_false', Bool.not_eq_true, Bool.not_eq_false] at hc4'
          refine WC.region ?_
          refine WL.u rfl rfl (Wt.plain rfl) (Ex.move rfl) ?_
          refine WL.u rfl rfl (Wt.plain rfl) (Ex.move rfl) ?_
          refine WL.u rfl rfl (Wt.plain rfl) (Ex.add rfl rfl (by omega)) ?_
          refine WL.u rfl rfl (Wt.plain rfl) (Ex.rem rfl rfl (by omega) (by omega)) ?_
          refine WL.u rfl rfl (Wt.plain rfl) (Ex.indexStr Try.underlying9 rfl rfl (by (try simp only [List.length_cons, List.length_nil]); omega)) ?_
          refine WL.u rfl rfl (Wt.plain rfl) (Ex.assign rfl) ?_
          refine WL.next ?_
          refine WC.region ?_
          refine WL.u rfl rfl (Wt.plain rfl) (Ex.move rfl) ?_
          refine WL.u rfl rfl (Wt.plain rfl) (Ex.move rfl) ?_
          replace hH := hH.f2
          refine WL.append1 (r := rByte) (u := _) Try.underlying38 ty5 rfl rfl (fun _ => rfl) (fun _ => rfl) rfl rfl (Wt.plain rfl) (fun _ => (Wt.plain rfl)) hH ho21 rfl (by omega) (by omega) (fun b21 cap21 cur21 wn x21 hb21 hk21 hH ho21 => ?_)
          refine WL.u rfl rfl (Wt.plain rfl) (Ex.assign rfl) ?_
          refine WL.last ?_
          refine WN.normalBlock ?_
          refine WN.next ?_
          refine WC.region ?_
          refine WL.u rfl rfl (Wt.plain rfl) (Ex.move rfl) ?_
          refine WL.u rfl rfl (Wt.plain rfl) (Ex.add rfl rfl (by omega)) ?_
          refine WL.u rfl rfl (Wt.plain rfl) (Ex.assign rfl) ?_
          refine WL.last ?_
          replace hH := hH.f2
          replace hH := hH.f2
          refine WN.round (k + 1, p + 2, b21, cap21, cur21, row ++ [_]) (by exact ⟨rfl, rfl, rfl, rfl, rfl, rfl, rfl, rfl, trivial⟩) ?_ ?_
          · exact ⟨hH, ho21, by simp [hrl], ok_snoc hrok (by first | exact ok3 _ (by omega) (by omega) | exact ok2 _ (by omega) (by omega)), by omega, by omega⟩
          · (try dsimp only); omega
        have hc4' := hc4; try simp only [decide_eq_true_eq, decide_eq_false_iff_not, Bool.not_eq_true', Bool.not_eq_false', Bool.not_eq_true, Bool.not_eq_false] at hc4'
        refine WC.skip ?_
        refine WN.next ?_
        refine WC.region ?_
        refine WL.u rfl rfl (Wt.plain rfl) (Ex.move rfl) ?_
        refine WL.u rfl rfl (Wt.plain rfl) (Ex.move rfl) ?_
        replace hH := hH.f2
        refine WL.append1 (r := rByte) (u := _) Try.underlying38 ty5 rfl rfl (fun _ => rfl) (fun _ => rfl) rfl rfl (Wt.plain rfl) (fun _ => (Wt.plain rfl)) hH ho21 rfl (by omega) (by omega) (fun b21 cap21 cur21 wn x21 hb21 hk21 hH ho21 => ?_)
        refine WL.u rfl rfl (Wt.plain rfl) (Ex.assign rfl) ?_
        refine WL.last ?_
        refine WN.normalBlock ?_
        refine WN.next ?_
        refine WC.region ?_
        refine WL.u rfl rfl (Wt.plain rfl) (Ex.move rfl) ?_
        refine WL.u rfl rfl (Wt.plain rfl) (Ex.add rfl rfl (by omega)) ?_
        refine WL.u rfl rfl (Wt.plain rfl) (Ex.assign rfl) ?_
        refine WL.last ?_
        replace hH := hH.f2
        replace hH := hH.f2
        refine WN.round (k + 1, p + 2, b21, cap21, cur21, row ++ [_]) (by exact ⟨rfl, rfl, rfl, rfl, rfl, rfl, rfl, rfl, trivial⟩) ?_ ?_
        · exact ⟨hH, ho21, by simp [hrl], ok_snoc hrok (by first | exact ok3 _ (by omega) (by omega) | exact ok2 _ (by omega) (by omega)), by omega, by omega⟩
        · (try dsimp only); omega
      have hg13_2' := hg13_2; try simp only [decide_eq_true_eq, decide_eq_false_iff_not, Bool.not_eq_true', Bool.not_eq_false', Bool.not_eq_true, Bool.not_eq_false] at hg13_2'
      refine WL.pass rfl rfl (Wt.guard' rfl rfl rfl hg13_2 rfl) ?_
      refine WL.pass rfl rfl (Wt.guard' rfl rfl rfl hg13_2 rfl) ?_
      refine WL.pass rfl rfl (Wt.guard' rfl rfl rfl hg13_2 rfl) ?_
      refine WL.u rfl rfl (Wt.plain rfl) (Ex.pickF rfl hg13_2 rfl) ?_
      refine WL.next ?_
      refine WC.condF rfl rfl ?_
      refine WC.skip ?_
      refine WN.next ?_
      refine WC.region ?_
      refine WL.u rfl rfl (Wt.plain rfl) (Ex.move rfl) ?_
      refine WL.u rfl rfl (Wt.plain rfl) (Ex.move rfl) ?_
      replace hH := hH.f2
      refine WL.append1 (r := rByte) (u := _) Try.underlying38 ty5 rfl rfl (fun _ => rfl) (fun _ => rfl) rfl rfl (Wt.plain rfl) (fun _ => (Wt.plain rfl)) hH ho21 rfl (by omega) (by omega) (fun b21 cap21 cur21 wn x21 hb21 hk21 hH ho21 => ?_)
      refine WL.u rfl rfl (Wt.plain rfl) (Ex.assign rfl) ?_
      refine WL.last ?_
      refine WN.normalBlock ?_
      refine WN.next ?_
      refine WC.region ?_
      refine WL.u rfl rfl (Wt.plain rfl) (Ex.move rfl) ?_
      refine WL.u rfl rfl (Wt.plain rfl) (Ex.add rfl rfl (by omega)) ?_
      refine WL.u rfl rfl (Wt.plain rfl) (Ex.assign rfl) ?_
      refine WL.last ?_
      replace hH := hH.f2
      replace hH := hH.f2
      refine WN.round (k + 1, p + 1, b21, cap21, cur21, row ++ [_]) (by exact ⟨rfl, rfl, rfl, rfl, rfl, rfl, rfl, rfl, trivial⟩) ?_ ?_
      · exact ⟨hH, ho21, by simp [hrl], ok_snoc hrok (by first | exact ok3 _ (by omega) (by omega) | exact ok2 _ (by omega) (by omega)), by omega, by omega⟩
      · (try dsimp only); omega
    have hc2' := hc2; try simp only [decide_eq_true_eq, decide_eq_false_iff_not, Bool.not_eq_true', Bool.not_eq_false', Bool.not_eq_true, Bool.not_eq_false] at hc2'
    refine WC.exit ?_
    refine WN.exitThen ?_
    refine WN.exitThen ?_
    refine WN.exitHere ?_
    refine WN.next ?_
    refine WC.region ?_
    refine WL.u rfl rfl (Wt.plain rfl) (Ex.move rfl) ?_
    refine WL.u rfl rfl (Wt.plain rfl) (Ex.move rfl) ?_
    refine WL.u rfl rfl (Wt.plain rfl) (Ex.bytesStr Try.underlying38 Try.underlying5 Try.underlying9 rfl (ho21.slAt hH 2 rfl)) ?_
    replace hH := hH.f1
    refine WL.append1 (r := rStr) (u := row) Try.underlying22 ty9 rfl rfl (fun _ => rfl) (fun _ => rfl) rfl rfl (Wt.plain rfl) (fun _ => (Wt.plain rfl)) hH ho13 rfl (by omega) (by omega) (fun b13 cap13 cur13 wn x13 hb13 hk13 hH ho13 => ?_)
    refine WL.u rfl rfl (Wt.plain rfl) (Ex.assign rfl) ?_
    refine WL.last ?_
    refine WN.normalBlock ?_
    refine WN.next ?_
    refine WC.region ?_
    refine WL.u rfl rfl (Wt.plain rfl) (Ex.move rfl) ?_
    refine WL.u rfl rfl (Wt.plain rfl) (Ex.add rfl rfl (by omega)) ?_
    refine WL.u rfl rfl (Wt.plain rfl) (Ex.assign rfl) ?_
    refine WL.last ?_
    replace hH := hH.f1
    replace hH := hH.first2
    refine WN.round (i + 1, p, b13, cap13, cur13, g ++ [row]) (by exact ⟨rfl, rfl, rfl, rfl, rfl, rfl, trivial⟩) ?_ ?_
    · exact ⟨hH, ho13, by simp [hgl], by intro s hs; rcases List.mem_append.1 hs with h | h; exact hgr s h; rw [List.mem_singleton.1 h]; omega, by intro s hs; rcases List.mem_append.1 hs with h | h; exact hgo s h; rw [List.mem_singleton.1 h]; exact hrok, by omega, by omega⟩
    · (try dsimp only); omega
  have hc1' := hc1; try simp only [decide_eq_true_eq, decide_eq_false_iff_not, Bool.not_eq_true', Bool.not_eq_false', Bool.not_eq_true, Bool.not_eq_false] at hc1'
  refine WC.exit ?_
  refine WN.exitThen ?_
  refine WN.exitThen ?_
  refine WN.exitHere ?_
  refine WN.next ?_
  refine WC.seq ?_
  refine WC.region ?_
  refine WL.u rfl rfl (Wt.plain rfl) (Ex.move rfl) ?_
  refine WL.u rfl rfl (Wt.plain rfl) (Ex.assign rfl) ?_
  refine WL.next ?_
  refine WC.ret ?_
  refine WN.body1 rfl rfl ?_
  exact ⟨g, p, New.of hH.f1 ho13 (hH.base1 1 0 rfl rfl rfl rfl), by omega, hgr, hH.keep, hH.at 0 rfl, by omega, hgo⟩

set_option maxHeartbeats 1000000 in
theorem sl92Answers (r : Nat) (a : Option Addr) (l : List UInt8) (cap p0 : Nat) (w : World) (hr : w.heap[r]? = some (rdo a l.length cap p0)) (hc : Sl rByte w a l) (hca : Off [r] a l) (hl : l.length ≤ 2000) (hp : p0 ≤ 800000) : Fn Try.prog 75 [vptr r 0] w (fun v w1 => ∃ (n m q : Nat) (ans : List Int) (x : Value), v = .tuple #[vint n, vint m, x] ∧ New rInt 3 w w1 x ans ∧ Keep [r] w w1 ∧ w1.heap[r]? = some (rdo a l.length cap q) ∧ (1 ≤ n ∧ n ≤ 2 ∧ 1 ≤ m ∧ m ≤ 6 ∧ ans.length ≤ 12) ∧ q ≤ p0 + 500) := by
  refine Fn.enter (n := 63) Try.func75 rfl rfl rfl ?_
  show WC _ _ _ _ [(0, vptr r 0)] _
  have hH := Hp.at1 hr
  refine WC.seq ?_
  refine WC.region ?_
  refine WL.u rfl rfl (Wt.plain rfl) (Ex.assign rfl) ?_
  refine WL.u rfl rfl (Wt.plain rfl) (Ex.assign rfl) ?_
  refine WL.u rfl rfl (Wt.plain rfl) (Ex.assign rfl) ?_
  refine WL.next ?_
  refine WC.seq ?_
  refine WC.region ?_
  refine WL.u rfl rfl (Wt.plain rfl) (Ex.move rfl) ?_
  refine WL.call callable72 rfl (Wt.plain rfl) rfl rfl (spick _ _ _ _ _ 2 _ (hH.at 0 rfl) (hc.keepO hH.keep hca) hca hl (by omega) (by omega)) ?_
  rintro _ wn ⟨k12, rfl, hk12, hKK, ho⟩; replace hH := hH.turn hKK ho; clear hKK ho
  refine WL.u rfl rfl (Wt.plain rfl) ((Ex.add rfl rfl (by omega)).to (congrArg (Value.int IntKind.i64) (show _ = ((1 + k12 : Nat) : Int) by omega))) ?_
  refine WL.u rfl rfl (Wt.plain rfl) (Ex.assign rfl) ?_
  refine WL.next ?_
  refine WC.seq ?_
  refine WC.region ?_
  refine WL.u rfl rfl (Wt.plain rfl) (Ex.move rfl) ?_
  refine WL.call callable72 rfl (Wt.plain rfl) rfl rfl (spick _ _ _ _ _ 2 _ (hH.at 0 rfl) (hc.keepO hH.keep hca) hca hl (by omega) (by omega)) ?_
  rintro _ wn ⟨k15, rfl, hk15, hKK, ho⟩; replace hH := hH.turn hKK ho; clear hKK ho
  refine WL.u rfl rfl (Wt.plain rfl) ((Ex.add rfl rfl (by omega)).to (congrArg (Value.int IntKind.i64) (show _ = ((1 + k15 : Nat) : Int) by omega))) ?_
  refine WL.u rfl rfl (Wt.plain rfl) (Ex.assign rfl) ?_
  refine WL.next ?_
  refine WC.seq ?_
  refine WC.seq ?_
  refine WC.region ?_
  refine WL.u rfl rfl (Wt.plain rfl) (Ex.move rfl) ?_
  refine WL.call callable72 rfl (Wt.plain rfl) rfl rfl (spick _ _ _ _ _ 4 _ (hH.at 0 rfl) (hc.keepO hH.keep hca) hca hl (by omega) (by omega)) ?_
  rintro _ wn ⟨k18, rfl, hk18, hKK, ho⟩; replace hH := hH.turn hKK ho; clear hKK ho
  refine WL.u rfl rfl (Wt.plain rfl) (Ex.eql rfl rfl) ?_
  refine WL.next ?_
  refine WC.cond rfl (fun hc1 => ?_) (fun hc1 => ?_)
  · have hc1' := hc1; try simp only [decide_eq_true_eq, decide_eq_false_iff_not, Bool.not_eq_true', Bool.not_eq_false', Bool.not_eq_true, Bool.not_eq_false] at hc1'
    have hqq : (4 : Int) / ((1 + k12 : Nat) : Int) = ((4 / (1 + k12) : Nat) : Int) := rfl
    have hq1 : 1 ≤ 4 / (1 + k12) ∧ 4 / (1 + k12) ≤ 4 ∧ (1 + k12) * (4 / (1 + k12)) ≤ 4 := by
      obtain h | h : k12 = 0 ∨ k12 = 1 := by omega
      · subst h; decide
      · subst h; decide
    generalize 4 / (1 + k12) = M at *
    refine WC.region ?_
    refine WL.u rfl rfl (Wt.plain rfl) (Ex.move rfl) ?_
    refine WL.u rfl rfl (Wt.plain rfl) ((Ex.quo rfl rfl (by omega) (by omega)).to (congrArg (Value.int IntKind.i64) hqq)) ?_
    refine WL.u rfl rfl (Wt.plain rfl) (Ex.assign rfl) ?_
    refine WL.next ?_
    refine WC.seq ?_
    refine WC.region ?_
    refine WL.u rfl rfl (Wt.plain rfl) (Ex.move rfl) ?_
    refine WL.u rfl rfl (Wt.plain rfl) (Ex.move rfl) ?_
    refine WL.u rfl rfl (Wt.plain rfl) (Ex.move rfl) ?_
    refine WL.call callable95 rfl (Wt.plain rfl) rfl rfl (sl91OfL _ _ _ _ _ (1 + k12) (M) _ (hH.at 0 rfl) (hc.keepO hH.keep hca) hca hl (by omega) (by omega) (by omega)) ?_
    rintro _ wn ⟨g, q, hN, hgl, hgr, hKK, ho, hq, hgo⟩; obtain ⟨b25, cap25, cur25, rfl, hge25, hbb25, ho25⟩ := hN.own; replace hH := hH.turnPush hKK ho hge25 hbb25; clear hKK ho hN; obtain ⟨hG, hnR, hnC⟩ := gridOk_rows (m := M) hgl hgr hgo (by omega) (by omega) (by omega) (by omega); have hpo : ports g = 2 * (1 + k12) + 2 * (M) := (by unfold ports; rw [hnR, hnC])
    refine WL.call callable55 rfl (Wt.plain rfl) rfl rfl (sl2Pairs g _ _ _ (ho25.slAt hH 0 rfl) hG) ?_
    rintro _ wn ⟨hC, hN⟩; obtain ⟨b26, cap26, cur26, rfl, hge26, hbb26, ho26⟩ := hN.own; rw [pairsI_len]; replace hH := hH.push hC (by have := hge26; omega) hbb26; clear hC hN
    refine WL.u rfl rfl (Wt.plain rfl) (Ex.assign rfl) ?_
    refine WL.next ?_
    refine WC.seq ?_
    refine WC.region ?_
    refine WL.lit0 Try.underlying24 ty3 rfl (Wt.plain rfl) hH (fun b27 wn hb27 hk27 hH => ?_)
    have ho27 := Own.nil rInt
    refine WL.u rfl rfl (Wt.plain rfl) (Ex.assign rfl) ?_
    refine WL.next ?_
    refine WC.seq ?_
    refine WC.seq ?_
    refine WC.region ?_
    refine WL.u rfl rfl (Wt.plain rfl) (Ex.assign rfl) ?_
    refine WL.next ?_
    refine WC.block ?_
    replace hH := hH.f1
    replace hH := hH.f3
    refine WC.loop (ι := Nat × Nat × Nat × Nat × (Array Value) × (List Int)) (fun (i, p, b27, cap27, cur27, z) => [(0, vptr r 0), (5, vint (1 + k12 : Nat)), (6, vint (M : Nat)), (7, vsl b26 (ports g) cap26), (8, vsl b27 z.length cap27), (9, vint i)]) (fun (i, p, b27, cap27, cur27, z) wn => Hp [r] w wn [(r, rdo a l.length cap p), (b26, .cells cur26 3 (0, 0)), (b27, .cells cur27 3 (0, 0))] ∧ Own rInt cur27 cap27 z ∧ z.length = i ∧ i ≤ ports g ∧ p ≤ p0 + 210 + 3 * i) (fun (i, p, b27, cap27, cur27, z) => ports g - i) ((0, q, b27, 0, #[], [])) (by exact ⟨rfl, rfl, rfl, rfl, rfl, rfl, trivial⟩) ?_ ?_
    · exact ⟨hH.first3, ho27, rfl, Nat.zero_le _, by omega⟩
    rintro ⟨i, p, b27, cap27, cur27, z⟩ wn ⟨hH, ho27, hzl, hi, hp⟩
    intro mu0 hmu; try dsimp only at hmu
    show WC _ _ _ _ [(0, vptr r 0), (5, vint (1 + k12 : Nat)), (6, vint (M : Nat)), (7, vsl b26 (ports g) cap26), (8, vsl b27 z.length cap27), (9, vint i)] _
    refine WC.seq ?_
    refine WC.seq ?_
    refine WC.region ?_
    refine WL.u rfl rfl (Wt.plain rfl) (Ex.move rfl) ?_
    refine WL.u rfl rfl (Wt.plain rfl) (Ex.move rfl) ?_
    refine WL.u rfl rfl (Wt.plain rfl) (Ex.lenSl Try.underlying24 rfl) ?_
    refine WL.u rfl rfl (Wt.plain rfl) (Ex.lss rfl rfl) ?_
    refine WL.next ?_
    refine WC.cond rfl (fun hc2 => ?_) (fun hc2 => ?_)
    · have hc2' := hc2; try simp only [decide_eq_true_eq, decide_eq_false_iff_not, Bool.not_eq_true', Bool.not_eq_false', Bool.not_eq_true, Bool.not_eq_false] at hc2'
      have hlt : i < ports g := by omega
      refine WC.skip ?_
      refine WN.next ?_
      refine WC.seq ?_
      refine WC.block ?_
      refine WC.seq ?_
      refine WC.region ?_
      refine WL.u rfl rfl (Wt.plain rfl) (Ex.assign rfl) ?_
      refine WL.next ?_
      refine WC.seq ?_
      refine WC.seq ?_
      refine WC.region ?_
      refine WL.u rfl rfl (Wt.plain rfl) (Ex.move rfl) ?_
      refine WL.call callable72 rfl (Wt.plain rfl) rfl rfl (spick _ _ _ _ _ 3 _ (hH.at 0 rfl) (hc.keepO hH.keep hca) hca hl (by omega) (by omega)) ?_
      rintro _ wn ⟨k35, rfl, hk35, hKK, ho⟩; replace hH := hH.turn hKK ho; clear hKK ho
      refine WL.u rfl rfl (Wt.plain rfl) (Ex.eql rfl rfl) ?_
      refine WL.next ?_
      refine WC.cond rfl (fun hc3 => ?_) (fun hc3 => ?_)
      · have hc3' := hc3; try simp only [decide_eq_true_eq, decide_eq_false_iff_not, Bool.not_eq_true', Bool.not_eq_false', Bool.not_eq_true, Bool.not_eq_false] at hc3'
        refine WC.region ?_
        refine WL.u rfl rfl (Wt.plain rfl) (Ex.move rfl) ?_
        refine WL.u rfl rfl (Wt.plain rfl) (Ex.move rfl) ?_
        refine WL.u rfl rfl (Wt.plain rfl) (Ex.indexAddr Try.underlying24 ty3 rfl rfl (by omega)) ?_
        replace hH := hH.f1
        refine WL.u rfl rfl (Wt.plain rfl) (Ex.loadHp flat3 rfl hH (ho26.get rfl (getD_get (pairsI g) i 0 (by rw [pairsI_len]; exact hlt)))) ?_
        refine WL.u rfl rfl (Wt.plain rfl) (Ex.assign rfl) ?_
        refine WL.next ?_
        refine WC.seq ?_
        refine WC.seq ?_
        refine WC.region ?_
        refine WL.u rfl rfl (Wt.plain rfl) (Ex.move rfl) ?_
        replace hH := hH.f1
        refine WL.call callable72 rfl (Wt.plain rfl) rfl rfl (spick _ _ _ _ _ 30 _ (hH.at 0 rfl) (hc.keepO hH.keep hca) hca hl (by omega) (by omega)) ?_
        rintro _ wn ⟨k42, rfl, hk42, hKK, ho⟩; replace hH := hH.turn hKK ho; clear hKK ho
        refine WL.u rfl rfl (Wt.plain rfl) (Ex.eql rfl rfl) ?_
        refine WL.next ?_
        refine WC.cond rfl (fun hc4 => ?_) (fun hc4 => ?_)
        · have hc4' := hc4; try simp only [decide_eq_true_eq, decide_eq_false_iff_not, Bool.not_eq_true', Bool.not_eq_false', Bool.not_eq_true, Bool.not_eq_false] at hc4'
          refine WC.region ?_
          refine WL.u rfl rfl (Wt.plain rfl) (Ex.move rfl) ?_
          refine WL.u rfl rfl (Wt.plain rfl) (Ex.move rfl) ?_
          refine WL.u rfl rfl (Wt.plain rfl) (Ex.lenSl Try.underlying24 rfl) ?_
          refine WL.u rfl rfl (Wt.plain rfl) ((Ex.add rfl rfl (by omega)).to (congrArg (Value.int IntKind.i64) (show _ = ((ports g + 1 : Nat) : Int) by omega))) ?_
          refine WL.call callable72 rfl (Wt.plain rfl) rfl rfl (spick _ _ _ _ _ (ports g + 1) _ (hH.at 0 rfl) (hc.keepO hH.keep hca) hca hl (by omega) (by omega)) ?_
          rintro _ wn ⟨k48, rfl, hk48, hKK, ho⟩; replace hH := hH.turn hKK ho; clear hKK ho
          refine WL.u rfl rfl (Wt.plain rfl) (Ex.assign rfl) ?_
          refine WL.next ?_
          refine WC.region ?_
          refine WL.u rfl rfl (Wt.plain rfl) (Ex.move rfl) ?_
          refine WL.u rfl rfl (Wt.plain rfl) (Ex.move rfl) ?_
          replace hH := hH.f2
          refine WL.append1 (r := rInt) (u := _) Try.underlying24 ty3 rfl rfl (fun _ => rfl) (fun _ => rfl) rfl rfl (Wt.plain rfl) (fun _ => (Wt.plain rfl)) hH ho27 rfl (by omega) (by omega) (fun b27 cap27 cur27 wn x27 hb27 hk27 hH ho27 => ?_)
          refine WL.u rfl rfl (Wt.plain rfl) (Ex.assign rfl) ?_
          refine WL.last ?_
          refine WN.normalBlock ?_
          refine WN.next ?_
          refine WC.region ?_
          refine WL.u rfl rfl (Wt.plain rfl) (Ex.move rfl) ?_
          refine WL.u rfl rfl (Wt.plain rfl) (Ex.add rfl rfl (by omega)) ?_
          refine WL.u rfl rfl (Wt.plain rfl) (Ex.assign rfl) ?_
          refine WL.last ?_
          replace hH := hH.f2
          replace hH := hH.f2
          refine WN.round (i + 1, p + 3, b27, cap27, cur27, z ++ [_]) (by exact ⟨rfl, rfl, rfl, rfl, rfl, rfl, trivial⟩) ?_ ?_
          · exact ⟨hH, ho27, by simp [hzl], by omega, by omega⟩
          · (try dsimp only); omega
        have hc4' := hc4; try simp only [decide_eq_true_eq, decide_eq_false_iff_not, Bool.not_eq_true', Bool.not_eq_false', Bool.not_eq_true, Bool.not_eq_false] at hc4'
        refine WC.skip ?_
        refine WN.next ?_
        refine WC.region ?_
        refine WL.u rfl rfl (Wt.plain rfl) (Ex.move rfl) ?_
        refine WL.u rfl rfl (Wt.plain rfl) (Ex.move rfl) ?_
        replace hH := hH.f2
        refine WL.append1 (r := rInt) (u := _) Try.underlying24 ty3 rfl rfl (fun _ => rfl) (fun _ => rfl) rfl rfl (Wt.plain rfl) (fun _ => (Wt.plain rfl)) hH ho27 rfl (by omega) (by omega) (fun b27 cap27 cur27 wn x27 hb27 hk27 hH ho27 => ?_)
        refine WL.u rfl rfl (Wt.plain rfl) (Ex.assign rfl) ?_
        refine WL.last ?_
        refine WN.normalBlock ?_
        refine WN.next ?_
        refine WC.region ?_
        refine WL.u rfl rfl (Wt.plain rfl) (Ex.move rfl) ?_
        refine WL.u rfl rfl (Wt.plain rfl) (Ex.add rfl rfl (by omega)) ?_
        refine WL.u rfl rfl (Wt.plain rfl) (Ex.assign rfl) ?_
        refine WL.last ?_
        replace hH := hH.f2
        replace hH := hH.f2
        refine WN.round (i + 1, p + 2, b27, cap27, cur27, z ++ [_]) (by exact ⟨rfl, rfl, rfl, rfl, rfl, rfl, trivial⟩) ?_ ?_
        · exact ⟨hH, ho27, by simp [hzl], by omega, by omega⟩
        · (try dsimp only); omega
      have hc3' := hc3; try simp only [decide_eq_true_eq, decide_eq_false_iff_not, Bool.not_eq_true', Bool.not_eq_false', Bool.not_eq_true, Bool.not_eq_false] at hc3'
      refine WC.skip ?_
      refine WN.next ?_
      refine WC.seq ?_
      refine WC.seq ?_
      refine WC.region ?_
      refine WL.u rfl rfl (Wt.plain rfl) (Ex.move rfl) ?_
      refine WL.call callable72 rfl (Wt.plain rfl) rfl rfl (spick _ _ _ _ _ 30 _ (hH.at 0 rfl) (hc.keepO hH.keep hca) hca hl (by omega) (by omega)) ?_
      rintro _ wn ⟨k42, rfl, hk42, hKK, ho⟩; replace hH := hH.turn hKK ho; clear hKK ho
      refine WL.u rfl rfl (Wt.plain rfl) (Ex.eql rfl rfl) ?_
      refine WL.next ?_
      refine WC.cond rfl (fun hc4 => ?_) (fun hc4 => ?_)
      · have hc4' := hc4; try simp only [decide_eq_true_eq, decide_eq_false_iff_not, Bool.not_eq_true', Bool.not_eq_false', Bool.not_eq_true, Bool.not_eq_false] at hc4'
        refine WC.region ?_
        refine WL.u rfl rfl (Wt.plain rfl) (Ex.move rfl) ?_
        refine WL.u rfl rfl (Wt.plain rfl) (Ex.move rfl) ?_
        refine WL.u rfl rfl (Wt.plain rfl) (Ex.lenSl Try.underlying24 rfl) ?_
        refine WL.u rfl rfl (Wt.plain rfl) ((Ex.add rfl rfl (by omega)).to (congrArg (Value.int IntKind.i64) (show _ = ((ports g + 1 : Nat) : Int) by omega))) ?_
        refine WL.call callable72 rfl (Wt.plain rfl) rfl rfl (spick _ _ _ _ _ (ports g + 1) _ (hH.at 0 rfl) (hc.keepO hH.keep hca) hca hl (by omega) (by omega)) ?_
        rintro _ wn ⟨k48, rfl, hk48, hKK, ho⟩; replace hH := hH.turn hKK ho; clear hKK ho
        refine WL.u rfl rfl (Wt.plain rfl) (Ex.assign rfl) ?_
        refine WL.next ?_
        refine WC.region ?_
        refine WL.u rfl rfl (Wt.plain rfl) (Ex.move rfl) ?_
        refine WL.u rfl rfl (Wt.plain rfl) (Ex.move rfl) ?_
        replace hH := hH.f2
        refine WL.append1 (r := rInt) (u := _) Try.underlying24 ty3 rfl rfl (fun _ => rfl) (fun _ => rfl) rfl rfl (Wt.plain rfl) (fun _ => (Wt.plain rfl)) hH ho27 rfl (by omega) (by omega) (fun b27 cap27 cur27 wn x27 hb27 hk27 hH ho27 => ?_)
        refine WL.u rfl rfl (Wt.plain rfl) (Ex.assign rfl) ?_
        refine WL.last ?_
        refine WN.normalBlock ?_
        refine WN.next ?_
        refine WC.region ?_
        refine WL.u rfl rfl (Wt.plain rfl) (Ex.move rfl) ?_
        refine WL.u rfl rfl (Wt.plain rfl) (Ex.add rfl rfl (by omega)) ?_
        refine WL.u rfl rfl (Wt.plain rfl) (Ex.assign rfl) ?_
        refine WL.last ?_
        replace hH := hH.f2
        replace hH := hH.f2
        refine WN.round (i + 1, p + 3, b27, cap27, cur27, z ++ [_]) (by exact ⟨rfl, rfl, rfl, rfl, rfl, rfl, trivial⟩) ?_ ?_
        · exact ⟨hH, ho27, by simp [hzl], by omega, by omega⟩
        · (try dsimp only); omega
      have hc4' := hc4; try simp only [decide_eq_true_eq, decide_eq_false_iff_not, Bool.not_eq_true', Bool.not_eq_false', Bool.not_eq_true, Bool.not_eq_false] at hc4'
      refine WC.skip ?_
      refine WN.next ?_
      refine WC.region ?_
      refine WL.u rfl rfl (Wt.plain rfl) (Ex.move rfl) ?_
      refine WL.u rfl rfl (Wt.plain rfl) (Ex.move rfl) ?_
      replace hH := hH.f2
      refine WL.append1 (r := rInt) (u := _) Try.underlying24 ty3 rfl rfl (fun _ => rfl) (fun _ => rfl) rfl rfl (Wt.plain rfl) (fun _ => (Wt.plain rfl)) hH ho27 rfl (by omega) (by omega) (fun b27 cap27 cur27 wn x27 hb27 hk27 hH ho27 => ?_)
      refine WL.u rfl rfl (Wt.plain rfl) (Ex.assign rfl) ?_
      refine WL.last ?_
      refine WN.normalBlock ?_
      refine WN.next ?_
      refine WC.region ?_
      refine WL.u rfl rfl (Wt.plain rfl) (Ex.move rfl) ?_
      refine WL.u rfl rfl (Wt.plain rfl) (Ex.add rfl rfl (by omega)) ?_
      refine WL.u rfl rfl (Wt.plain rfl) (Ex.assign rfl) ?_
      refine WL.last ?_
      replace hH := hH.f2
      replace hH := hH.f2
      refine WN.round (i + 1, p + 2, b27, cap27, cur27, z ++ [_]) (by exact ⟨rfl, rfl, rfl, rfl, rfl, rfl, trivial⟩) ?_ ?_
      · exact ⟨hH, ho27, by simp [hzl], by omega, by omega⟩
      · (try dsimp only); omega
    have hc2' := hc2; try simp only [decide_eq_true_eq, decide_eq_false_iff_not, Bool.not_eq_true', Bool.not_eq_false', Bool.not_eq_true, Bool.not_eq_false] at hc2'
    refine WC.exit ?_
    refine WN.exitThen ?_
    refine WN.exitThen ?_
    refine WN.exitHere ?_
    refine WN.next ?_
    refine WC.seq ?_
    refine WC.seq ?_
    refine WC.region ?_
    refine WL.u rfl rfl (Wt.plain rfl) (Ex.move rfl) ?_
    refine WL.call callable72 rfl (Wt.plain rfl) rfl rfl (spick _ _ _ _ _ 40 _ (hH.at 0 rfl) (hc.keepO hH.keep hca) hca hl (by omega) (by omega)) ?_
    rintro _ wn ⟨k54, rfl, hk54, hKK, ho⟩; replace hH := hH.turn hKK ho; clear hKK ho
    refine WL.u rfl rfl (Wt.plain rfl) (Ex.eql rfl rfl) ?_
    refine WL.next ?_
    refine WC.cond rfl (fun hc5 => ?_) (fun hc5 => ?_)
    · have hc5' := hc5; try simp only [decide_eq_true_eq, decide_eq_false_iff_not, Bool.not_eq_true', Bool.not_eq_false', Bool.not_eq_true, Bool.not_eq_false] at hc5'
      refine WC.seq ?_
      refine WC.region ?_
      refine WL.u rfl rfl (Wt.plain rfl) (Ex.move rfl) ?_
      refine WL.u rfl rfl (Wt.plain rfl) (Ex.move rfl) ?_
      refine WL.u rfl rfl (Wt.plain rfl) (Ex.add rfl rfl (by omega)) ?_
      refine WL.u rfl rfl (Wt.plain rfl) (Ex.move rfl) ?_
      refine WL.u rfl rfl (Wt.plain rfl) (Ex.assign rfl) ?_
      refine WL.u rfl rfl (Wt.plain rfl) (Ex.assign rfl) ?_
      refine WL.u rfl rfl (Wt.plain rfl) (Ex.assign rfl) ?_
      refine WL.next ?_
      refine WC.ret ?_
      refine WN.retThen ?_
      refine WN.body3 rfl rfl rfl rfl ?_
      exact ⟨1 + k12, M + 2, _, z, _, rfl, New.of (hH.front 2 rfl) ho27 (hH.base1 2 0 rfl rfl rfl rfl), hH.keep, (hH.at 0 rfl), by omega, by omega⟩
    have hc5' := hc5; try simp only [decide_eq_true_eq, decide_eq_false_iff_not, Bool.not_eq_true', Bool.not_eq_false', Bool.not_eq_true, Bool.not_eq_false] at hc5'
    refine WC.skip ?_
    refine WN.next ?_
    refine WC.seq ?_
    refine WC.region ?_
    refine WL.u rfl rfl (Wt.plain rfl) (Ex.move rfl) ?_
    refine WL.u rfl rfl (Wt.plain rfl) (Ex.move rfl) ?_
    refine WL.u rfl rfl (Wt.plain rfl) (Ex.move rfl) ?_
    refine WL.u rfl rfl (Wt.plain rfl) (Ex.assign rfl) ?_
    refine WL.u rfl rfl (Wt.plain rfl) (Ex.assign rfl) ?_
    refine WL.u rfl rfl (Wt.plain rfl) (Ex.assign rfl) ?_
    refine WL.next ?_
    refine WC.ret ?_
    refine WN.body3 rfl rfl rfl rfl ?_
    exact ⟨1 + k12, M, _, z, _, rfl, New.of (hH.front 2 rfl) ho27 (hH.base1 2 0 rfl rfl rfl rfl), hH.keep, (hH.at 0 rfl), by omega, by omega⟩
  have hc1' := hc1; try simp only [decide_eq_true_eq, decide_eq_false_iff_not, Bool.not_eq_true', Bool.not_eq_false', Bool.not_eq_true, Bool.not_eq_false] at hc1'
  refine WC.skip ?_
  refine WN.next ?_
  refine WC.seq ?_
  refine WC.region ?_
  refine WL.u rfl rfl (Wt.plain rfl) (Ex.move rfl) ?_
  refine WL.u rfl rfl (Wt.plain rfl) (Ex.move rfl) ?_
  refine WL.u rfl rfl (Wt.plain rfl) (Ex.move rfl) ?_
  refine WL.call callable95 rfl (Wt.plain rfl) rfl rfl (sl91OfL _ _ _ _ _ (1 + k12) (1 + k15) _ (hH.at 0 rfl) (hc.keepO hH.keep hca) hca hl (by omega) (by omega) (by omega)) ?_
  rintro _ wn ⟨g, q, hN, hgl, hgr, hKK, ho, hq, hgo⟩; obtain ⟨b25, cap25, cur25, rfl, hge25, hbb25, ho25⟩ := hN.own; replace hH := hH.turnPush hKK ho hge25 hbb25; clear hKK ho hN; obtain ⟨hG, hnR, hnC⟩ := gridOk_rows (m := 1 + k15) hgl hgr hgo (by omega) (by omega) (by omega) (by omega); have hpo : ports g = 2 * (1 + k12) + 2 * (1 + k15) := (by unfold ports; rw [hnR, hnC])
  refine WL.call callable55 rfl (Wt.plain rfl) rfl rfl (sl2Pairs g _ _ _ (ho25.slAt hH 0 rfl) hG) ?_
  rintro _ wn ⟨hC, hN⟩; obtain ⟨b26, cap26, cur26, rfl, hge26, hbb26, ho26⟩ := hN.own; rw [pairsI_len]; replace hH := hH.push hC (by have := hge26; omega) hbb26; clear hC hN
  refine WL.u rfl rfl (Wt.plain rfl) (Ex.assign rfl) ?_
  refine WL.next ?_
  refine WC.seq ?_
  refine WC.region ?_
  refine WL.lit0 Try.underlying24 ty3 rfl (Wt.plain rfl) hH (fun b27 wn hb27 hk27 hH => ?_)
  have ho27 := Own.nil rInt
  refine WL.u rfl rfl (Wt.plain rfl) (Ex.assign rfl) ?_
  refine WL.next ?_
  refine WC.seq ?_
  refine WC.seq ?_
  refine WC.region ?_
  refine WL.u rfl rfl (Wt.plain rfl) (Ex.assign rfl) ?_
  refine WL.next ?_
  refine WC.block ?_
  replace hH := hH.f1
  replace hH := hH.f3
  refine WC.loop (ι := Nat × Nat × Nat × Nat × (Array Value) × (List Int)) (fun (i, p, b27, cap27, cur27, z) => [(0, vptr r 0), (5, vint (1 + k12 : Nat)), (6, vint (1 + k15 : Nat)), (7, vsl b26 (ports g) cap26), (8, vsl b27 z.length cap27), (9, vint i)]) (fun (i, p, b27, cap27, cur27, z) wn => Hp [r] w wn [(r, rdo a l.length cap p), (b26, .cells cur26 3 (0, 0)), (b27, .cells cur27 3 (0, 0))] ∧ Own rInt cur27 cap27 z ∧ z.length = i ∧ i ≤ ports g ∧ p ≤ p0 + 210 + 3 * i) (fun (i, p, b27, cap27, cur27, z) => ports g - i) ((0, q, b27, 0, #[], [])) (by exact ⟨rfl, rfl, rfl, rfl, rfl, rfl, trivial⟩) ?_ ?_
  · exact ⟨hH.first3, ho27, rfl, Nat.zero_le _, by omega⟩
  rintro ⟨i, p, b27, cap27, cur27, z⟩ wn ⟨hH, ho27, hzl, hi, hp⟩
  intro mu0 hmu; try dsimp only at hmu
  show WC _ _ _ _ [(0, vptr r 0), (5, vint (1 + k12 : Nat)), (6, vint (1 + k15 : Nat)), (7, vsl b26 (ports g) cap26), (8, vsl b27 z.length cap27), (9, vint i)] _
  refine WC.seq ?_
  refine WC.seq ?_
  refine WC.region ?_
  refine WL.u rfl rfl (Wt.plain rfl) (Ex.move rfl) ?_
  refine WL.u rfl rfl (Wt.plain rfl) (Ex.move rfl) ?_
  refine WL.u rfl rfl (Wt.plain rfl) (Ex.lenSl Try.underlying24 rfl) ?_
  refine WL.u rfl rfl (Wt.plain rfl) (Ex.lss rfl rfl) ?_
  refine WL.next ?_
  refine WC.cond rfl (fun hc2 => ?_) (fun hc2 => ?_)
  · have hc2' := hc2; try simp only [decide_eq_true_eq, decide_eq_false_iff_not, Bool.not_eq_true', Bool.not_eq_false', Bool.not_eq_true, Bool.not_eq_false] at hc2'
    have hlt : i < ports g := by omega
    refine WC.skip ?_
    refine WN.next ?_
    refine WC.seq ?_
    refine WC.block ?_
    refine WC.seq ?_
    refine WC.region ?_
    refine WL.u rfl rfl (Wt.plain rfl) (Ex.assign rfl) ?_
    refine WL.next ?_
    refine WC.seq ?_
    refine WC.seq ?_
    refine WC.region ?_
    refine WL.u rfl rfl (Wt.plain rfl) (Ex.move rfl) ?_
    refine WL.call callable72 rfl (Wt.plain rfl) rfl rfl (spick _ _ _ _ _ 3 _ (hH.at 0 rfl) (hc.keepO hH.keep hca) hca hl (by omega) (by omega)) ?_
    rintro _ wn ⟨k35, rfl, hk35, hKK, ho⟩; replace hH := hH.turn hKK ho; clear hKK ho
    refine WL.u rfl rfl (Wt.plain rfl) (Ex.eql rfl rfl) ?_
    refine WL.next ?_
    refine WC.cond rfl (fun hc3 => ?_) (fun hc3 => ?_)
    · have hc3' := hc3; try simp only [decide_eq_true_eq, decide_eq_false_iff_not, Bool.not_eq_true', Bool.not_eq_false', Bool.not_eq_true, Bool.not_eq_false] at hc3'
      refine WC.region ?_
      refine WL.u rfl rfl (Wt.plain rfl) (Ex.move rfl) ?_
      refine WL.u rfl rfl (Wt.plain rfl) (Ex.move rfl) ?_
      refine WL.u rfl rfl (Wt.plain rfl) (Ex.indexAddr Try.underlying24 ty3 rfl rfl (by omega)) ?_
      replace hH := hH.f1
      refine WL.u rfl rfl (Wt.plain rfl) (Ex.loadHp flat3 rfl hH (ho26.get rfl (getD_get (pairsI g) i 0 (by rw [pairsI_len]; exact hlt)))) ?_
      refine WL.u rfl rfl (Wt.plain rfl) (Ex.assign rfl) ?_
      refine WL.next ?_
      refine WC.seq ?_
      refine WC.seq ?_
      refine WC.region ?_
      refine WL.u rfl rfl (Wt.plain rfl) (Ex.move rfl) ?_
      replace hH := hH.f1
      refine WL.call callable72 rfl (Wt.plain rfl) rfl rfl (spick _ _ _ _ _ 30 _ (hH.at 0 rfl) (hc.keepO hH.keep hca) hca hl (by omega) (by omega)) ?_
      rintro _ wn ⟨k42, rfl, hk42, hKK, ho⟩; replace hH := hH.turn hKK ho; clear hKK ho
      refine WL.u rfl rfl (Wt.plain rfl) (Ex.eql rfl rfl) ?_
      refine WL.next ?_
      refine WC.cond rfl (fun hc4 => ?_) (fun hc4 => ?_)
      · have hc4' := hc4; try simp only [decide_eq_true_eq, decide_eq_false_iff_not, Bool.not_eq_true', Bool.not_eq_false', Bool.not_eq_true, Bool.not_eq_false] at hc4'
        refine WC.region ?_
        refine WL.u rfl rfl (Wt.plain rfl) (Ex.move rfl) ?_
        refine WL.u rfl rfl (Wt.plain rfl) (Ex.move rfl) ?_
        refine WL.u rfl rfl (Wt.plain rfl) (Ex.lenSl Try.underlying24 rfl) ?_
        refine WL.u rfl rfl (Wt.plain rfl) ((Ex.add rfl rfl (by omega)).to (congrArg (Value.int IntKind.i64) (show _ = ((ports g + 1 : Nat) : Int) by omega))) ?_
        refine WL.call callable72 rfl (Wt.plain rfl) rfl rfl (spick _ _ _ _ _ (ports g + 1) _ (hH.at 0 rfl) (hc.keepO hH.keep hca) hca hl (by omega) (by omega)) ?_
        rintro _ wn ⟨k48, rfl, hk48, hKK, ho⟩; replace hH := hH.turn hKK ho; clear hKK ho
        refine WL.u rfl rfl (Wt.plain rfl) (Ex.assign rfl) ?_
        refine WL.next ?_
        refine WC.region ?_
        refine WL.u rfl rfl (Wt.plain rfl) (Ex.move rfl) ?_
        refine WL.u rfl rfl (Wt.plain rfl) (Ex.move rfl) ?_
        replace hH := hH.f2
        refine WL.append1 (r := rInt) (u := _) Try.underlying24 ty3 rfl rfl (fun _ => rfl) (fun _ => rfl) rfl rfl (Wt.plain rfl) (fun _ => (Wt.plain rfl)) hH ho27 rfl (by omega) (by omega) (fun b27 cap27 cur27 wn x27 hb27 hk27 hH ho27 => ?_)
        refine WL.u rfl rfl (Wt.plain rfl) (Ex.assign rfl) ?_
        refine WL.last ?_
        refine WN.normalBlock ?_
        refine WN.next ?_
        refine WC.region ?_
        refine WL.u rfl rfl (Wt.plain rfl) (Ex.move rfl) ?_
        refine WL.u rfl rfl (Wt.plain rfl) (Ex.add rfl rfl (by omega)) ?_
        refine WL.u rfl rfl (Wt.plain rfl) (Ex.assign rfl) ?_
        refine WL.last ?_
        replace hH := hH.f2
        replace hH := hH.f2
        refine WN.round (i + 1, p + 3, b27, cap27, cur27, z ++ [_]) (by exact ⟨rfl, rfl, rfl, rfl, rfl, rfl, trivial⟩) ?_ ?_
        · exact ⟨hH, ho27, by simp [hzl], by omega, by omega⟩
        · (try dsimp only); omega
      have hc4' := hc4; try simp only [decide_eq_true_eq, decide_eq_false_iff_not, Bool.not_eq_true', Bool.not_eq_false', Bool.not_eq_true, Bool.not_eq_false] at hc4'
      refine WC.skip ?_
      refine WN.next ?_
      refine WC.region ?_
      refine WL.u rfl rfl (Wt.plain rfl) (Ex.move rfl) ?_
      refine WL.u rfl rfl (Wt.plain rfl) (Ex.move rfl) ?_
      replace hH := hH.f2
      refine WL.append1 (r := rInt) (u := _) Try.underlying24 ty3 rfl rfl (fun _ => rfl) (fun _ => rfl) rfl rfl (Wt.plain rfl) (fun _ => (Wt.plain rfl)) hH ho27 rfl (by omega) (by omega) (fun b27 cap27 cur27 wn x27 hb27 hk27 hH ho27 => ?_)
      refine WL.u rfl rfl (Wt.plain rfl) (Ex.assign rfl) ?_
      refine WL.last ?_
      refine WN.normalBlock ?_
      refine WN.next ?_
      refine WC.region ?_
      refine WL.u rfl rfl (Wt.plain rfl) (Ex.move rfl) ?_
      refine WL.u rfl rfl (Wt.plain rfl) (Ex.add rfl rfl (by omega)) ?_
      refine WL.u rfl rfl (Wt.plain rfl) (Ex.assign rfl) ?_
      refine WL.last ?_
      replace hH := hH.f2
      replace hH := hH.f2
      refine WN.round (i + 1, p + 2, b27, cap27, cur27, z ++ [_]) (by exact ⟨rfl, rfl, rfl, rfl, rfl, rfl, trivial⟩) ?_ ?_
      · exact ⟨hH, ho27, by simp [hzl], by omega, by omega⟩
      · (try dsimp only); omega
    have hc3' := hc3; try simp only [decide_eq_true_eq, decide_eq_false_iff_not, Bool.not_eq_true', Bool.not_eq_false', Bool.not_eq_true, Bool.not_eq_false] at hc3'
    refine WC.skip ?_
    refine WN.next ?_
    refine WC.seq ?_
    refine WC.seq ?_
    refine WC.region ?_
    refine WL.u rfl rfl (Wt.plain rfl) (Ex.move rfl) ?_
    refine WL.call callable72 rfl (Wt.plain rfl) rfl rfl (spick _ _ _ _ _ 30 _ (hH.at 0 rfl) (hc.keepO hH.keep hca) hca hl (by omega) (by omega)) ?_
    rintro _ wn ⟨k42, rfl, hk42, hKK, ho⟩; replace hH := hH.turn hKK ho; clear hKK ho
    refine WL.u rfl rfl (Wt.plain rfl) (Ex.eql rfl rfl) ?_
    refine WL.next ?_
    refine WC.cond rfl (fun hc4 => ?_) (fun hc4 => ?_)
    · have hc4' := hc4; try simp only [decide_eq_true_eq, decide_eq_false_iff_not, Bool.not_eq_true', Bool.not_eq_false', Bool.not_eq_true, Bool.not_eq_false] at hc4'
      refine WC.region ?_
      refine WL.u rfl rfl (Wt.plain rfl) (Ex.move rfl) ?_
      refine WL.u rfl rfl (Wt.plain rfl) (Ex.move rfl) ?_
      refine WL.u rfl rfl (Wt.plain rfl) (Ex.lenSl Try.underlying24 rfl) ?_
      refine WL.u rfl rfl (Wt.plain rfl) ((Ex.add rfl rfl (by omega)).to (congrArg (Value.int IntKind.i64) (show _ = ((ports g + 1 : Nat) : Int) by omega))) ?_
      refine WL.call callable72 rfl (Wt.plain rfl) rfl rfl (spick _ _ _ _ _ (ports g + 1) _ (hH.at 0 rfl) (hc.keepO hH.keep hca) hca hl (by omega) (by omega)) ?_
      rintro _ wn ⟨k48, rfl, hk48, hKK, ho⟩; replace hH := hH.turn hKK ho; clear hKK ho
      refine WL.u rfl rfl (Wt.plain rfl) (Ex.assign rfl) ?_
      refine WL.next ?_
      refine WC.region ?_
      refine WL.u rfl rfl (Wt.plain rfl) (Ex.move rfl) ?_
      refine WL.u rfl rfl (Wt.plain rfl) (Ex.move rfl) ?_
      replace hH := hH.f2
      refine WL.append1 (r := rInt) (u := _) Try.underlying24 ty3 rfl rfl (fun _ => rfl) (fun _ => rfl) rfl rfl (Wt.plain rfl) (fun _ => (Wt.plain rfl)) hH ho27 rfl (by omega) (by omega) (fun b27 cap27 cur27 wn x27 hb27 hk27 hH ho27 => ?_)
      refine WL.u rfl rfl (Wt.plain rfl) (Ex.assign rfl) ?_
      refine WL.last ?_
      refine WN.normalBlock ?_
      refine WN.next ?_
      refine WC.region ?_
      refine WL.u rfl rfl (Wt.plain rfl) (Ex.move rfl) ?_
      refine WL.u rfl rfl (Wt.plain rfl) (Ex.add rfl rfl (by omega)) ?_
      refine WL.u rfl rfl (Wt.plain rfl) (Ex.assign rfl) ?_
      refine WL.last ?_
      replace hH := hH.f2
      replace hH := hH.f2
      refine WN.round (i + 1, p + 3, b27, cap27, cur27, z ++ [_]) (by exact ⟨rfl, rfl, rfl, rfl, rfl, rfl, trivial⟩) ?_ ?_
      · exact ⟨hH, ho27, by simp [hzl], by omega, by omega⟩
      · (try dsimp only); omega
    have hc4' := hc4; try simp only [decide_eq_true_eq, decide_eq_false_iff_not, Bool.not_eq_true', Bool.not_eq_false', Bool.not_eq_true, Bool.not_eq_false] at hc4'
    refine WC.skip ?_
    refine WN.next ?_
    refine WC.region ?_
    refine WL.u rfl rfl (Wt.plain rfl) (Ex.move rfl) ?_
    refine WL.u rfl rfl (Wt.plain rfl) (Ex.move rfl) ?_
    replace hH := hH.f2
    refine WL.append1 (r := rInt) (u := _) Try.underlying24 ty3 rfl rfl (fun _ => rfl) (fun _ => rfl) rfl rfl (Wt.plain rfl) (fun _ => (Wt.plain rfl)) hH ho27 rfl (by omega) (by omega) (fun b27 cap27 cur27 wn x27 hb27 hk27 hH ho27 => ?_)
    refine WL.u rfl rfl (Wt.plain rfl) (Ex.assign rfl) ?_
    refine WL.last ?_
    refine WN.normalBlock ?_
    refine WN.next ?_
    refine WC.region ?_
    refine WL.u rfl rfl (Wt.plain rfl) (Ex.move rfl) ?_
    refine WL.u rfl rfl (Wt.plain rfl) (Ex.add rfl rfl (by omega)) ?_
    refine WL.u rfl rfl (Wt.plain rfl) (Ex.assign rfl) ?_
    refine WL.last ?_
    replace hH := hH.f2
    replace hH := hH.f2
    refine WN.round (i + 1, p + 2, b27, cap27, cur27, z ++ [_]) (by exact ⟨rfl, rfl, rfl, rfl, rfl, rfl, trivial⟩) ?_ ?_
    · exact ⟨hH, ho27, by simp [hzl], by omega, by omega⟩
    · (try dsimp only); omega
  have hc2' := hc2; try simp only [decide_eq_true_eq, decide_eq_false_iff_not, Bool.not_eq_true', Bool.not_eq_false', Bool.not_eq_true, Bool.not_eq_false] at hc2'
  refine WC.exit ?_
  refine WN.exitThen ?_
  refine WN.exitThen ?_
  refine WN.exitHere ?_
  refine WN.next ?_
  refine WC.seq ?_
  refine WC.seq ?_
  refine WC.region ?_
  refine WL.u rfl rfl (Wt.plain rfl) (Ex.move rfl) ?_
  refine WL.call callable72 rfl (Wt.plain rfl) rfl rfl (spick _ _ _ _ _ 40 _ (hH.at 0 rfl) (hc.keepO hH.keep hca) hca hl (by omega) (by omega)) ?_
  rintro _ wn ⟨k54, rfl, hk54, hKK, ho⟩; replace hH := hH.turn hKK ho; clear hKK ho
  refine WL.u rfl rfl (Wt.plain rfl) (Ex.eql rfl rfl) ?_
  refine WL.next ?_
  refine WC.cond rfl (fun hc5 => ?_) (fun hc5 => ?_)
  · have hc5' := hc5; try simp only [decide_eq_true_eq, decide_eq_false_iff_not, Bool.not_eq_true', Bool.not_eq_false', Bool.not_eq_true, Bool.not_eq_false] at hc5'
    refine WC.seq ?_
    refine WC.region ?_
    refine WL.u rfl rfl (Wt.plain rfl) (Ex.move rfl) ?_
    refine WL.u rfl rfl (Wt.plain rfl) (Ex.move rfl) ?_
    refine WL.u rfl rfl (Wt.plain rfl) (Ex.add rfl rfl (by omega)) ?_
    refine WL.u rfl rfl (Wt.plain rfl) (Ex.move rfl) ?_
    refine WL.u rfl rfl (Wt.plain rfl) (Ex.assign rfl) ?_
    refine WL.u rfl rfl (Wt.plain rfl) (Ex.assign rfl) ?_
    refine WL.u rfl rfl (Wt.plain rfl) (Ex.assign rfl) ?_
    refine WL.next ?_
    refine WC.ret ?_
    refine WN.retThen ?_
    refine WN.body3 rfl rfl rfl rfl ?_
    exact ⟨1 + k12, 1 + k15 + 2, _, z, _, rfl, New.of (hH.front 2 rfl) ho27 (hH.base1 2 0 rfl rfl rfl rfl), hH.keep, (hH.at 0 rfl), by omega, by omega⟩
  have hc5' := hc5; try simp only [decide_eq_true_eq, decide_eq_false_iff_not, Bool.not_eq_true', Bool.not_eq_false', Bool.not_eq_true, Bool.not_eq_false] at hc5'
  refine WC.skip ?_
  refine WN.next ?_
  refine WC.seq ?_
  refine WC.region ?_
  refine WL.u rfl rfl (Wt.plain rfl) (Ex.move rfl) ?_
  refine WL.u rfl rfl (Wt.plain rfl) (Ex.move rfl) ?_
  refine WL.u rfl rfl (Wt.plain rfl) (Ex.move rfl) ?_
  refine WL.u rfl rfl (Wt.plain rfl) (Ex.assign rfl) ?_
  refine WL.u rfl rfl (Wt.plain rfl) (Ex.assign rfl) ?_
  refine WL.u rfl rfl (Wt.plain rfl) (Ex.assign rfl) ?_
  refine WL.next ?_
  refine WC.ret ?_
  refine WN.body3 rfl rfl rfl rfl ?_
  exact ⟨1 + k12, 1 + k15, _, z, _, rfl, New.of (hH.front 2 rfl) ho27 (hH.base1 2 0 rfl rfl rfl rfl), hH.keep, (hH.at 0 rfl), by omega, by omega⟩

theorem sl92Asked (a : Option Addr) (l : List UInt8) (cap : Nat) (w : World) (hc : Sl rByte w a l) (hcap : l.length ≤ cap) : Fn Try.prog 68 [.slice a l.length cap] w (fun v w1 => ∃ (n m : Nat) (ans : List Int) (x : Value), v = .tuple #[vint n, vint m, x] ∧ Keep [] w w1 ∧ New rInt 3 w w1 x ans ∧ (1 ≤ n ∧ n ≤ 2 ∧ 1 ≤ m ∧ m ≤ 6 ∧ ans.length ≤ 12)) := by
  refine Fn.enter (n := 11) Try.func68 rfl rfl rfl ?_
  show WC _ _ _ _ [(0, .slice a l.length cap)] _
  have hH := Hp.start [] w
  replace hc := hc.take 2000
  have hl := List.length_take_le 2000 l
  refine WC.seq ?_
  refine WC.region ?_
  refine WL.u rfl rfl (Wt.plain rfl) (Ex.assign rfl) ?_
  refine WL.u rfl rfl (Wt.plain rfl) (Ex.assign rfl) ?_
  refine WL.u rfl rfl (Wt.plain rfl) (Ex.assign rfl) ?_
  refine WL.next ?_
  refine WC.seq ?_
  refine WC.region ?_
  refine WL.u rfl rfl (Wt.plain rfl) (Ex.move rfl) ?_
  refine WL.call callable70 rfl (Wt.plain rfl) rfl rfl (sl6Open _ _ _ _ hcap) ?_
  rintro _ wn ⟨r, rfl, hrn, hC, hro⟩; have hca := (hc.kept hH.keep).offNew hrn; replace hH := hH.push hC hrn hro; clear hC hro
  refine WL.call callable75 rfl (Wt.plain rfl) rfl rfl (sl92Answers _ _ _ _ _  _ (hH.at 0 rfl) (hc.kept hH.keep) hca hl (by omega) ) ?_
  rintro _ wn ⟨n, m, q, ans, x, rfl, hN, hKK, ho, hsz, hq⟩; obtain ⟨b7, cap7, cur7, rfl, hge7, hbb7, ho7⟩ := hN.own; replace hH := hH.turnPush hKK ho hge7 hbb7; clear hKK ho hN
  refine WL.u rfl rfl (Wt.plain rfl) (Ex.extract rfl rfl) ?_
  refine WL.u rfl rfl (Wt.plain rfl) (Ex.extract rfl rfl) ?_
  refine WL.u rfl rfl (Wt.plain rfl) (Ex.extract rfl rfl) ?_
  refine WL.u rfl rfl (Wt.plain rfl) (Ex.assign rfl) ?_
  refine WL.u rfl rfl (Wt.plain rfl) (Ex.assign rfl) ?_
  refine WL.u rfl rfl (Wt.plain rfl) (Ex.assign rfl) ?_
  refine WL.next ?_
  refine WC.ret ?_
  refine WN.body3 rfl rfl rfl rfl ?_
  exact ⟨n, m, ans, _, rfl, hH.keep, New.of (hH.front 0 rfl) ho7 (hH.base 0 rfl), hsz⟩

theorem sDrawAskFit (a : Option Addr) (l : List UInt8) (cap : Nat) (w : World) (hc : Sl rByte w a l) (hcap : l.length ≤ cap) : Fn Try.prog 33 [.slice a l.length cap] w (fun v w1 => ∃ (n m : Nat) (ans : List Int) (x : Value), v = .tuple #[vint n, vint m, x] ∧ Keep [] w w1 ∧ New rInt 3 w w1 x ans ∧ (1 ≤ n ∧ n ≤ 2 ∧ 1 ≤ m ∧ m ≤ 6 ∧ ans.length ≤ 12)) := by
  refine Fn.enter (n := 10) Try.func33 rfl rfl rfl ?_
  show WC _ _ _ _ [(0, .slice a l.length cap)] _
  have hH := Hp.start [] w
  refine WC.seq ?_
  refine WC.region ?_
  refine WL.u rfl rfl (Wt.plain rfl) (Ex.assign rfl) ?_
  refine WL.u rfl rfl (Wt.plain rfl) (Ex.assign rfl) ?_
  refine WL.u rfl rfl (Wt.plain rfl) (Ex.assign rfl) ?_
  refine WL.next ?_
  refine WC.seq ?_
  refine WC.region ?_
  refine WL.u rfl rfl (Wt.plain rfl) (Ex.move rfl) ?_
  refine WL.call callable68 rfl (Wt.plain rfl) rfl rfl (sl92Asked _ _ _ _ (hc.kept hH.keep) hcap) ?_
  rintro _ wn ⟨n, m, ans, x, rfl, hC, hN, hsz⟩; obtain ⟨b6, cap6, cur6, rfl, hge6, hbb6, ho6⟩ := hN.own; replace hH := hH.push hC hge6 hbb6; clear hC hN
  refine WL.u rfl rfl (Wt.plain rfl) (Ex.extract rfl rfl) ?_
  refine WL.u rfl rfl (Wt.plain rfl) (Ex.extract rfl rfl) ?_
  refine WL.u rfl rfl (Wt.plain rfl) (Ex.extract rfl rfl) ?_
  refine WL.u rfl rfl (Wt.plain rfl) (Ex.assign rfl) ?_
  refine WL.u rfl rfl (Wt.plain rfl) (Ex.assign rfl) ?_
  refine WL.u rfl rfl (Wt.plain rfl) (Ex.assign rfl) ?_
  refine WL.next ?_
  refine WC.ret ?_
  refine WN.body3 rfl rfl rfl rfl ?_
  exact ⟨n, m, ans, _, rfl, hH.keep, New.of (hH.front 0 rfl) ho6 (hH.base 0 rfl), hsz⟩

theorem sDrawAskFirst (a : Option Addr) (l : List UInt8) (cap : Nat) (w : World) (hc : Sl rByte w a l) (hcap : l.length ≤ cap) : Fn Try.prog 44 [.slice a l.length cap] w (fun v w1 => ∃ (n m : Nat) (ans : List Int) (x : Value), v = .tuple #[vint n, vint m, x] ∧ Keep [] w w1 ∧ New rInt 3 w w1 x ans ∧ (1 ≤ n ∧ n ≤ 2 ∧ 1 ≤ m ∧ m ≤ 6 ∧ ans.length ≤ 12)) := by
  refine Fn.enter (n := 10) Try.func44 rfl rfl rfl ?_
  show WC _ _ _ _ [(0, .slice a l.length cap)] _
  have hH := Hp.start [] w
  refine WC.seq ?_
  refine WC.region ?_
  refine WL.u rfl rfl (Wt.plain rfl) (Ex.assign rfl) ?_
  refine WL.u rfl rfl (Wt.plain rfl) (Ex.assign rfl) ?_
  refine WL.u rfl rfl (Wt.plain rfl) (Ex.assign rfl) ?_
  refine WL.next ?_
  refine WC.seq ?_
  refine WC.region ?_
  refine WL.u rfl rfl (Wt.plain rfl) (Ex.move rfl) ?_
  refine WL.call callable68 rfl (Wt.plain rfl) rfl rfl (sl92Asked _ _ _ _ (hc.kept hH.keep) hcap) ?_
  rintro _ wn ⟨n, m, ans, x, rfl, hC, hN, hsz⟩; obtain ⟨b6, cap6, cur6, rfl, hge6, hbb6, ho6⟩ := hN.own; replace hH := hH.push hC hge6 hbb6; clear hC hN
  refine WL.u rfl rfl (Wt.plain rfl) (Ex.extract rfl rfl) ?_
  refine WL.u rfl rfl (Wt.plain rfl) (Ex.extract rfl rfl) ?_
  refine WL.u rfl rfl (Wt.plain rfl) (Ex.extract rfl rfl) ?_
  refine WL.u rfl rfl (Wt.plain rfl) (Ex.assign rfl) ?_
  refine WL.u rfl rfl (Wt.plain rfl) (Ex.assign rfl) ?_
  refine WL.u rfl rfl (Wt.plain rfl) (Ex.assign rfl) ?_
  refine WL.next ?_
  refine WC.ret ?_
  refine WN.body3 rfl rfl rfl rfl ?_
  exact ⟨n, m, ans, _, rfl, hH.keep, New.of (hH.front 0 rfl) ho6 (hH.base 0 rfl), hsz⟩

theorem sDrawAskBest (a : Option Addr) (l : List UInt8) (cap : Nat) (w : World) (hc : Sl rByte w a l) (hcap : l.length ≤ cap) : Fn Try.prog 43 [.slice a l.length cap] w (fun v w1 => ∃ (n m : Nat) (ans : List Int) (x : Value), v = .tuple #[vint n, vint m, x] ∧ Keep [] w w1 ∧ New rInt 3 w w1 x ans ∧ (1 ≤ n ∧ n ≤ 2 ∧ 1 ≤ m ∧ m ≤ 6 ∧ ans.length ≤ 12)) := by
  refine Fn.enter (n := 10) Try.func43 rfl rfl rfl ?_
  show WC _ _ _ _ [(0, .slice a l.length cap)] _
  have hH := Hp.start [] w
  refine WC.seq ?_
  refine WC.region ?_
  refine WL.u rfl rfl (Wt.plain rfl) (Ex.assign rfl) ?_
  refine WL.u rfl rfl (Wt.plain rfl) (Ex.assign rfl) ?_
  refine WL.u rfl rfl (Wt.plain rfl) (Ex.assign rfl) ?_
  refine WL.next ?_
  refine WC.seq ?_
  refine WC.region ?_
  refine WL.u rfl rfl (Wt.plain rfl) (Ex.move rfl) ?_
  refine WL.call callable68 rfl (Wt.plain rfl) rfl rfl (sl92Asked _ _ _ _ (hc.kept hH.keep) hcap) ?_
  rintro _ wn ⟨n, m, ans, x, rfl, hC, hN, hsz⟩; obtain ⟨b6, cap6, cur6, rfl, hge6, hbb6, ho6⟩ := hN.own; replace hH := hH.push hC hge6 hbb6; clear hC hN
  refine WL.u rfl rfl (Wt.plain rfl) (Ex.extract rfl rfl) ?_
  refine WL.u rfl rfl (Wt.plain rfl) (Ex.extract rfl rfl) ?_
  refine WL.u rfl rfl (Wt.plain rfl) (Ex.extract rfl rfl) ?_
  refine WL.u rfl rfl (Wt.plain rfl) (Ex.assign rfl) ?_
  refine WL.u rfl rfl (Wt.plain rfl) (Ex.assign rfl) ?_
  refine WL.u rfl rfl (Wt.plain rfl) (Ex.assign rfl) ?_
  refine WL.next ?_
  refine WC.ret ?_
  refine WN.body3 rfl rfl rfl rfl ?_
  exact ⟨n, m, ans, _, rfl, hH.keep, New.of (hH.front 0 rfl) ho6 (hH.base 0 rfl), hsz⟩

theorem sDrawAskSure (a : Option Addr) (l : List UInt8) (cap : Nat) (w : World) (hc : Sl rByte w a l) (hcap : l.length ≤ cap) : Fn Try.prog 47 [.slice a l.length cap] w (fun v w1 => ∃ (n m : Nat) (ans : List Int) (x : Value), v = .tuple #[vint n, vint m, x] ∧ Keep [] w w1 ∧ New rInt 3 w w1 x ans ∧ (1 ≤ n ∧ n ≤ 2 ∧ 1 ≤ m ∧ m ≤ 6 ∧ ans.length ≤ 12)) := by
  refine Fn.enter (n := 10) Try.func47 rfl rfl rfl ?_
  show WC _ _ _ _ [(0, .slice a l.length cap)] _
  have hH := Hp.start [] w
  refine WC.seq ?_
  refine WC.region ?_
  refine WL.u rfl rfl (Wt.plain rfl) (Ex.assign rfl) ?_
  refine WL.u rfl rfl (Wt.plain rfl) (Ex.assign rfl) ?_
  refine WL.u rfl rfl (Wt.plain rfl) (Ex.assign rfl) ?_
  refine WL.next ?_
  refine WC.seq ?_
  refine WC.region ?_
  refine WL.u rfl rfl (Wt.plain rfl) (Ex.move rfl) ?_
  refine WL.call callable68 rfl (Wt.plain rfl) rfl rfl (sl92Asked _ _ _ _ (hc.kept hH.keep) hcap) ?_
  rintro _ wn ⟨n, m, ans, x, rfl, hC, hN, hsz⟩; obtain ⟨b6, cap6, cur6, rfl, hge6, hbb6, ho6⟩ := hN.own; replace hH := hH.push hC hge6 hbb6; clear hC hN
  refine WL.u rfl rfl (Wt.plain rfl) (Ex.extract rfl rfl) ?_
  refine WL.u rfl rfl (Wt.plain rfl) (Ex.extract rfl rfl) ?_
  refine WL.u rfl rfl (Wt.plain rfl) (Ex.extract rfl rfl) ?_
  refine WL.u rfl rfl (Wt.plain rfl) (Ex.assign rfl) ?_
  refine WL.u rfl rfl (Wt.plain rfl) (Ex.assign rfl) ?_
  refine WL.u rfl rfl (Wt.plain rfl) (Ex.assign rfl) ?_
  refine WL.next ?_
  refine WC.ret ?_
  refine WN.body3 rfl rfl rfl rfl ?_
  exact ⟨n, m, ans, _, rfl, hH.keep, New.of (hH.front 0 rfl) ho6 (hH.base 0 rfl), hsz⟩

theorem sDrawAskWorst (a : Option Addr) (l : List UInt8) (cap : Nat) (w : World) (hc : Sl rByte w a l) (hcap : l.length ≤ cap) : Fn Try.prog 42 [.slice a l.length cap] w (fun v w1 => ∃ (n m : Nat) (ans : List Int) (port : Int) (x : Value), v = .tuple #[vint n, vint m, x, vint port] ∧ Keep [] w w1 ∧ New rInt 3 w w1 x ans ∧ (1 ≤ n ∧ n ≤ 2 ∧ 1 ≤ m ∧ m ≤ 6 ∧ ans.length ≤ 12)) := by
  refine Fn.enter (n := 33) Try.func42 rfl rfl rfl ?_
  show WC _ _ _ _ [(0, .slice a l.length cap)] _
  have hH := Hp.start [] w
  replace hc := hc.take 2000
  have hl := List.length_take_le 2000 l
  refine WC.seq ?_
  refine WC.region ?_
  refine WL.u rfl rfl (Wt.plain rfl) (Ex.assign rfl) ?_
  refine WL.u rfl rfl (Wt.plain rfl) (Ex.assign rfl) ?_
  refine WL.u rfl rfl (Wt.plain rfl) (Ex.assign rfl) ?_
  refine WL.u rfl rfl (Wt.plain rfl) (Ex.assign rfl) ?_
  refine WL.next ?_
  refine WC.seq ?_
  refine WC.region ?_
  refine WL.u rfl rfl (Wt.plain rfl) (Ex.move rfl) ?_
  refine WL.call callable70 rfl (Wt.plain rfl) rfl rfl (sl6Open _ _ _ _ hcap) ?_
  rintro _ wn ⟨r, rfl, hrn, hC, hro⟩; have hca := (hc.kept hH.keep).offNew hrn; replace hH := hH.push hC hrn hro; clear hC hro
  refine WL.u rfl rfl (Wt.plain rfl) (Ex.assign rfl) ?_
  refine WL.next ?_
  refine WC.seq ?_
  refine WC.region ?_
  refine WL.u rfl rfl (Wt.plain rfl) (Ex.move rfl) ?_
  refine WL.call callable75 rfl (Wt.plain rfl) rfl rfl (sl92Answers _ _ _ _ _  _ (hH.at 0 rfl) (hc.kept hH.keep) hca hl (by omega) ) ?_
  rintro _ wn ⟨n, m, q, ans, x, rfl, hN, hKK, ho, hsz, hq⟩; obtain ⟨b14, cap14, cur14, rfl, hge14, hbb14, ho14⟩ := hN.own; replace hH := hH.turnPush hKK ho hge14 hbb14; clear hKK ho hN
  refine WL.u rfl rfl (Wt.plain rfl) (Ex.move rfl) ?_
  refine WL.u rfl rfl (Wt.plain rfl) (Ex.extract rfl rfl) ?_
  refine WL.u rfl rfl (Wt.plain rfl) (Ex.extract rfl rfl) ?_
  refine WL.u rfl rfl (Wt.plain rfl) (Ex.extract rfl rfl) ?_
  refine WL.u rfl rfl (Wt.plain rfl) (Ex.assign rfl) ?_
  refine WL.u rfl rfl (Wt.plain rfl) (Ex.assign rfl) ?_
  refine WL.u rfl rfl (Wt.plain rfl) (Ex.assign rfl) ?_
  refine WL.next ?_
  refine WC.seq ?_
  refine WC.region ?_
  refine WL.u rfl rfl (Wt.plain rfl) (Ex.move rfl) ?_
  refine WL.u rfl rfl (Wt.plain rfl) (Ex.move rfl) ?_
  refine WL.u rfl rfl (Wt.plain rfl) (Ex.move rfl) ?_
  refine WL.u rfl rfl (Wt.plain rfl) (Ex.move rfl) ?_
  refine WL.u rfl rfl (Wt.plain rfl) (Ex.move rfl) ?_
  refine WL.u rfl rfl (Wt.plain rfl) (Ex.lenSl Try.underlying24 rfl) ?_
  refine WL.u rfl rfl (Wt.plain rfl) (Ex.move rfl) ?_
  replace hH := hH.f1
  refine WL.call callable72 rfl (Wt.plain rfl) rfl rfl (spick _ _ _ _ _ 24 _ (hH.at 0 rfl) (hc.kept hH.keep) hca hl (by omega) (by omega)) ?_
  rintro _ wn ⟨k25, rfl, hk25, hKK, ho⟩; replace hH := hH.turn hKK ho; clear hKK ho
  refine WL.u rfl rfl (Wt.plain rfl) (Ex.quo rfl rfl (by omega) (by omega)) ?_
  refine WL.u rfl rfl (Wt.plain rfl) ((Ex.add rfl rfl (by omega)).to (congrArg (Value.int IntKind.i64) (show _ = ((ans.length + k25 / 23 : Nat) : Int) by omega))) ?_
  refine WL.call callable72 rfl (Wt.plain rfl) rfl rfl (spick _ _ _ _ _ (ans.length + k25 / 23) _ (hH.at 0 rfl) (hc.kept hH.keep) hca hl (by omega) (by omega)) ?_
  rintro _ wn ⟨k28, rfl, hk28, hKK, ho⟩; replace hH := hH.turn hKK ho; clear hKK ho
  refine WL.u rfl rfl (Wt.plain rfl) (Ex.move rfl) ?_
  refine WL.call callable72 rfl (Wt.plain rfl) rfl rfl (spick _ _ _ _ _ 24 _ (hH.at 0 rfl) (hc.kept hH.keep) hca hl (by omega) (by omega)) ?_
  rintro _ wn ⟨k30, rfl, hk30, hKK, ho⟩; replace hH := hH.turn hKK ho; clear hKK ho
  refine WL.u rfl rfl (Wt.plain rfl) (Ex.quo rfl rfl (by omega) (by omega)) ?_
  refine WL.u rfl rfl (Wt.plain rfl) (Ex.sub rfl rfl (by omega)) ?_
  refine WL.u rfl rfl (Wt.plain rfl) (Ex.assign rfl) ?_
  refine WL.u rfl rfl (Wt.plain rfl) (Ex.assign rfl) ?_
  refine WL.u rfl rfl (Wt.plain rfl) (Ex.assign rfl) ?_
  refine WL.u rfl rfl (Wt.plain rfl) (Ex.assign rfl) ?_
  refine WL.next ?_
  refine WC.ret ?_
  refine WN.body4 rfl rfl rfl rfl rfl ?_
  exact ⟨n, m, ans, _, _, rfl, hH.keep, New.of (hH.front 1 rfl) ho14 (hH.base 1 rfl), hsz⟩

theorem sDrawAskOf (a : Option Addr) (l : List UInt8) (cap : Nat) (w : World) (hc : Sl rByte w a l) (hcap : l.length ≤ cap) : Fn Try.prog 38 [.slice a l.length cap] w (fun v w1 => ∃ (g : Grid) (set : Nat) (x : Value), v = .tuple #[x, vint set] ∧ Keep [] w w1 ∧ New rStr 9 w w1 x g ∧ (1 ≤ g.length ∧ g.length ≤ 2) ∧ (∀ s ∈ g, s.length ≤ 3) ∧ set ≤ 100000) := by
  refine Fn.enter (n := 18) Try.func38 rfl rfl rfl ?_
  show WC _ _ _ _ [(0, .slice a l.length cap)] _
  have hH := Hp.start [] w
  replace hc := hc.take 2000
  have hl := List.length_take_le 2000 l
  refine WC.seq ?_
  refine WC.region ?_
  refine WL.u rfl rfl (Wt.plain rfl) (Ex.assign rfl) ?_
  refine WL.u rfl rfl (Wt.plain rfl) (Ex.assign rfl) ?_
  refine WL.next ?_
  refine WC.seq ?_
  refine WC.region ?_
  refine WL.u rfl rfl (Wt.plain rfl) (Ex.move rfl) ?_
  refine WL.call callable70 rfl (Wt.plain rfl) rfl rfl (sl6Open _ _ _ _ hcap) ?_
  rintro _ wn ⟨r, rfl, hrn, hC, hro⟩; have hca := (hc.kept hH.keep).offNew hrn; replace hH := hH.push hC hrn hro; clear hC hro
  refine WL.u rfl rfl (Wt.plain rfl) (Ex.assign rfl) ?_
  refine WL.next ?_
  refine WC.seq ?_
  refine WC.region ?_
  refine WL.u rfl rfl (Wt.plain rfl) (Ex.move rfl) ?_
  refine WL.call callable71 rfl (Wt.plain rfl) rfl rfl (sl91Some _ _ _ _ _ 2 2 _ (hH.at 0 rfl) (hc.kept hH.keep) hca hl (by omega) (by omega) (by omega)) ?_
  rintro _ wn ⟨g, q, hN, hgl, hgr, hKK, ho, hq⟩; obtain ⟨b9, cap9, cur9, rfl, hge9, hbb9, ho9⟩ := hN.own; replace hH := hH.turnPush hKK ho hge9 hbb9; clear hKK ho hN
  refine WL.u rfl rfl (Wt.plain rfl) (Ex.assign rfl) ?_
  refine WL.next ?_
  refine WC.seq ?_
  refine WC.region ?_
  refine WL.u rfl rfl (Wt.plain rfl) (Ex.move rfl) ?_
  refine WL.u rfl rfl (Wt.plain rfl) (Ex.move rfl) ?_
  replace hH := hH.f1
  refine WL.call callable72 rfl (Wt.plain rfl) rfl rfl (spick _ _ _ _ _ 200 _ (hH.at 0 rfl) (hc.kept hH.keep) hca hl (by omega) (by omega)) ?_
  rintro _ wn ⟨k12, rfl, hk12, hKK, ho⟩; replace hH := hH.turn hKK ho; clear hKK ho
  refine WL.u rfl rfl (Wt.plain rfl) (Ex.move rfl) ?_
  refine WL.call callable72 rfl (Wt.plain rfl) rfl rfl (spick _ _ _ _ _ 24 _ (hH.at 0 rfl) (hc.kept hH.keep) hca hl (by omega) (by omega)) ?_
  rintro _ wn ⟨k14, rfl, hk14, hKK, ho⟩; replace hH := hH.turn hKK ho; clear hKK ho
  refine WL.u rfl rfl (Wt.plain rfl) (Ex.quo rfl rfl (by omega) (by omega)) ?_
  refine WL.u rfl rfl (Wt.plain rfl) (Ex.mul rfl rfl (by omega)) ?_
  refine WL.u rfl rfl (Wt.plain rfl) (Ex.add rfl rfl (by omega)) ?_
  refine WL.u rfl rfl (Wt.plain rfl) (Ex.assign rfl) ?_
  refine WL.u rfl rfl (Wt.plain rfl) (Ex.assign rfl) ?_
  refine WL.next ?_
  refine WC.ret ?_
  refine WN.body2 rfl rfl rfl ?_
  exact ⟨g, k12 + k14 / 23 * 5000, _, rfl, hH.keep, New.of (hH.front 1 rfl) ho9 (hH.base 1 rfl), by omega, fun s hs => by have := hgr s hs; omega, by omega⟩

end Go.Proofs.Ytmlefpddjfonlaa
