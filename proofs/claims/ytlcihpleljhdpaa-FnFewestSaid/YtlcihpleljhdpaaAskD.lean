/- The draws of answers. -/
import Derived.Test.YtlcihpleljhdpaaAsk2
import Derived.Test.YtlcihpleljhdpaaDraw
namespace Go.Proofs.Ytlcihpleljhdpaa
set_option maxRecDepth 100000
set_option linter.unusedSimpArgs false
set_option linter.unusedVariables false
open Go Go.RowKit
theorem ok3 (x : Int) (h0 : 0 ≤ x) (h3 : x < 3) : okL (([46, 114, 102] : List UInt8).getD x.toNat 0) = true := by
  obtain h | h | h : x = 0 ∨ x = 1 ∨ x = 2 := by omega
  all_goals (subst h; rfl)
theorem ok2 (x : Int) (h0 : 0 ≤ x) (h3 : x < 2) : okL (([114, 102] : List UInt8).getD x.toNat 0) = true := by
  obtain h | h : x = 0 ∨ x = 1 := by omega
  all_goals (subst h; rfl)
theorem ok_snoc {row : List UInt8} {c : UInt8} (h : ∀ x ∈ row, okL x = true) (hc : okL c = true) : ∀ x ∈ row ++ [c], okL x = true := fun x hx => by
  rcases List.mem_append.1 hx with h1 | h1
  · exact h x h1
  · rw [List.mem_singleton.1 h1]; exact hc
theorem gridOk_rows {g : Grid} {n m : Nat} (hn : g.length = n) (hr : ∀ s ∈ g, s.length = m) (ho : ∀ s ∈ g, ∀ c ∈ s, okL c = true) (h1 : 1 ≤ n) (h2 : n ≤ 5) (h3 : 1 ≤ m) (h4 : m ≤ 5) : GridOk g ∧ nR g = n ∧ nC g = m := by
  have key : ∀ i, i < g.length → (g.getD i []).length = m := fun i hi => hr _ (List.mem_of_getElem? (getD_get g i [] hi))
  have h0 := key 0 (by omega)
  refine ⟨⟨by omega, by omega, by omega, by omega, fun i hi => by rw [key i hi, h0], fun i hi j hj => ?_⟩, hn, h0⟩
  refine ho _ (List.mem_of_getElem? (getD_get g i [] hi)) _ (List.mem_of_getElem? (getD_get (g.getD i []) j 0 ?_))
  rw [key i hi]; rw [h0] at hj; exact hj

theorem sl91OfL (r : Nat) (a : Option Addr) (l : List UInt8) (cap p0 : Nat) (n m : Nat) (w : World) (hr : w.heap[r]? = some (rdo a l.length cap p0)) (hc : Sl rByte w a l) (hca : Off [r] a l) (hl : l.length ≤ 2000) (hp : p0 ≤ 900000) (hn : n ≤ 8) (hm : m ≤ 8) : Fn Try.prog 26 [vptr r 0, vint n, vint m] w (fun v w1 => ∃ (g : Grid) (q : Nat), New rStr 9 w w1 v g ∧ g.length = n ∧ (∀ s ∈ g, s.length = m) ∧ Keep [r] w w1 ∧ w1.heap[r]? = some (rdo a l.length cap q) ∧ q ≤ p0 + 200 ∧ ∀ s ∈ g, ∀ c ∈ s, okL c = true) := by
  refine Fn.enter (n := 63) Try.func26 rfl rfl rfl ?_
  show WC _ _ _ _ [(0, vptr r 0), (1, vint n), (2, vint m)] _
  have hH := Hp.at1 hr
  refine WC.seq ?_
  refine WC.region ?_
  refine WL.u rfl rfl (Wt.plain rfl) (Ex.assign rfl) ?_
  refine WL.next ?_
  refine WC.seq ?_
  refine WC.region ?_
  refine WL.lit0 Try.underlying35 ty9 rfl (Wt.plain rfl) hH (fun b13 wn hb13 hk13 hH => ?_)
  have ho13 := Own.nil rStr
  refine WL.u rfl rfl (Wt.plain rfl) (Ex.assign rfl) ?_
  refine WL.next ?_
  refine WC.seq ?_
  refine WC.region ?_
  refine WL.u rfl rfl (Wt.plain rfl) (Ex.move rfl) ?_
  replace hH := hH.f1
  refine WL.call callable23 rfl (Wt.plain rfl) rfl rfl (spick _ _ _ _ _ 4 _ (hH.at 0 rfl) (hc.keepO hH.keep hca) hca hl (by omega) (by omega)) ?_
  rintro _ wn ⟨kind, rfl, hkind, hKK, ho⟩; replace hH := hH.turn hKK ho; clear hKK ho
  refine WL.u rfl rfl (Wt.plain rfl) (Ex.assign rfl) ?_
  refine WL.next ?_
  refine WC.seq ?_
  refine WC.seq ?_
  refine WC.region ?_
  refine WL.u rfl rfl (Wt.plain rfl) (Ex.assign rfl) ?_
  refine WL.next ?_
  refine WC.block ?_
  replace hH := hH.f1
  replace hH := hH.f1
  refine WC.loop (ι := Nat × Nat × Nat × Nat × (Array Value) × Grid) (fun (i, p, b13, cap13, cur13, g) => [(0, vptr r 0), (1, vint n), (2, vint m), (7, vsl b13 g.length cap13), (8, vint kind), (9, vint i)]) (fun (i, p, b13, cap13, cur13, g) wn => Hp [r] w wn [(r, rdo a l.length cap p), (b13, .cells cur13 9 (0, 0))] ∧ Own rStr cur13 cap13 g ∧ g.length = i ∧ (∀ s ∈ g, s.length = m) ∧ (∀ s ∈ g, ∀ c ∈ s, okL c = true) ∧ i ≤ n ∧ p ≤ p0 + 1 + 20 * i) (fun (i, p, b13, cap13, cur13, g) => n - i) ((0, p0 + 1, b13, 0, #[], [])) (by exact ⟨rfl, rfl, rfl, rfl, rfl, rfl, trivial⟩) ?_ ?_
  · exact ⟨hH, ho13, rfl, by simp, by simp, by omega, by omega⟩
  rintro ⟨i, p, b13, cap13, cur13, g⟩ wn ⟨hH, ho13, hgl, hgr, hgo, hi, hp⟩
  intro mu0 hmu; try dsimp only at hmu
  show WC _ _ _ _ [(0, vptr r 0), (1, vint n), (2, vint m), (7, vsl b13 g.length cap13), (8, vint kind), (9, vint i)] _
  refine WC.seq ?_
  refine WC.seq ?_
  refine WC.region ?_
  refine WL.u rfl rfl (Wt.plain rfl) (Ex.move rfl) ?_
  refine WL.u rfl rfl (Wt.plain rfl) (Ex.move rfl) ?_
  refine WL.u rfl rfl (Wt.plain rfl) (Ex.lss rfl rfl) ?_
  refine WL.next ?_
  refine WC.cond rfl (fun hc1 => ?_) (fun hc1 => ?_)
  · have hc1' := hc1; try simp only [decide_eq_true_eq, decide_eq_false_iff_not, Bool.not_eq_true', Bool.not_eq_false', Bool.not_eq_true, Bool.not_eq_false] at hc1'
    have hlt : i < n := by omega
    refine WC.skip ?_
    refine WN.next ?_
    refine WC.seq ?_
    refine WC.block ?_
    refine WC.seq ?_
    refine WC.region ?_
    refine WL.lit0 Try.underlying22 ty5 rfl (Wt.plain rfl) hH (fun b21 wn hb21 hk21 hH => ?_)
    have ho21 := Own.nil rByte
    refine WL.u rfl rfl (Wt.plain rfl) (Ex.assign rfl) ?_
    refine WL.next ?_
    refine WC.seq ?_
    refine WC.seq ?_
    refine WC.region ?_
    refine WL.u rfl rfl (Wt.plain rfl) (Ex.assign rfl) ?_
    refine WL.next ?_
    refine WC.block ?_
    replace hH := hH.f2
    replace hH := hH.f2
    refine WC.loop (ι := Nat × Nat × Nat × Nat × (Array Value) × (List UInt8)) (fun (k, p, b21, cap21, cur21, row) => [(0, vptr r 0), (1, vint n), (2, vint m), (7, vsl b13 g.length cap13), (8, vint kind), (9, vint i), (10, vsl b21 row.length cap21), (11, vint k)]) (fun (k, p, b21, cap21, cur21, row) wn => Hp [r] w wn [(r, rdo a l.length cap p), (b13, .cells cur13 9 (0, 0)), (b21, .cells cur21 5 (0, 0))] ∧ Own rByte cur21 cap21 row ∧ row.length = k ∧ (∀ c ∈ row, okL c = true) ∧ k ≤ m ∧ p ≤ p0 + 1 + 20 * i + 2 * k) (fun (k, p, b21, cap21, cur21, row) => m - k) ((0, p, b21, 0, #[], [])) (by exact ⟨rfl, rfl, rfl, rfl, rfl, rfl, rfl, rfl, trivial⟩) ?_ ?_
    · exact ⟨hH, ho21, rfl, by simp, by omega, by omega⟩
    rintro ⟨k, p, b21, cap21, cur21, row⟩ wn ⟨hH, ho21, hrl, hrok, hk, hp⟩
    intro mu0 hmu; try dsimp only at hmu
    show WC _ _ _ _ [(0, vptr r 0), (1, vint n), (2, vint m), (7, vsl b13 g.length cap13), (8, vint kind), (9, vint i), (10, vsl b21 row.length cap21), (11, vint k)] _
    refine WC.seq ?_
    refine WC.seq ?_
    refine WC.region ?_
    refine WL.u rfl rfl (Wt.plain rfl) (Ex.move rfl) ?_
    refine WL.u rfl rfl (Wt.plain rfl) (Ex.move rfl) ?_
    refine WL.u rfl rfl (Wt.plain rfl) (Ex.lss rfl rfl) ?_
    refine WL.next ?_
    refine WC.cond rfl (fun hc2 => ?_) (fun hc2 => ?_)
    · have hc2' := hc2; try simp only [decide_eq_true_eq, decide_eq_false_iff_not, Bool.not_eq_true', Bool.not_eq_false', Bool.not_eq_true, Bool.not_eq_false] at hc2'
      refine WC.skip ?_
      refine WN.next ?_
      refine WC.seq ?_
      refine WC.block ?_
      refine WC.seq ?_
      refine WC.region ?_
      refine WL.u rfl rfl (Wt.plain rfl) (Ex.move rfl) ?_
      refine WL.call callable23 rfl (Wt.plain rfl) rfl rfl (spick _ _ _ _ _ 3 _ (hH.at 0 rfl) (hc.keepO hH.keep hca) hca hl (by omega) (by omega)) ?_
      rintro _ wn ⟨k28, rfl, hk28, hKK, ho⟩; replace hH := hH.turn hKK ho; clear hKK ho
      refine WL.u rfl rfl (Wt.plain rfl) (Ex.indexStr Try.underlying9 rfl rfl (by (try simp only [List.length_cons, List.length_nil]); omega)) ?_
      refine WL.u rfl rfl (Wt.plain rfl) (Ex.assign rfl) ?_
      refine WL.next ?_
      refine WC.seq ?_
      refine WC.seq ?_
      refine WC.region ?_
      refine WL.u rfl rfl (Wt.plain rfl) (Ex.move rfl) ?_
      refine WL.u rfl rfl (Wt.plain rfl) (Ex.eql rfl rfl) ?_
      refine WL.u rfl rfl (Wt.plain rfl) (Ex.move rfl) ?_
      refine WL.split (t := 32) rfl (fun hg11_2 => ?_) (fun hg11_2 => ?_)
      · have hg11_2' := hg11_2; try simp only [decide_eq_true_eq, decide_eq_false_iff_not, Bool.not_eq_true', Bool.not_eq_false', Bool.not_eq_true, Bool.not_eq_false] at hg11_2'
        refine WL.u rfl rfl (Wt.guard' rfl rfl rfl hg11_2 rfl) (Ex.move rfl) ?_
        refine WL.u rfl rfl (Wt.guard' rfl rfl rfl hg11_2 rfl) (Ex.eql rfl rfl) ?_
        refine WL.u rfl rfl (Wt.plain rfl) (Ex.pickT rfl hg11_2 rfl) ?_
        refine WL.next ?_
        refine WC.cond rfl (fun hc3 => ?_) (fun hc3 => ?_)
        · have hc3' := hc3; try simp only [decide_eq_true_eq, decide_eq_false_iff_not, Bool.not_eq_true', Bool.not_eq_false', Bool.not_eq_true, Bool.not_eq_false] at hc3'
          refine WC.region ?_
          refine WL.u rfl rfl (Wt.plain rfl) (Ex.move rfl) ?_
          refine WL.u rfl rfl (Wt.plain rfl) (Ex.move rfl) ?_
          refine WL.u rfl rfl (Wt.plain rfl) (Ex.add rfl rfl (by omega)) ?_
          refine WL.u rfl rfl (Wt.plain rfl) (Ex.rem rfl rfl (by omega) (by omega)) ?_
          refine WL.u rfl rfl (Wt.plain rfl) (Ex.indexStr Try.underlying9 rfl rfl (by (try simp only [List.length_cons, List.length_nil]); omega)) ?_
          refine WL.u rfl rfl (Wt.plain rfl) (Ex.assign rfl) ?_
          refine WL.next ?_
          refine WC.seq ?_
          refine WC.seq ?_
          refine WC.region ?_
          refine WL.u rfl rfl (Wt.plain rfl) (Ex.move rfl) ?_
          refine WL.u rfl rfl (Wt.plain rfl) (Ex.eql rfl rfl) ?_
          refine WL.u rfl rfl (Wt.plain rfl) (Ex.move rfl) ?_
          refine WL.split (t := 43) rfl (fun hg13_2 => ?_) (fun hg13_2 => ?_)
          · have hg13_2' := hg13_2; try simp only [decide_eq_true_eq, decide_eq_false_iff_not, Bool.not_eq_true', Bool.not_eq_false', Bool.not_eq_true, Bool.not_eq_false] at hg13_2'
            refine WL.u rfl rfl (Wt.guard' rfl rfl rfl hg13_2 rfl) (Ex.move rfl) ?_
            refine WL.call callable23 rfl (Wt.guard' rfl rfl rfl hg13_2 rfl) rfl rfl (spick _ _ _ _ _ 3 _ (hH.at 0 rfl) (hc.keepO hH.keep hca) hca hl (by omega) (by omega)) ?_
            rintro _ wn ⟨k45, rfl, hk45, hKK, ho⟩; replace hH := hH.turn hKK ho; clear hKK ho
            refine WL.u rfl rfl (Wt.guard' rfl rfl rfl hg13_2 rfl) (Ex.gtr rfl rfl) ?_
            refine WL.u rfl rfl (Wt.plain rfl) (Ex.pickT rfl hg13_2 rfl) ?_
            refine WL.next ?_
            refine WC.cond rfl (fun hc4 => ?_) (fun hc4 => ?_)
            · have hc4' := hc4; try simp only [decide_eq_true_eq, decide_eq_false_iff_not, Bool.not_eq_true', Bool.not_eq_false', Bool.not_eq_true, Bool.not_eq_false] at hc4'
              refine WC.region ?_
              refine WL.u rfl rfl (Wt.plain rfl) (Ex.move rfl) ?_
              refine WL.u rfl rfl (Wt.plain rfl) (Ex.move rfl) ?_
              refine WL.u rfl rfl (Wt.plain rfl) (Ex.add rfl rfl (by omega)) ?_
              refine WL.u rfl rfl (Wt.plain rfl) (Ex.rem rfl rfl (by omega) (by omega)) ?_
              refine WL.u rfl rfl (Wt.plain rfl) (Ex.indexStr Try.underlying9 rfl rfl (by (try simp only [List.length_cons, List.length_nil]); omega)) ?_
              refine WL.u rfl rfl (Wt.plain rfl) (Ex.assign rfl) ?_
              refine WL.next ?_
              refine WC.region ?_
              refine WL.u rfl rfl (Wt.plain rfl) (Ex.move rfl) ?_
              refine WL.u rfl rfl (Wt.plain rfl) (Ex.move rfl) ?_
              replace hH := hH.f2
              refine WL.append1 (r := rByte) (u := _) Try.underlying22 ty5 rfl rfl (fun _ => rfl) (fun _ => rfl) rfl rfl (Wt.plain rfl) (fun _ => (Wt.plain rfl)) hH ho21 rfl (by omega) (by omega) (fun b21 cap21 cur21 wn x21 hb21 hk21 hH ho21 => ?_)
              refine WL.u rfl rfl (Wt.plain rfl) (Ex.assign rfl) ?_
              refine WL.last ?_
              refine WN.normalBlock ?_
              refine WN.next ?_
              refine WC.region ?_
              refine WL.u rfl rfl (Wt.plain rfl) (Ex.move rfl) ?_
              refine WL.u rfl rfl (Wt.plain rfl) (Ex.add rfl rfl (by omega)) ?_
              refine WL.u rfl rfl (Wt.plain rfl) (Ex.assign rfl) ?_
              refine WL.last ?_
              replace hH := hH.f2
              replace hH := hH.f2
              refine WN.round (k + 1, p + 2, b21, cap21, cur21, row ++ [_]) (by exact ⟨rfl, rfl, rfl, rfl, rfl, rfl, rfl, rfl, trivial⟩) ?_ ?_
              · exact ⟨hH, ho21, by simp [hrl], ok_snoc hrok (by first | exact ok3 _ (by omega) (by omega) | exact ok2 _ (by omega) (by omega)), by omega, by omega⟩
              · (try dsimp only); omega
            have hc4' := hc4; try simp only [decide_eq_true_eq, decide_eq_false_iff_not, Bool.not_eq_true', Bool.not_eq_false', Bool.not_eq_true, Bool.not_eq_false] at hc4'
            refine WC.skip ?_
            refine WN.next ?_
            refine WC.region ?_
            refine WL.u rfl rfl (Wt.plain rfl) (Ex.move rfl) ?_
            refine WL.u rfl rfl (Wt.plain rfl) (Ex.move rfl) ?_
            replace hH := hH.f2
            refine WL.append1 (r := rByte) (u := _) Try.underlying22 ty5 rfl rfl (fun _ => rfl) (fun _ => rfl) rfl rfl (Wt.plain rfl) (fun _ => (Wt.plain rfl)) hH ho21 rfl (by omega) (by omega) (fun b21 cap21 cur21 wn x21 hb21 hk21 hH ho21 => ?_)
            refine WL.u rfl rfl (Wt.plain rfl) (Ex.assign rfl) ?_
            refine WL.last ?_
            refine WN.normalBlock ?_
            refine WN.next ?_
            refine WC.region ?_
            refine WL.u rfl rfl (Wt.plain rfl) (Ex.move rfl) ?_
            refine WL.u rfl rfl (Wt.plain rfl) (Ex.add rfl rfl (by omega)) ?_
            refine WL.u rfl rfl (Wt.plain rfl) (Ex.assign rfl) ?_
            refine WL.last ?_
            replace hH := hH.f2
            replace hH := hH.f2
            refine WN.round (k + 1, p + 2, b21, cap21, cur21, row ++ [_]) (by exact ⟨rfl, rfl, rfl, rfl, rfl, rfl, rfl, rfl, trivial⟩) ?_ ?_
            · exact ⟨hH, ho21, by simp [hrl], ok_snoc hrok (by first | exact ok3 _ (by omega) (by omega) | exact ok2 _ (by omega) (by omega)), by omega, by omega⟩
            · (try dsimp only); omega
          have hg13_2' := hg13_2; try simp only [decide_eq_true_eq, decide_eq_false_iff_not, Bool.not_eq_true', Bool.not_eq_false', Bool.not_eq_true, Bool.not_eq_false] at hg13_2'
          refine WL.pass rfl rfl (Wt.guard' rfl rfl rfl hg13_2 rfl) ?_
          refine WL.pass rfl rfl (Wt.guard' rfl rfl rfl hg13_2 rfl) ?_
          refine WL.pass rfl rfl (Wt.guard' rfl rfl rfl hg13_2 rfl) ?_
          refine WL.u rfl rfl (Wt.plain rfl) (Ex.pickF rfl hg13_2 rfl) ?_
          refine WL.next ?_
          refine WC.condF rfl rfl ?_
          refine WC.skip ?_
          refine WN.next ?_
          refine WC.region ?_
          refine WL.u rfl rfl (Wt.plain rfl) (Ex.move rfl) ?_
          refine WL.u rfl rfl (Wt.plain rfl) (Ex.move rfl) ?_
          replace hH := hH.f2
          refine WL.append1 (r := rByte) (u := _) Try.underlying22 ty5 rfl rfl (fun _ => rfl) (fun _ => rfl) rfl rfl (Wt.plain rfl) (fun _ => (Wt.plain rfl)) hH ho21 rfl (by omega) (by omega) (fun b21 cap21 cur21 wn x21 hb21 hk21 hH ho21 => ?_)
          refine WL.u rfl rfl (Wt.plain rfl) (Ex.assign rfl) ?_
          refine WL.last ?_
          refine WN.normalBlock ?_
          refine WN.next ?_
          refine WC.region ?_
          refine WL.u rfl rfl (Wt.plain rfl) (Ex.move rfl) ?_
          refine WL.u rfl rfl (Wt.plain rfl) (Ex.add rfl rfl (by omega)) ?_
          refine WL.u rfl rfl (Wt.plain rfl) (Ex.assign rfl) ?_
          refine WL.last ?_
          replace hH := hH.f2
          replace hH := hH.f2
          refine WN.round (k + 1, p + 1, b21, cap21, cur21, row ++ [_]) (by exact ⟨rfl, rfl, rfl, rfl, rfl, rfl, rfl, rfl, trivial⟩) ?_ ?_
          · exact ⟨hH, ho21, by simp [hrl], ok_snoc hrok (by first | exact ok3 _ (by omega) (by omega) | exact ok2 _ (by omega) (by omega)), by omega, by omega⟩
          · (try dsimp only); omega
        have hc3' := hc3; try simp only [decide_eq_true_eq, decide_eq_false_iff_not, Bool.not_eq_true', Bool.not_eq_false', Bool.not_eq_true, Bool.not_eq_false] at hc3'
        refine WC.skip ?_
        refine WN.next ?_
        refine WC.seq ?_
        refine WC.seq ?_
        refine WC.region ?_
        refine WL.u rfl rfl (Wt.plain rfl) (Ex.move rfl) ?_
        refine WL.u rfl rfl (Wt.plain rfl) (Ex.eql rfl rfl) ?_
        refine WL.u rfl rfl (Wt.plain rfl) (Ex.move rfl) ?_
        refine WL.split (t := 43) rfl (fun hg13_2 => ?_) (fun hg13_2 => ?_)
        · have hg13_2' := hg13_2; try simp only [decide_eq_true_eq, decide_eq_false_iff_not, Bool.not_eq_true', Bool.not_eq_false', Bool.not_eq_true, Bool.not_eq_false] at hg13_2'
          refine WL.u rfl rfl (Wt.guard' rfl rfl rfl hg13_2 rfl) (Ex.move rfl) ?_
          refine WL.call callable23 rfl (Wt.guard' rfl rfl rfl hg13_2 rfl) rfl rfl (spick _ _ _ _ _ 3 _ (hH.at 0 rfl) (hc.keepO hH.keep hca) hca hl (by omega) (by omega)) ?_
          rintro _ wn ⟨k45, rfl, hk45, hKK, ho⟩; replace hH := hH.turn hKK ho; clear hKK ho
          refine WL.u rfl rfl (Wt.guard' rfl rfl rfl hg13_2 rfl) (Ex.gtr rfl rfl) ?_
          refine WL.u rfl rfl (Wt.plain rfl) (Ex.pickT rfl hg13_2 rfl) ?_
          refine WL.next ?_
          refine WC.cond rfl (fun hc4 => ?_) (fun hc4 => ?_)
          · have hc4' := hc4; try simp only [decide_eq_true_eq, decide_eq_false_iff_not, Bool.not_eq_true', Bool.not_eq_false', Bool.not_eq_true, Bool.not_eq_false] at hc4'
            refine WC.region ?_
            refine WL.u rfl rfl (Wt.plain rfl) (Ex.move rfl) ?_
            refine WL.u rfl rfl (Wt.plain rfl) (Ex.move rfl) ?_
            refine WL.u rfl rfl (Wt.plain rfl) (Ex.add rfl rfl (by omega)) ?_
            refine WL.u rfl rfl (Wt.plain rfl) (Ex.rem rfl rfl (by omega) (by omega)) ?_
            refine WL.u rfl rfl (Wt.plain rfl) (Ex.indexStr Try.underlying9 rfl rfl (by (try simp only [List.length_cons, List.length_nil]); omega)) ?_
            refine WL.u rfl rfl (Wt.plain rfl) (Ex.assign rfl) ?_
            refine WL.next ?_
            refine WC.region ?_
            refine WL.u rfl rfl (Wt.plain rfl) (Ex.move rfl) ?_
            refine WL.u rfl rfl (Wt.plain rfl) (Ex.move rfl) ?_
            replace hH := hH.f2
            refine WL.append1 (r := rByte) (u := _) Try.underlying22 ty5 rfl rfl (fun _ => rfl) (fun _ => rfl) rfl rfl (Wt.plain rfl) (fun _ => (Wt.plain rfl)) hH ho21 rfl (by omega) (by omega) (fun b21 cap21 cur21 wn x21 hb21 hk21 hH ho21 => ?_)
            refine WL.u rfl rfl (Wt.plain rfl) (Ex.assign rfl) ?_
            refine WL.last ?_
            refine WN.normalBlock ?_
            refine WN.next ?_
            refine WC.region ?_
            refine WL.u rfl rfl (Wt.plain rfl) (Ex.move rfl) ?_
            refine WL.u rfl rfl (Wt.plain rfl) (Ex.add rfl rfl (by omega)) ?_
            refine WL.u rfl rfl (Wt.plain rfl) (Ex.assign rfl) ?_
            refine WL.last ?_
            replace hH := hH.f2
            replace hH := hH.f2
            refine WN.round (k + 1, p + 2, b21, cap21, cur21, row ++ [_]) (by exact ⟨rfl, rfl, rfl, rfl, rfl, rfl, rfl, rfl, trivial⟩) ?_ ?_
            · exact ⟨hH, ho21, by simp [hrl], ok_snoc hrok (by first | exact ok3 _ (by omega) (by omega) | exact ok2 _ (by omega) (by omega)), by omega, by omega⟩
            · (try dsimp only); omega
          have hc4' := hc4; try simp only [decide_eq_true_eq, decide_eq_false_iff_not, Bool.not_eq_true', Bool.not_eq_false', Bool.not_eq_true, Bool.not_eq_false] at hc4'
          refine WC.skip ?_
          refine WN.next ?_
          refine WC.region ?_
          refine WL.u rfl rfl (Wt.plain rfl) (Ex.move rfl) ?_
          refine WL.u rfl rfl (Wt.plain rfl) (Ex.move rfl) ?_
          replace hH := hH.f2
          refine WL.append1 (r := rByte) (u := _) Try.underlying22 ty5 rfl rfl (fun _ => rfl) (fun _ => rfl) rfl rfl (Wt.plain rfl) (fun _ => (Wt.plain rfl)) hH ho21 rfl (by omega) (by omega) (fun b21 cap21 cur21 wn x21 hb21 hk21 hH ho21 => ?_)
          refine WL.u rfl rfl (Wt.plain rfl) (Ex.assign rfl) ?_
          refine WL.last ?_
          refine WN.normalBlock ?_
          refine WN.next ?_
          refine WC.region ?_
          refine WL.u rfl rfl (Wt.plain rfl) (Ex.move rfl) ?_
          refine WL.u rfl rfl (Wt.plain rfl) (Ex.add rfl rfl (by omega)) ?_
          refine WL.u rfl rfl (Wt.plain rfl) (Ex.assign rfl) ?_
          refine WL.last ?_
          replace hH := hH.f2
          replace hH := hH.f2
          refine WN.round (k + 1, p + 2, b21, cap21, cur21, row ++ [_]) (by exact ⟨rfl, rfl, rfl, rfl, rfl, rfl, rfl, rfl, trivial⟩) ?_ ?_
          · exact ⟨hH, ho21, by simp [hrl], ok_snoc hrok (by first | exact ok3 _ (by omega) (by omega) | exact ok2 _ (by omega) (by omega)), by omega, by omega⟩
          · (try dsimp only); omega
        have hg13_2' := hg13_2; try simp only [decide_eq_true_eq, decide_eq_false_iff_not, Bool.not_eq_true', Bool.not_eq_false', Bool.not_eq_true, Bool.not_eq_false] at hg13_2'
        refine WL.pass rfl rfl (Wt.guard' rfl rfl rfl hg13_2 rfl) ?_
        refine WL.pass rfl rfl (Wt.guard' rfl rfl rfl hg13_2 rfl) ?_
        refine WL.pass rfl rfl (Wt.guard' rfl rfl rfl hg13_2 rfl) ?_
        refine WL.u rfl rfl (Wt.plain rfl) (Ex.pickF rfl hg13_2 rfl) ?_
        refine WL.next ?_
        refine WC.condF rfl rfl ?_
        refine WC.skip ?_
        refine WN.next ?_
        refine WC.region ?_
        refine WL.u rfl rfl (Wt.plain rfl) (Ex.move rfl) ?_
        refine WL.u rfl rfl (Wt.plain rfl) (Ex.move rfl) ?_
        replace hH := hH.f2
        refine WL.append1 (r := rByte) (u := _) Try.underlying22 ty5 rfl rfl (fun _ => rfl) (fun _ => rfl) rfl rfl (Wt.plain rfl) (fun _ => (Wt.plain rfl)) hH ho21 rfl (by omega) (by omega) (fun b21 cap21 cur21 wn x21 hb21 hk21 hH ho21 => ?_)
        refine WL.u rfl rfl (Wt.plain rfl) (Ex.assign rfl) ?_
        refine WL.last ?_
        refine WN.normalBlock ?_
        refine WN.next ?_
        refine WC.region ?_
        refine WL.u rfl rfl (Wt.plain rfl) (Ex.move rfl) ?_
        refine WL.u rfl rfl (Wt.plain rfl) (Ex.add rfl rfl (by omega)) ?_
        refine WL.u rfl rfl (Wt.plain rfl) (Ex.assign rfl) ?_
        refine WL.last ?_
        replace hH := hH.f2
        replace hH := hH.f2
        refine WN.round (k + 1, p + 1, b21, cap21, cur21, row ++ [_]) (by exact ⟨rfl, rfl, rfl, rfl, rfl, rfl, rfl, rfl, trivial⟩) ?_ ?_
        · exact ⟨hH, ho21, by simp [hrl], ok_snoc hrok (by first | exact ok3 _ (by omega) (by omega) | exact ok2 _ (by omega) (by omega)), by omega, by omega⟩
        · (try dsimp only); omega
      have hg11_2' := hg11_2; try simp only [decide_eq_true_eq, decide_eq_false_iff_not, Bool.not_eq_true', Bool.not_eq_false', Bool.not_eq_true, Bool.not_eq_false] at hg11_2'
      refine WL.pass rfl rfl (Wt.guard' rfl rfl rfl hg11_2 rfl) ?_
      refine WL.pass rfl rfl (Wt.guard' rfl rfl rfl hg11_2 rfl) ?_
      refine WL.u rfl rfl (Wt.plain rfl) (Ex.pickF rfl hg11_2 rfl) ?_
      refine WL.next ?_
      refine WC.condF rfl rfl ?_
      refine WC.skip ?_
      refine WN.next ?_
      refine WC.seq ?_
      refine WC.seq ?_
      refine WC.region ?_
      refine WL.u rfl rfl (Wt.plain rfl) (Ex.move rfl) ?_
      refine WL.u rfl rfl (Wt.plain rfl) (Ex.eql rfl rfl) ?_
      refine WL.u rfl rfl (Wt.plain rfl) (Ex.move rfl) ?_
      refine WL.split (t := 43) rfl (fun hg13_2 => ?_) (fun hg13_2 => ?_)
      · have hg13_2' := hg13_2; try simp only [decide_eq_true_eq, decide_eq_false_iff_not, Bool.not_eq_true', Bool.not_eq_false', Bool.not_eq_true, Bool.not_eq_false] at hg13_2'
        refine WL.u rfl rfl (Wt.guard' rfl rfl rfl hg13_2 rfl) (Ex.move rfl) ?_
        refine WL.call callable23 rfl (Wt.guard' rfl rfl rfl hg13_2 rfl) rfl rfl (spick _ _ _ _ _ 3 _ (hH.at 0 rfl) (hc.keepO hH.keep hca) hca hl (by omega) (by omega)) ?_
        rintro _ wn ⟨k45, rfl, hk45, hKK, ho⟩; replace hH := hH.turn hKK ho; clear hKK ho
        refine WL.u rfl rfl (Wt.guard' rfl rfl rfl hg13_2 rfl) (Ex.gtr rfl rfl) ?_
        refine WL.u rfl rfl (Wt.plain rfl) (Ex.pickT rfl hg13_2 rfl) ?_
        refine WL.next ?_
        refine WC.cond rfl (fun hc4 => ?_) (fun hc4 => ?_)
        · have hc4' := hc4; try simp only [decide_eq_true_eq, decide_eq_false_iff_not, Bool.not_eq_true', Bool.not_eq_false', Bool.not_eq_true, Bool.not_eq_false] at hc4'
          refine WC.region ?_
          refine WL.u rfl rfl (Wt.plain rfl) (Ex.move rfl) ?_
          refine WL.u rfl rfl (Wt.plain rfl) (Ex.move rfl) ?_
          refine WL.u rfl rfl (Wt.plain rfl) (Ex.add rfl rfl (by omega)) ?_
          refine WL.u rfl rfl (Wt.plain rfl) (Ex.rem rfl rfl (by omega) (by omega)) ?_
          refine WL.u rfl rfl (Wt.plain rfl) (Ex.indexStr Try.underlying9 rfl rfl (by (try simp only [List.length_cons, List.length_nil]); omega)) ?_
          refine WL.u rfl rfl (Wt.plain rfl) (Ex.assign rfl) ?_
          refine WL.next ?_
          refine WC.region ?_
          refine WL.u rfl rfl (Wt.plain rfl) (Ex.move rfl) ?_
          refine WL.u rfl rfl (Wt.plain rfl) (Ex.move rfl) ?_
          replace hH := hH.f2
          refine WL.append1 (r := rByte) (u := _) Try.underlying22 ty5 rfl rfl (fun _ => rfl) (fun _ => rfl) rfl rfl (Wt.plain rfl) (fun _ => (Wt.plain rfl)) hH ho21 rfl (by omega) (by omega) (fun b21 cap21 cur21 wn x21 hb21 hk21 hH ho21 => ?_)
          refine WL.u rfl rfl (Wt.plain rfl) (Ex.assign rfl) ?_
          refine WL.last ?_
          refine WN.normalBlock ?_
          refine WN.next ?_
          refine WC.region ?_
          refine WL.u rfl rfl (Wt.plain rfl) (Ex.move rfl) ?_
          refine WL.u rfl rfl (Wt.plain rfl) (Ex.add rfl rfl (by omega)) ?_
          refine WL.u rfl rfl (Wt.plain rfl) (Ex.assign rfl) ?_
          refine WL.last ?_
          replace hH := hH.f2
          replace hH := hH.f2
          refine WN.round (k + 1, p + 2, b21, cap21, cur21, row ++ [_]) (by exact ⟨rfl, rfl, rfl, rfl, rfl, rfl, rfl, rfl, trivial⟩) ?_ ?_
          · exact ⟨hH, ho21, by simp [hrl], ok_snoc hrok (by first | exact ok3 _ (by omega) (by omega) | exact ok2 _ (by omega) (by omega)), by omega, by omega⟩
          · (try dsimp only); omega
        have hc4' := hc4; try simp only [decide_eq_true_eq, decide_eq_false_iff_not, Bool.not_eq_true', Bool.not_eq_false', Bool.not_eq_true, Bool.not_eq_false] at hc4'
        refine WC.skip ?_
        refine WN.next ?_
        refine WC.region ?_
        refine WL.u rfl rfl (Wt.plain rfl) (Ex.move rfl) ?_
        refine WL.u rfl rfl (Wt.plain rfl) (Ex.move rfl) ?_
        replace hH := hH.f2
        refine WL.append1 (r := rByte) (u := _) Try.underlying22 ty5 rfl rfl (fun _ => rfl) (fun _ => rfl) rfl rfl (Wt.plain rfl) (fun _ => (Wt.plain rfl)) hH ho21 rfl (by omega) (by omega) (fun b21 cap21 cur21 wn x21 hb21 hk21 hH ho21 => ?_)
        refine WL.u rfl rfl (Wt.plain rfl) (Ex.assign rfl) ?_
        refine WL.last ?_
        refine WN.normalBlock ?_
        refine WN.next ?_
        refine WC.region ?_
        refine WL.u rfl rfl (Wt.plain rfl) (Ex.move rfl) ?_
        refine WL.u rfl rfl (Wt.plain rfl) (Ex.add rfl rfl (by omega)) ?_
        refine WL.u rfl rfl (Wt.plain rfl) (Ex.assign rfl) ?_
        refine WL.last ?_
        replace hH := hH.f2
        replace hH := hH.f2
        refine WN.round (k + 1, p + 2, b21, cap21, cur21, row ++ [_]) (by exact ⟨rfl, rfl, rfl, rfl, rfl, rfl, rfl, rfl, trivial⟩) ?_ ?_
        · exact ⟨hH, ho21, by simp [hrl], ok_snoc hrok (by first | exact ok3 _ (by omega) (by omega) | exact ok2 _ (by omega) (by omega)), by omega, by omega⟩
        · (try dsimp only); omega
      have hg13_2' := hg13_2; try simp only [decide_eq_true_eq, decide_eq_false_iff_not, Bool.not_eq_true', Bool.not_eq_false', Bool.not_eq_true, Bool.not_eq_false] at hg13_2'
      refine WL.pass rfl rfl (Wt.guard' rfl rfl rfl hg13_2 rfl) ?_
      refine WL.pass rfl rfl (Wt.guard' rfl rfl rfl hg13_2 rfl) ?_
      refine WL.pass rfl rfl (Wt.guard' rfl rfl rfl hg13_2 rfl) ?_
      refine WL.u rfl rfl (Wt.plain rfl) (Ex.pickF rfl hg13_2 rfl) ?_
      refine WL.next ?_
      refine WC.condF rfl rfl ?_
      refine WC.skip ?_
      refine WN.next ?_
      refine WC.region ?_
      refine WL.u rfl rfl (Wt.plain rfl) (Ex.move rfl) ?_
      refine WL.u rfl rfl (Wt.plain rfl) (Ex.move rfl) ?_
      replace hH := hH.f2
      refine WL.append1 (r := rByte) (u := _) Try.underlying22 ty5 rfl rfl (fun _ => rfl) (fun _ => rfl) rfl rfl (Wt.plain rfl) (fun _ => (Wt.plain rfl)) hH ho21 rfl (by omega) (by omega) (fun b21 cap21 cur21 wn x21 hb21 hk21 hH ho21 => ?_)
      refine WL.u rfl rfl (Wt.plain rfl) (Ex.assign rfl) ?_
      refine WL.last ?_
      refine WN.normalBlock ?_
      refine WN.next ?_
      refine WC.region ?_
      refine WL.u rfl rfl (Wt.plain rfl) (Ex.move rfl) ?_
      refine WL.u rfl rfl (Wt.plain rfl) (Ex.add rfl rfl (by omega)) ?_
      refine WL.u rfl rfl (Wt.plain rfl) (Ex.assign rfl) ?_
      refine WL.last ?_
      replace hH := hH.f2
      replace hH := hH.f2
      refine WN.round (k + 1, p + 1, b21, cap21, cur21, row ++ [_]) (by exact ⟨rfl, rfl, rfl, rfl, rfl, rfl, rfl, rfl, trivial⟩) ?_ ?_
      · exact ⟨hH, ho21, by simp [hrl], ok_snoc hrok (by first | exact ok3 _ (by omega) (by omega) | exact ok2 _ (by omega) (by omega)), by omega, by omega⟩
      · (try dsimp only); omega
    have hc2' := hc2; try simp only [decide_eq_true_eq, decide_eq_false_iff_not, Bool.not_eq_true', Bool.not_eq_false', Bool.not_eq_true, Bool.not_eq_false] at hc2'
    refine WC.exit ?_
    refine WN.exitThen ?_
    refine WN.exitThen ?_
    refine WN.exitHere ?_
    refine WN.next ?_
    refine WC.region ?_
    refine WL.u rfl rfl (Wt.plain rfl) (Ex.move rfl) ?_
    refine WL.u rfl rfl (Wt.plain rfl) (Ex.move rfl) ?_
    refine WL.u rfl rfl (Wt.plain rfl) (Ex.bytesStr Try.underlying22 Try.underlying5 Try.underlying9 rfl (ho21.slAt hH 2 rfl)) ?_
    replace hH := hH.f1
    refine WL.append1 (r := rStr) (u := row) Try.underlying35 ty9 rfl rfl (fun _ => rfl) (fun _ => rfl) rfl rfl (Wt.plain rfl) (fun _ => (Wt.plain rfl)) hH ho13 rfl (by omega) (by omega) (fun b13 cap13 cur13 wn x13 hb13 hk13 hH ho13 => ?_)
    refine WL.u rfl rfl (Wt.plain rfl) (Ex.assign rfl) ?_
    refine WL.last ?_
    refine WN.normalBlock ?_
    refine WN.next ?_
    refine WC.region ?_
    refine WL.u rfl rfl (Wt.plain rfl) (Ex.move rfl) ?_
    refine WL.u rfl rfl (Wt.plain rfl) (Ex.add rfl rfl (by omega)) ?_
    refine WL.u rfl rfl (Wt.plain rfl) (Ex.assign rfl) ?_
    refine WL.last ?_
    replace hH := hH.f1
    replace hH := hH.first2
    refine WN.round (i + 1, p, b13, cap13, cur13, g ++ [row]) (by exact ⟨rfl, rfl, rfl, rfl, rfl, rfl, trivial⟩) ?_ ?_
    · exact ⟨hH, ho13, by simp [hgl], by intro s hs; rcases List.mem_append.1 hs with h | h; exact hgr s h; rw [List.mem_singleton.1 h]; omega, by intro s hs; rcases List.mem_append.1 hs with h | h; exact hgo s h; rw [List.mem_singleton.1 h]; exact hrok, by omega, by omega⟩
    · (try dsimp only); omega
  have hc1' := hc1; try simp only [decide_eq_true_eq, decide_eq_false_iff_not, Bool.not_eq_true', Bool.not_eq_false', Bool.not_eq_true, Bool.not_eq_false] at hc1'
  refine WC.exit ?_
  refine WN.exitThen ?_
  refine WN.exitThen ?_
  refine WN.exitHere ?_
  refine WN.next ?_
  refine WC.seq ?_
  refine WC.region ?_
  refine WL.u rfl rfl (Wt.plain rfl) (Ex.move rfl) ?_
  refine WL.u rfl rfl (Wt.plain rfl) (Ex.assign rfl) ?_
  refine WL.next ?_
  refine WC.ret ?_
  refine WN.body1 rfl rfl ?_
  exact ⟨g, p, New.of hH.f1 ho13 (hH.base1 1 0 rfl rfl rfl rfl), by omega, hgr, hH.keep, hH.at 0 rfl, by omega, hgo⟩

end Go.Proofs.Ytlcihpleljhdpaa
