/- Grids that a function of cells makes; all grids of two letters. -/
import Derived.Test.YtamkbmhgclpidaaEach
namespace Go.Proofs.Ytamkbmhgclpidaa
set_option maxRecDepth 100000
set_option linter.unusedSimpArgs false
set_option linter.unusedVariables false
open Go Go.RowKit

theorem imakeGridJ (n m F : Nat) (cs : List Value) (Lt : Nat → Nat → UInt8) (T : List Nat) (J : Nat → World → Prop) (w : World) (hF : Callable Try.prog F) (hn : n ≤ 100) (hm : m ≤ 100) (hT : ∀ k ∈ T, k < w.heap.size) (hJ : ∀ c S w2 w3, J c w2 → Keep S w2 w3 → (∀ k ∈ S, w.heap.size ≤ k) → J c w3) (h0 : J 0 w) (hf : ∀ (w2 : World) (i k : Nat), Keep T w w2 → i < n → k < m → J (i * m + k) w2 → Fn Try.prog F ([vint i, vint k] ++ cs) w2 (fun v w3 => v = .int .u8 (Lt i k).toNat ∧ J (i * m + k + 1) w3 ∧ Keep T w2 w3)) : Fn Try.prog 59 [vint n, vint m, .func (.func F) #[] cs.toArray] w (fun v w1 => J (n * m) w1 ∧ Keep T w w1 ∧ New rStr 9 w w1 v (gridOf n m Lt)) := by
  refine Fn.enter (n := 36) Try.func59 rfl rfl rfl ?_
  show WC _ _ _ _ [(0, vint n), (1, vint m), (2, .func (.func F) #[] cs.toArray)] _
  have hH := Hp.start T w
  refine WC.seq ?_
  refine WC.region ?_
  refine WL.u rfl rfl (Wt.plain rfl) (Ex.assign rfl) ?_
  refine WL.next ?_
  refine WC.seq ?_
  refine WC.region ?_
  refine WL.lit0 Try.underlying32 ty9 rfl (Wt.plain rfl) hH (fun b11 wn hb11 hk11 hH => ?_)
  have ho11 := Own.nil rStr
  replace h0 := hJ _ _ _ _ h0 hk11 (by simp)
  refine WL.u rfl rfl (Wt.plain rfl) (Ex.assign rfl) ?_
  refine WL.next ?_
  refine WC.seq ?_
  refine WC.seq ?_
  refine WC.region ?_
  refine WL.u rfl rfl (Wt.plain rfl) (Ex.move rfl) ?_
  refine WL.u rfl rfl (Wt.plain rfl) (Ex.move rfl) ?_
  refine WL.next ?_
  refine WC.block ?_
  refine WC.loop (ι := Nat × Nat × Nat × (Array Value) × Grid) (fun (i, b11, cap11, cur11, g) => [(1, vint m), (2, .func (.func F) #[] cs.toArray), (7, vsl b11 g.length cap11), (12, vint n), (13, vint i)]) (fun (i, b11, cap11, cur11, g) wn => Hp T w wn [(b11, .cells cur11 9 (0, 0))] ∧ w.heap.size ≤ b11 ∧ Own rStr cur11 cap11 g ∧ g = (List.range i).map (fun i => (List.range m).map fun k => Lt i k) ∧ J (i * m) wn ∧ i ≤ n) (fun (i, b11, cap11, cur11, g) => n - i) ((0, b11, 0, #[], [])) (by exact ⟨rfl, rfl, rfl, rfl, rfl, trivial⟩) ?_ ?_
  · exact ⟨hH, hb11, ho11, rfl, by rw [Nat.zero_mul]; exact h0, by omega⟩
  rintro ⟨i, b11, cap11, cur11, g⟩ wn ⟨hH, hge11, ho11, hg, hj, hi⟩
  intro mu0 hmu; try dsimp only at hmu
  show WC _ _ _ _ [(1, vint m), (2, .func (.func F) #[] cs.toArray), (7, vsl b11 g.length cap11), (12, vint n), (13, vint i)] _
  refine WC.seq ?_
  refine WC.region ?_
  refine WL.u rfl rfl (Wt.plain rfl) (Ex.lss rfl rfl) ?_
  refine WL.next ?_
  refine WC.seq ?_
  refine WC.cond rfl (fun hc1 => ?_) (fun hc1 => ?_)
  · have hc1' := hc1; try simp only [decide_eq_true_eq, decide_eq_false_iff_not, Bool.not_eq_true', Bool.not_eq_false', Bool.not_eq_true, Bool.not_eq_false] at hc1'
    have hlt : i < n := by omega
    have hgl : g.length = i := by rw [hg]; simp
    have hsz5 := hH.keep.size
    refine WC.skip ?_
    refine WN.next ?_
    refine WC.seq ?_
    refine WC.block ?_
    refine WC.seq ?_
    refine WC.region ?_
    refine WL.u rfl rfl (Wt.plain rfl) (Ex.move rfl) ?_
    refine WL.u rfl rfl (Wt.plain rfl) (Ex.assign rfl) ?_
    refine WL.next ?_
    refine WC.seq ?_
    refine WC.region ?_
    refine WL.lit0 Try.underlying30 ty5 rfl (Wt.plain rfl) hH (fun b16 wn hb16 hk16 hH => ?_)
    have ho16 := Own.nil rByte
    replace hj := hJ _ _ _ _ hj hk16 (by simp)
    have hsz16 := hH.keep.size
    refine WL.u rfl rfl (Wt.plain rfl) (Ex.assign rfl) ?_
    refine WL.next ?_
    refine WC.seq ?_
    refine WC.seq ?_
    refine WC.region ?_
    refine WL.u rfl rfl (Wt.plain rfl) (Ex.move rfl) ?_
    refine WL.u rfl rfl (Wt.plain rfl) (Ex.move rfl) ?_
    refine WL.next ?_
    refine WC.block ?_
    replace hH := hH.f1
    refine WC.loop (ι := Nat × Nat × Nat × (Array Value) × (List UInt8)) (fun (k, b16, cap16, cur16, row) => [(1, vint m), (2, .func (.func F) #[] cs.toArray), (7, vsl b11 g.length cap11), (8, vint i), (9, vsl b16 row.length cap16), (12, vint n), (13, vint i), (17, vint m), (18, vint k)]) (fun (k, b16, cap16, cur16, row) wn => Hp T w wn [(b11, .cells cur11 9 (0, 0)), (b16, .cells cur16 5 (0, 0))] ∧ w.heap.size ≤ b16 ∧ Own rByte cur16 cap16 row ∧ row = (List.range k).map (fun k => Lt i k) ∧ J (i * m + k) wn ∧ k ≤ m) (fun (k, b16, cap16, cur16, row) => m - k) ((0, b16, 0, #[], [])) (by exact ⟨rfl, rfl, rfl, rfl, rfl, rfl, rfl, rfl, rfl, trivial⟩) ?_ ?_
    · exact ⟨hH, by omega, ho16, rfl, hj, by omega⟩
    rintro ⟨k, b16, cap16, cur16, row⟩ wn ⟨hH, hge16, ho16, hrow, hj, hk⟩
    intro mu0 hmu; try dsimp only at hmu
    show WC _ _ _ _ [(1, vint m), (2, .func (.func F) #[] cs.toArray), (7, vsl b11 g.length cap11), (8, vint i), (9, vsl b16 row.length cap16), (12, vint n), (13, vint i), (17, vint m), (18, vint k)] _
    refine WC.seq ?_
    refine WC.region ?_
    refine WL.u rfl rfl (Wt.plain rfl) (Ex.lss rfl rfl) ?_
    refine WL.next ?_
    refine WC.seq ?_
    refine WC.cond rfl (fun hc2 => ?_) (fun hc2 => ?_)
    · have hc2' := hc2; try simp only [decide_eq_true_eq, decide_eq_false_iff_not, Bool.not_eq_true', Bool.not_eq_false', Bool.not_eq_true, Bool.not_eq_false] at hc2'
      have hlk : k < m := by omega
      have hrl : row.length = k := by rw [hrow]; simp
      refine WC.skip ?_
      refine WN.next ?_
      refine WC.seq ?_
      refine WC.block ?_
      refine WC.seq ?_
      refine WC.region ?_
      refine WL.u rfl rfl (Wt.plain rfl) (Ex.move rfl) ?_
      refine WL.u rfl rfl (Wt.plain rfl) (Ex.assign rfl) ?_
      refine WL.next ?_
      refine WC.region ?_
      refine WL.u rfl rfl (Wt.plain rfl) (Ex.move rfl) ?_
      refine WL.u rfl rfl (Wt.plain rfl) (Ex.move rfl) ?_
      refine WL.u rfl rfl (Wt.plain rfl) (Ex.move rfl) ?_
      refine WL.u rfl rfl (Wt.plain rfl) (Ex.move rfl) ?_
      refine WL.call hF rfl (Wt.plain rfl) rfl rfl (hf _ i k hH.keep hlt hlk hj) ?_
      rintro _ wn ⟨rfl, hj, hC⟩; replace hH := hH.callT hT (by intro p hp; simp only [List.mem_cons, List.not_mem_nil, or_false] at hp; rcases hp with rfl | rfl <;> assumption) hC; clear hC; have hsz := hH.keep.size
      replace hH := hH.f1
      refine WL.append1 (r := rByte) (u := Lt i k) Try.underlying30 ty5 rfl rfl (fun _ => rfl) (fun _ => rfl) rfl rfl (Wt.plain rfl) (fun _ => (Wt.plain rfl)) hH ho16 rfl (by omega) (by omega) (fun b16 cap16 cur16 wn x16 hb16 hk16 hH ho16 => ?_)
      replace hj := hJ _ _ _ _ hj hk16 (by intro x hx; rw [List.mem_singleton.1 hx]; assumption)
      refine WL.u rfl rfl (Wt.plain rfl) (Ex.assign rfl) ?_
      refine WL.last ?_
      refine WN.normalBlock ?_
      refine WN.next ?_
      refine WC.region ?_
      refine WL.u rfl rfl (Wt.plain rfl) (Ex.add rfl rfl (by omega)) ?_
      refine WL.u rfl rfl (Wt.plain rfl) (Ex.move rfl) ?_
      refine WL.last ?_
      replace hH := hH.f1
      refine WN.round (k + 1, b16, cap16, cur16, row ++ [Lt i k]) (by exact ⟨rfl, rfl, rfl, rfl, rfl, rfl, rfl, rfl, rfl, trivial⟩) ?_ ?_
      · exact ⟨hH, by omega, ho16, by rw [range_snoc, ← hrow], hj, by omega⟩
      · (try dsimp only); omega
    have hc2' := hc2; try simp only [decide_eq_true_eq, decide_eq_false_iff_not, Bool.not_eq_true', Bool.not_eq_false', Bool.not_eq_true, Bool.not_eq_false] at hc2'
    have hkm : k = m := by omega
    have hrow2 : row = (List.range m).map (fun k => Lt i k) := by rw [hrow, hkm]
    have hrl2 : row.length = m := by rw [hrow2]; simp
    have hsz := hH.keep.size
    refine WC.exit ?_
    refine WN.exitThen ?_
    refine WN.exitThen ?_
    refine WN.exitHere ?_
    refine WN.next ?_
    refine WC.region ?_
    refine WL.u rfl rfl (Wt.plain rfl) (Ex.move rfl) ?_
    refine WL.u rfl rfl (Wt.plain rfl) (Ex.move rfl) ?_
    refine WL.u rfl rfl (Wt.plain rfl) (Ex.bytesStr Try.underlying30 Try.underlying5 Try.underlying9 rfl (ho16.slAt hH 1 rfl)) ?_
    refine WL.append1 (r := rStr) (u := row) Try.underlying32 ty9 rfl rfl (fun _ => rfl) (fun _ => rfl) rfl rfl (Wt.plain rfl) (fun _ => (Wt.plain rfl)) hH ho11 rfl (by omega) (by omega) (fun b11 cap11 cur11 wn x11 hb11 hk11 hH ho11 => ?_)
    replace hj := hJ _ _ _ _ hj hk11 (by intro x hx; rw [List.mem_singleton.1 hx]; assumption)
    refine WL.u rfl rfl (Wt.plain rfl) (Ex.assign rfl) ?_
    refine WL.last ?_
    refine WN.normalBlock ?_
    refine WN.next ?_
    refine WC.region ?_
    refine WL.u rfl rfl (Wt.plain rfl) (Ex.add rfl rfl (by omega)) ?_
    refine WL.u rfl rfl (Wt.plain rfl) (Ex.move rfl) ?_
    refine WL.last ?_
    replace hH := hH.first1
    refine WN.round (i + 1, b11, cap11, cur11, g ++ [row]) (by exact ⟨rfl, rfl, rfl, rfl, rfl, trivial⟩) ?_ ?_
    · exact ⟨hH, by omega, ho11, by rw [range_snoc, ← hg, hrow2], by rw [Nat.add_mul, Nat.one_mul]; rw [hkm] at hj; exact hj, by omega⟩
    · (try dsimp only); omega
  have hc1' := hc1; try simp only [decide_eq_true_eq, decide_eq_false_iff_not, Bool.not_eq_true', Bool.not_eq_false', Bool.not_eq_true, Bool.not_eq_false] at hc1'
  refine WC.exit ?_
  refine WN.exitThen ?_
  refine WN.exitThen ?_
  refine WN.exitHere ?_
  refine WN.next ?_
  refine WC.seq ?_
  refine WC.region ?_
  refine WL.u rfl rfl (Wt.plain rfl) (Ex.move rfl) ?_
  refine WL.u rfl rfl (Wt.plain rfl) (Ex.assign rfl) ?_
  refine WL.next ?_
  refine WC.ret ?_
  refine WN.body1 rfl rfl ?_
  have hin : i = n := by omega
  rw [hin] at hg hj
  exact ⟨hj, hH.keep, by rw [show gridOf n m Lt = g from hg.symm]; exact New.of hH ho11 hge11⟩


theorem makeGrid0 (n m F : Nat) (cs : List Value) (Lt : Nat → Nat → UInt8) (w : World) (hF : Callable Try.prog F) (hn : n ≤ 100) (hm : m ≤ 100)
    (hf : ∀ (w2 : World) (i k : Nat), Keep [] w w2 → i < n → k < m → Fn Try.prog F ([vint i, vint k] ++ cs) w2 (fun v w3 => v = .int .u8 (Lt i k).toNat ∧ Keep [] w2 w3)) :
    Fn Try.prog 59 [vint n, vint m, .func (.func F) #[] cs.toArray] w (fun v w1 => Keep [] w w1 ∧ New rStr 9 w w1 v (gridOf n m Lt)) :=
  (imakeGridJ n m F cs Lt [] (fun _ _ => True) w hF hn hm (by simp) (fun _ _ _ _ _ _ _ => trivial) trivial (fun w2 i k h1 h2 h3 _ => (hf w2 i k h1 h2 h3).mono fun v w3 h => ⟨h.1, trivial, h.2⟩)).mono fun v w1 h => h.2

end Go.Proofs.Ytamkbmhgclpidaa
