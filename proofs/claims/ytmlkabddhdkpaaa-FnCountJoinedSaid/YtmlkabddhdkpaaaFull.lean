/- Grids that a function of cells makes; all grids of two letters. -/
import Derived.Test.YtmlkabddhdkpaaaEach
namespace Go.Proofs.Ytmlkabddhdkpaaa
set_option maxRecDepth 100000
set_option linter.unusedSimpArgs false
set_option linter.unusedVariables false
open Go Go.RowKit

theorem imakeGridJ (n m F : Nat) (cs : List Value) (Lt : Nat → Nat → UInt8) (T : List Nat) (J : Nat → World → Prop) (w : World) (hF : Callable Try.prog F) (hn : n ≤ 100) (hm : m ≤ 100) (hT : ∀ k ∈ T, k < w.heap.size) (hJ : ∀ c S w2 w3, J c w2 → Keep S w2 w3 → (∀ k ∈ S, w.heap.size ≤ k) → J c w3) (h0 : J 0 w) (hf : ∀ (w2 : World) (i k : Nat), Keep T w w2 → i < n → k < m → J (i * m + k) w2 → Fn Try.prog F ([vint i, vint k] ++ cs) w2 (fun v w3 => v = .int .u8 (Lt i k).toNat ∧ J (i * m + k + 1) w3 ∧ Keep T w2 w3)) : Fn Try.prog 33 [vint n, vint m, .func (.func F) #[] cs.toArray] w (fun v w1 => J (n * m) w1 ∧ Keep T w w1 ∧ New rStr 9 w w1 v (gridOf n m Lt)) := by
  refine Fn.enter (n := 36) Try.func33 rfl rfl rfl ?_
  show WC _ _ _ _ [(0, vint n), (1, vint m), (2, .func (.func F) #[] cs.toArray)] _
  have hH := Hp.start T w
  refine WC.seq ?_
  refine WC.region ?_
  refine WL.u rfl rfl (Wt.plain rfl) (Ex.assign rfl) ?_
  refine WL.next ?_
  refine WC.seq ?_
  refine WC.region ?_
  refine WL.lit0 Try.underlying35 ty9 rfl (Wt.plain rfl) hH (fun b11 wn hb11 hk11 hH => ?_)
  have ho11 := Own.nil rStr
  replace h0 := hJ _ _ _ _ h0 hk11 (by simp)
  refine WL.u rfl rfl (Wt.plain rfl) (Ex.assign rfl) ?_
  refine WL.next ?_
  refine WC.seq ?_
  refine WC.seq ?_
  refine WC.region ?_
  refine WL.u rfl rfl (Wt.plain rfl) (Ex.move rfl) ?_
  refine WL.u rfl rfl (Wt.plain rfl) (Ex.move rfl) ?_
  refine WL.next ?_
  refine WC.block ?_
  refine WC.loop (ι := Nat × Nat × Nat × (Array Value) × Grid) (fun (i, b11, cap11, cur11, g) => [(1, vint m), (2, .func (.func F) #[] cs.toArray), (7, vsl b11 g.length cap11), (12, vint n), (13, vint i)]) (fun (i, b11, cap11, cur11, g) wn => Hp T w wn [(b11, .cells cur11 9 (0, 0))] ∧ w.heap.size ≤ b11 ∧ Own rStr cur11 cap11 g ∧ g = (List.range i).map (fun i => (List.range m).map fun k => Lt i k) ∧ J (i * m) wn ∧ i ≤ n) (fun (i, b11, cap11, cur11, g) => n - i) ((0, b11, 0, #[], [])) (by exact ⟨rfl, rfl, rfl, rfl, rfl, trivial⟩) ?_ ?_
  · exact ⟨hH, hb11, ho11, rfl, by rw [Nat.zero_mul]; exact h0, by omega⟩
  rintro ⟨i, b11, cap11, cur11, g⟩ wn ⟨hH, hge11, ho11, hg, hj, hi⟩
  intro mu0 hmu; try dsimp only at hmu
  show WC _ _ _ _ [(1, vint m), (2, .func (.func F) #[] cs.toArray), (7, vsl b11 g.length cap11), (12, vint n), (13, vint i)] _
  refine WC.seq ?_
  refine WC.region ?_
  refine WL.u rfl rfl (Wt.plain rfl) (Ex.lss rfl rfl) ?_
  refine WL.next ?_
  refine WC.seq ?_
  refine WC.cond rfl (fun hc1 => ?_) (fun hc1 => ?_)
  · have hc1' := hc1; try simp only [decide_eq_true_eq, decide_eq_false_iff_not, Bool.not_eq_true', Bool.not_eq_false', Bool.not_eq_true, Bool.not_eq_false] at hc1'
    have hlt : i < n := by omega
    have hgl : g.length = i := by rw [hg]; simp
    have hsz5 := hH.keep.size
    refine WC.skip ?_
    refine WN.next ?_
    refine WC.seq ?_
    refine WC.block ?_
    refine WC.seq ?_
    refine WC.region ?_
    refine WL.u rfl rfl (Wt.plain rfl) (Ex.move rfl) ?_
    refine WL.u rfl rfl (Wt.plain rfl) (Ex.assign rfl) ?_
    refine WL.next ?_
    refine WC.seq ?_
    refine WC.region ?_
    refine WL.lit0 Try.underlying28 ty5 rfl (Wt.plain rfl) hH (fun b16 wn hb16 hk16 hH => ?_)
    have ho16 := Own.nil rByte
    replace hj := hJ _ _ _ _ hj hk16 (by simp)
    have hsz16 := hH.keep.size
    refine WL.u rfl rfl (Wt.plain rfl) (Ex.assign rfl) ?_
    refine WL.next ?_
    refine WC.seq ?_
    refine WC.seq ?_
    refine WC.region ?_
    refine WL.u rfl rfl (Wt.plain rfl) (Ex.move rfl) ?_
    refine WL.u rfl rfl (Wt.plain rfl) (Ex.move rfl) ?_
    refine WL.next ?_
    refine WC.block ?_
    replace hH := hH.f1
    refine WC.loop (ι := Nat × Nat × Nat × (Array Value) × (List UInt8)) (fun (k, b16, cap16, cur16, row) => [(1, vint m), (2, .func (.func F) #[] cs.toArray), (7, vsl b11 g.length cap11), (8, vint i), (9, vsl b16 row.length cap16), (12, vint n), (13, vint i), (17, vint m), (18, vint k)]) (fun (k, b16, cap16, cur16, row) wn => Hp T w wn [(b11, .cells cur11 9 (0, 0)), (b16, .cells cur16 5 (0, 0))] ∧ w.heap.size ≤ b16 ∧ Own rByte cur16 cap16 row ∧ row = (List.range k).map (fun k => Lt i k) ∧ J (i * m + k) wn ∧ k ≤ m) (fun (k, b16, cap16, cur16, row) => m - k) ((0, b16, 0, #[], [])) (by exact ⟨rfl, rfl, rfl, rfl, rfl, rfl, rfl, rfl, rfl, trivial⟩) ?_ ?_
    · exact ⟨hH, by omega, ho16, rfl, hj, by omega⟩
    rintro ⟨k, b16, cap16, cur16, row⟩ wn ⟨hH, hge16, ho16, hrow, hj, hk⟩
    intro mu0 hmu; try dsimp only at hmu
    show WC _ _ _ _ [(1, vint m), (2, .func (.func F) #[] cs.toArray), (7, vsl b11 g.length cap11), (8, vint i), (9, vsl b16 row.length cap16), (12, vint n), (13, vint i), (17, vint m), (18, vint k)] _
    refine WC.seq ?_
    refine WC.region ?_
    refine WL.u rfl rfl (Wt.plain rfl) (Ex.lss rfl rfl) ?_
    refine WL.next ?_
    refine WC.seq ?_
    refine WC.cond rfl (fun hc2 => ?_) (fun hc2 => ?_)
    · have hc2' := hc2; try simp only [decide_eq_true_eq, decide_eq_false_iff_not, Bool.not_eq_true', Bool.not_eq_false', Bool.not_eq_true, Bool.not_eq_false] at hc2'
      have hlk : k < m := by omega
      have hrl : row.length = k := by rw [hrow]; simp
      refine WC.skip ?_
      refine WN.next ?_
      refine WC.seq ?_
      refine WC.block ?_
      refine WC.seq ?_
      refine WC.region ?_
      refine WL.u rfl rfl (Wt.plain rfl) (Ex.move rfl) ?_
      refine WL.u rfl rfl (Wt.plain rfl) (Ex.assign rfl) ?_
      refine WL.next ?_
      refine WC.region ?_
      refine WL.u rfl rfl (Wt.plain rfl) (Ex.move rfl) ?_
      refine WL.u rfl rfl (Wt.plain rfl) (Ex.move rfl) ?_
      refine WL.u rfl rfl (Wt.plain rfl) (Ex.move rfl) ?_
      refine WL.u rfl rfl (Wt.plain rfl) (Ex.move rfl) ?_
      refine WL.call hF rfl (Wt.plain rfl) rfl rfl (hf _ i k hH.keep hlt hlk hj) ?_
      rintro _ wn ⟨rfl, hj, hC⟩; replace hH := hH.callT hT (by intro p hp; simp only [List.mem_cons, List.not_mem_nil, or_false] at hp; rcases hp with rfl | rfl <;> assumption) hC; clear hC; have hsz := hH.keep.size
      replace hH := hH.f1
      refine WL.append1 (r := rByte) (u := Lt i k) Try.underlying28 ty5 rfl rfl (fun _ => rfl) (fun _ => rfl) rfl rfl (Wt.plain rfl) (fun _ => (Wt.plain rfl)) hH ho16 rfl (by omega) (by omega) (fun b16 cap16 cur16 wn x16 hb16 hk16 hH ho16 => ?_)
      replace hj := hJ _ _ _ _ hj hk16 (by intro x hx; rw [List.mem_singleton.1 hx]; assumption)
      refine WL.u rfl rfl (Wt.plain rfl) (Ex.assign rfl) ?_
      refine WL.last ?_
      refine WN.normalBlock ?_
      refine WN.next ?_
      refine WC.region ?_
      refine WL.u rfl rfl (Wt.plain rfl) (Ex.add rfl rfl (by omega)) ?_
      refine WL.u rfl rfl (Wt.plain rfl) (Ex.move rfl) ?_
      refine WL.last ?_
      replace hH := hH.f1
      refine WN.round (k + 1, b16, cap16, cur16, row ++ [Lt i k]) (by exact ⟨rfl, rfl, rfl, rfl, rfl, rfl, rfl, rfl, rfl, trivial⟩) ?_ ?_
      · exact ⟨hH, by omega, ho16, by rw [range_snoc, ← hrow], hj, by omega⟩
      · (try dsimp only); omega
    have hc2' := hc2; try simp only [decide_eq_true_eq, decide_eq_false_iff_not, Bool.not_eq_true', Bool.not_eq_false', Bool.not_eq_true, Bool.not_eq_false] at hc2'
    have hkm : k = m := by omega
    have hrow2 : row = (List.range m).map (fun k => Lt i k) := by rw [hrow, hkm]
    have hrl2 : row.length = m := by rw [hrow2]; simp
    have hsz := hH.keep.size
    refine WC.exit ?_
    refine WN.exitThen ?_
    refine WN.exitThen ?_
    refine WN.exitHere ?_
    refine WN.next ?_
    refine WC.region ?_
    refine WL.u rfl rfl (Wt.plain rfl) (Ex.move rfl) ?_
    refine WL.u rfl rfl (Wt.plain rfl) (Ex.move rfl) ?_
    refine WL.u rfl rfl (Wt.plain rfl) (Ex.bytesStr Try.underlying28 Try.underlying5 Try.underlying9 rfl (ho16.slAt hH 1 rfl)) ?_
    refine WL.append1 (r := rStr) (u := row) Try.underlying35 ty9 rfl rfl (fun _ => rfl) (fun _ => rfl) rfl rfl (Wt.plain rfl) (fun _ => (Wt.plain rfl)) hH ho11 rfl (by omega) (by omega) (fun b11 cap11 cur11 wn x11 hb11 hk11 hH ho11 => ?_)
    replace hj := hJ _ _ _ _ hj hk11 (by intro x hx; rw [List.mem_singleton.1 hx]; assumption)
    refine WL.u rfl rfl (Wt.plain rfl) (Ex.assign rfl) ?_
    refine WL.last ?_
    refine WN.normalBlock ?_
    refine WN.next ?_
    refine WC.region ?_
    refine WL.u rfl rfl (Wt.plain rfl) (Ex.add rfl rfl (by omega)) ?_
    refine WL.u rfl rfl (Wt.plain rfl) (Ex.move rfl) ?_
    refine WL.last ?_
    replace hH := hH.first1
    refine WN.round (i + 1, b11, cap11, cur11, g ++ [row]) (by exact ⟨rfl, rfl, rfl, rfl, rfl, trivial⟩) ?_ ?_
    · exact ⟨hH, by omega, ho11, by rw [range_snoc, ← hg, hrow2], by rw [Nat.add_mul, Nat.one_mul]; rw [hkm] at hj; exact hj, by omega⟩
    · (try dsimp only); omega
  have hc1' := hc1; try simp only [decide_eq_true_eq, decide_eq_false_iff_not, Bool.not_eq_true', Bool.not_eq_false', Bool.not_eq_true, Bool.not_eq_false] at hc1'
  refine WC.exit ?_
  refine WN.exitThen ?_
  refine WN.exitThen ?_
  refine WN.exitHere ?_
  refine WN.next ?_
  refine WC.seq ?_
  refine WC.region ?_
  refine WL.u rfl rfl (Wt.plain rfl) (Ex.move rfl) ?_
  refine WL.u rfl rfl (Wt.plain rfl) (Ex.assign rfl) ?_
  refine WL.next ?_
  refine WC.ret ?_
  refine WN.body1 rfl rfl ?_
  have hin : i = n := by omega
  rw [hin] at hg hj
  exact ⟨hj, hH.keep, by rw [show gridOf n m Lt = g from hg.symm]; exact New.of hH ho11 hge11⟩

theorem ifullGrids1 (i k m bits b6 b4 : Nat) (w : World) (h6 : w.cell? ⟨b6, 0, none⟩ = some (vint bits)) (h4 : w.cell? ⟨b4, 0, none⟩ = some (vint m)) (hi : i ≤ 5) (hk : k ≤ 5) (hm : m ≤ 5) (hb : bits < 4611686018427387904) : Fn Try.prog 34 [vint i, vint k, vptr b6 0, vptr b4 0] w (fun v w1 => v = .int .u8 (mirror m bits i k).toNat ∧ w1 = w) := by
  refine Fn.enter (n := 16) Try.func34 rfl rfl rfl ?_
  show WC _ _ _ _ [(0, vint i), (1, vint k), (2, vptr b6 0), (3, vptr b4 0)] _
  have hmul : i * m ≤ 25 := Nat.mul_le_mul hi hm
  have hmI : (i : Int) * (m : Int) = ((i * m : Nat) : Int) := (Int.natCast_mul i m).symm
  have hdv : bits / 2 ^ (i * m + k) ≤ bits := Nat.div_le_self _ _
  refine WC.seq ?_
  refine WC.region ?_
  refine WL.u rfl rfl (Wt.plain rfl) (Ex.assign rfl) ?_
  refine WL.next ?_
  refine WC.seq ?_
  refine WC.region ?_
  refine WL.u rfl rfl (Wt.plain rfl) (Ex.load flat3 rfl h6) ?_
  refine WL.u rfl rfl (Wt.plain rfl) (Ex.move rfl) ?_
  refine WL.u rfl rfl (Wt.plain rfl) (Ex.load flat3 rfl h4) ?_
  refine WL.u rfl rfl (Wt.plain rfl) ((Ex.mul rfl rfl (by omega)).to (congrArg (Value.int IntKind.i64) hmI)) ?_
  refine WL.u rfl rfl (Wt.plain rfl) (Ex.move rfl) ?_
  refine WL.u rfl rfl (Wt.plain rfl) ((Ex.add rfl rfl (by omega)).to (congrArg (Value.int IntKind.i64) (Int.natCast_add (i * m) k).symm)) ?_
  refine WL.u rfl rfl (Wt.plain rfl) (Ex.shr rfl rfl (by omega)) ?_
  refine WL.u rfl rfl (Wt.plain rfl) (Ex.and1 rfl (by omega)) ?_
  refine WL.u rfl rfl (Wt.plain rfl) (Ex.indexStr Try.underlying9 rfl rfl (by simp only [List.length_cons, List.length_nil]; omega)) ?_
  refine WL.u rfl rfl (Wt.plain rfl) (Ex.assign rfl) ?_
  refine WL.next ?_
  refine WC.ret ?_
  refine WN.body1 rfl rfl ?_
  exact ⟨rfl, rfl⟩

theorem sl3Mirrors (n m bits : Nat) (w : World) (hn : n ≤ 5) (hm : m ≤ 5) (hb : bits < 4611686018427387904) : Fn Try.prog 15 [vint n, vint m, vint bits] w (fun v w1 => Keep [] w w1 ∧ New rStr 9 w w1 v (full n m bits)) := by
  refine Fn.enter (n := 41) Try.func15 rfl rfl rfl ?_
  show WC _ _ _ _ [(0, vint n), (1, vint m), (2, vint bits)] _
  have hH := Hp.start [] w
  refine WC.seq ?_
  refine WC.region ?_
  refine WL.u rfl rfl (Wt.plain rfl) (Ex.assign rfl) ?_
  refine WL.next ?_
  refine WC.seq ?_
  refine WC.region ?_
  refine WL.lit0 Try.underlying35 ty9 rfl (Wt.plain rfl) hH (fun b11 wn hb11 hk11 hH => ?_)
  have ho11 := Own.nil rStr
  refine WL.u rfl rfl (Wt.plain rfl) (Ex.assign rfl) ?_
  refine WL.next ?_
  refine WC.seq ?_
  refine WC.seq ?_
  refine WC.region ?_
  refine WL.u rfl rfl (Wt.plain rfl) (Ex.assign rfl) ?_
  refine WL.next ?_
  refine WC.block ?_
  refine WC.loop (ι := Nat × Nat × Nat × (Array Value) × Grid) (fun (i, b11, cap11, cur11, g) => [(0, vint n), (1, vint m), (2, vint bits), (7, vsl b11 g.length cap11), (8, vint i)]) (fun (i, b11, cap11, cur11, g) wn => Hp [] w wn [(b11, .cells cur11 9 (0, 0))] ∧ Own rStr cur11 cap11 g ∧ g = (List.range i).map (fun i => (List.range m).map fun k => mirror m bits i k) ∧ i ≤ n) (fun (i, b11, cap11, cur11, g) => n - i) ((0, b11, 0, #[], [])) (by exact ⟨rfl, rfl, rfl, rfl, rfl, trivial⟩) ?_ ?_
  · exact ⟨hH, ho11, rfl, by omega⟩
  rintro ⟨i, b11, cap11, cur11, g⟩ wn ⟨hH, ho11, hg, hi⟩
  intro mu0 hmu; try dsimp only at hmu
  show WC _ _ _ _ [(0, vint n), (1, vint m), (2, vint bits), (7, vsl b11 g.length cap11), (8, vint i)] _
  refine WC.seq ?_
  refine WC.seq ?_
  refine WC.region ?_
  refine WL.u rfl rfl (Wt.plain rfl) (Ex.move rfl) ?_
  refine WL.u rfl rfl (Wt.plain rfl) (Ex.move rfl) ?_
  refine WL.u rfl rfl (Wt.plain rfl) (Ex.lss rfl rfl) ?_
  refine WL.next ?_
  refine WC.cond rfl (fun hc1 => ?_) (fun hc1 => ?_)
  · have hc1' := hc1; try simp only [decide_eq_true_eq, decide_eq_false_iff_not, Bool.not_eq_true', Bool.not_eq_false', Bool.not_eq_true, Bool.not_eq_false] at hc1'
    have hlt : i < n := by omega
    have hgl : g.length = i := by rw [hg]; simp
    refine WC.skip ?_
    refine WN.next ?_
    refine WC.seq ?_
    refine WC.block ?_
    refine WC.seq ?_
    refine WC.region ?_
    refine WL.lit0 Try.underlying28 ty5 rfl (Wt.plain rfl) hH (fun b17 wn hb17 hk17 hH => ?_)
    have ho17 := Own.nil rByte
    refine WL.u rfl rfl (Wt.plain rfl) (Ex.assign rfl) ?_
    refine WL.next ?_
    refine WC.seq ?_
    refine WC.seq ?_
    refine WC.region ?_
    refine WL.u rfl rfl (Wt.plain rfl) (Ex.assign rfl) ?_
    refine WL.next ?_
    refine WC.block ?_
    replace hH := hH.f1
    refine WC.loop (ι := Nat × Nat × Nat × (Array Value) × (List UInt8)) (fun (k, b17, cap17, cur17, row) => [(0, vint n), (1, vint m), (2, vint bits), (7, vsl b11 g.length cap11), (8, vint i), (9, vsl b17 row.length cap17), (10, vint k)]) (fun (k, b17, cap17, cur17, row) wn => Hp [] w wn [(b11, .cells cur11 9 (0, 0)), (b17, .cells cur17 5 (0, 0))] ∧ Own rByte cur17 cap17 row ∧ row = (List.range k).map (fun k => mirror m bits i k) ∧ k ≤ m) (fun (k, b17, cap17, cur17, row) => m - k) ((0, b17, 0, #[], [])) (by exact ⟨rfl, rfl, rfl, rfl, rfl, rfl, rfl, trivial⟩) ?_ ?_
    · exact ⟨hH, ho17, rfl, by omega⟩
    rintro ⟨k, b17, cap17, cur17, row⟩ wn ⟨hH, ho17, hrow, hk⟩
    intro mu0 hmu; try dsimp only at hmu
    show WC _ _ _ _ [(0, vint n), (1, vint m), (2, vint bits), (7, vsl b11 g.length cap11), (8, vint i), (9, vsl b17 row.length cap17), (10, vint k)] _
    refine WC.seq ?_
    refine WC.seq ?_
    refine WC.region ?_
    refine WL.u rfl rfl (Wt.plain rfl) (Ex.move rfl) ?_
    refine WL.u rfl rfl (Wt.plain rfl) (Ex.move rfl) ?_
    refine WL.u rfl rfl (Wt.plain rfl) (Ex.lss rfl rfl) ?_
    refine WL.next ?_
    refine WC.cond rfl (fun hc2 => ?_) (fun hc2 => ?_)
    · have hc2' := hc2; try simp only [decide_eq_true_eq, decide_eq_false_iff_not, Bool.not_eq_true', Bool.not_eq_false', Bool.not_eq_true, Bool.not_eq_false] at hc2'
      have hlk : k < m := by omega
      have hrl : row.length = k := by rw [hrow]; simp
      have hmul : i * m ≤ 25 := Nat.mul_le_mul (show i ≤ 5 by omega) hm
      have hmI : (i : Int) * (m : Int) = ((i * m : Nat) : Int) := (Int.natCast_mul i m).symm
      have hdv : bits / 2 ^ (i * m + k) ≤ bits := Nat.div_le_self _ _
      refine WC.skip ?_
      refine WN.next ?_
      refine WC.seq ?_
      refine WC.block ?_
      refine WC.region ?_
      refine WL.u rfl rfl (Wt.plain rfl) (Ex.move rfl) ?_
      refine WL.u rfl rfl (Wt.plain rfl) (Ex.move rfl) ?_
      refine WL.u rfl rfl (Wt.plain rfl) (Ex.move rfl) ?_
      refine WL.u rfl rfl (Wt.plain rfl) (Ex.move rfl) ?_
      refine WL.u rfl rfl (Wt.plain rfl) ((Ex.mul rfl rfl (by omega)).to (congrArg (Value.int IntKind.i64) hmI)) ?_
      refine WL.u rfl rfl (Wt.plain rfl) (Ex.move rfl) ?_
      refine WL.u rfl rfl (Wt.plain rfl) ((Ex.add rfl rfl (by omega)).to (congrArg (Value.int IntKind.i64) (Int.natCast_add (i * m) k).symm)) ?_
      refine WL.u rfl rfl (Wt.plain rfl) (Ex.shr rfl rfl (by omega)) ?_
      refine WL.u rfl rfl (Wt.plain rfl) (Ex.and1 rfl (by omega)) ?_
      refine WL.u rfl rfl (Wt.plain rfl) (Ex.indexStr Try.underlying9 rfl rfl (by simp only [List.length_cons, List.length_nil]; omega)) ?_
      replace hH := hH.f1
      refine WL.append1 (r := rByte) (u := mirror m bits i k) Try.underlying28 ty5 rfl rfl (fun _ => rfl) (fun _ => rfl) rfl rfl (Wt.plain rfl) (fun _ => (Wt.plain rfl)) hH ho17 rfl (by omega) (by omega) (fun b17 cap17 cur17 wn x17 hb17 hk17 hH ho17 => ?_)
      refine WL.u rfl rfl (Wt.plain rfl) (Ex.assign rfl) ?_
      refine WL.last ?_
      refine WN.normalBlock ?_
      refine WN.next ?_
      refine WC.region ?_
      refine WL.u rfl rfl (Wt.plain rfl) (Ex.move rfl) ?_
      refine WL.u rfl rfl (Wt.plain rfl) (Ex.add rfl rfl (by omega)) ?_
      refine WL.u rfl rfl (Wt.plain rfl) (Ex.assign rfl) ?_
      refine WL.last ?_
      replace hH := hH.f1
      refine WN.round (k + 1, b17, cap17, cur17, row ++ [mirror m bits i k]) (by exact ⟨rfl, rfl, rfl, rfl, rfl, rfl, rfl, trivial⟩) ?_ ?_
      · exact ⟨hH, ho17, by rw [range_snoc, ← hrow], by omega⟩
      · (try dsimp only); omega
    have hc2' := hc2; try simp only [decide_eq_true_eq, decide_eq_false_iff_not, Bool.not_eq_true', Bool.not_eq_false', Bool.not_eq_true, Bool.not_eq_false] at hc2'
    have hkm : k = m := by omega
    have hrow2 : row = (List.range m).map (fun k => mirror m bits i k) := by rw [hrow, hkm]
    have hrl2 : row.length = m := by rw [hrow2]; simp
    refine WC.exit ?_
    refine WN.exitThen ?_
    refine WN.exitThen ?_
    refine WN.exitHere ?_
    refine WN.next ?_
    refine WC.region ?_
    refine WL.u rfl rfl (Wt.plain rfl) (Ex.move rfl) ?_
    refine WL.u rfl rfl (Wt.plain rfl) (Ex.move rfl) ?_
    refine WL.u rfl rfl (Wt.plain rfl) (Ex.bytesStr Try.underlying28 Try.underlying5 Try.underlying9 rfl (ho17.slAt hH 1 rfl)) ?_
    refine WL.append1 (r := rStr) (u := row) Try.underlying35 ty9 rfl rfl (fun _ => rfl) (fun _ => rfl) rfl rfl (Wt.plain rfl) (fun _ => (Wt.plain rfl)) hH ho11 rfl (by omega) (by omega) (fun b11 cap11 cur11 wn x11 hb11 hk11 hH ho11 => ?_)
    refine WL.u rfl rfl (Wt.plain rfl) (Ex.assign rfl) ?_
    refine WL.last ?_
    refine WN.normalBlock ?_
    refine WN.next ?_
    refine WC.region ?_
    refine WL.u rfl rfl (Wt.plain rfl) (Ex.move rfl) ?_
    refine WL.u rfl rfl (Wt.plain rfl) (Ex.add rfl rfl (by omega)) ?_
    refine WL.u rfl rfl (Wt.plain rfl) (Ex.assign rfl) ?_
    refine WL.last ?_
    replace hH := hH.first1
    refine WN.round (i + 1, b11, cap11, cur11, g ++ [row]) (by exact ⟨rfl, rfl, rfl, rfl, rfl, trivial⟩) ?_ ?_
    · exact ⟨hH, ho11, by rw [range_snoc, ← hg, hrow2], by omega⟩
    · (try dsimp only); omega
  have hc1' := hc1; try simp only [decide_eq_true_eq, decide_eq_false_iff_not, Bool.not_eq_true', Bool.not_eq_false', Bool.not_eq_true, Bool.not_eq_false] at hc1'
  refine WC.exit ?_
  refine WN.exitThen ?_
  refine WN.exitThen ?_
  refine WN.exitHere ?_
  refine WN.next ?_
  refine WC.seq ?_
  refine WC.region ?_
  refine WL.u rfl rfl (Wt.plain rfl) (Ex.move rfl) ?_
  refine WL.u rfl rfl (Wt.plain rfl) (Ex.assign rfl) ?_
  refine WL.next ?_
  refine WC.ret ?_
  refine WN.body1 rfl rfl ?_
  have hin : i = n := by omega
  rw [hin] at hg
  exact ⟨hH.keep, by rw [show full n m bits = g from hg.symm]; exact New.of hH ho11 (hH.base 0 rfl)⟩


theorem makeGrid0 (n m F : Nat) (cs : List Value) (Lt : Nat → Nat → UInt8) (w : World) (hF : Callable Try.prog F) (hn : n ≤ 100) (hm : m ≤ 100)
    (hf : ∀ (w2 : World) (i k : Nat), Keep [] w w2 → i < n → k < m → Fn Try.prog F ([vint i, vint k] ++ cs) w2 (fun v w3 => v = .int .u8 (Lt i k).toNat ∧ Keep [] w2 w3)) :
    Fn Try.prog 33 [vint n, vint m, .func (.func F) #[] cs.toArray] w (fun v w1 => Keep [] w w1 ∧ New rStr 9 w w1 v (gridOf n m Lt)) :=
  (imakeGridJ n m F cs Lt [] (fun _ _ => True) w hF hn hm (by simp) (fun _ _ _ _ _ _ _ => trivial) trivial (fun w2 i k h1 h2 h3 _ => (hf w2 i k h1 h2 h3).mono fun v w3 h => ⟨h.1, trivial, h.2⟩)).mono fun v w1 h => h.2

theorem ifullGrids (n m F N : Nat) (cs : List Value) (T : List Nat) (J : Nat → List Nat → World → Prop) (w : World) (hN : 2 ^ (n * m) = N) (hn1 : 1 ≤ n) (hn : n ≤ 5) (hm : m ≤ 5) (hE : Each Try.prog F cs (full n m) N T J w) : Fn Try.prog 21 [vint n, vint m, .func (.func F) #[] cs.toArray] w (fun v w1 => ∃ U, J N U w1 ∧ Keep T w w1 ∧ ∀ k ∈ U, k < w1.heap.size ∧ (k ∈ T ∨ w.heap.size ≤ k)) := by
  refine Fn.enter (n := 21) Try.func21 rfl rfl rfl ?_
  show WC _ _ _ _ [(0, vint n), (1, vint m), (2, .func (.func F) #[] cs.toArray)] _
  have hH := Hp.start T w
  have hmul : n * m ≤ 25 := Nat.mul_le_mul hn hm
  have hmI : (n : Int) * (m : Int) = ((n * m : Nat) : Int) := (Int.natCast_mul n m).symm
  have hpw : N ≤ 33554432 := by rw [← hN]; exact Nat.pow_le_pow_right (by decide) hmul
  have hF := hE.fn
  have hT := hE.lt
  have hJ := hE.keep
  have h0 := hE.start
  refine WC.seq ?_
  refine WC.region ?_
  refine WL.box rfl rfl rfl (Wt.plain rfl) hH (fun b4 wn hb4 hk4 hH => ?_)
  replace h0 := hJ _ _ _ _ h0 hk4
  refine WL.next ?_
  refine WC.seq ?_
  refine WC.region ?_
  refine WL.u rfl rfl (Wt.plain rfl) (Ex.move rfl) ?_
  refine WL.u rfl rfl (Wt.plain rfl) (Ex.loadHp flat3 rfl hH rfl) ?_
  refine WL.u rfl rfl (Wt.plain rfl) ((Ex.mul rfl rfl (by omega)).to (congrArg (Value.int IntKind.i64) hmI)) ?_
  refine WL.u rfl rfl (Wt.plain rfl) ((Ex.shl1 rfl (by omega)).to (by rw [hN])) ?_
  refine WL.u rfl rfl (Wt.plain rfl) (Ex.move rfl) ?_
  refine WL.next ?_
  refine WC.block ?_
  refine WC.loop (ι := Nat × (List Nat)) (fun (i, U) => [(0, vint n), (2, .func (.func F) #[] cs.toArray), (4, vptr b4 0), (10, vint N), (11, vint i)]) (fun (i, U) wn => Hp T w wn [(b4, .cells #[vint m] 3 (0, 0))] ∧ w.heap.size ≤ b4 ∧ b4 < wn.heap.size ∧ J i U wn ∧ (∀ k ∈ U, k < wn.heap.size ∧ (k ∈ T ∨ w.heap.size ≤ k) ∧ k ≠ b4) ∧ i ≤ N) (fun (i, U) => N - i) ((0, T)) (by exact ⟨rfl, rfl, rfl, rfl, rfl, trivial⟩) ?_ ?_
  · exact ⟨hH, hb4, hH.lt 0 rfl, h0, fun k hk => ⟨by have := hT k hk; have := hH.keep.size; omega, .inl hk, by have := hT k hk; omega⟩, by omega⟩
  rintro ⟨i, U⟩ wn ⟨hH, hge4, hlt4, hj, hU, hi⟩
  intro mu0 hmu; try dsimp only at hmu
  show WC _ _ _ _ [(0, vint n), (2, .func (.func F) #[] cs.toArray), (4, vptr b4 0), (10, vint N), (11, vint i)] _
  refine WC.seq ?_
  refine WC.region ?_
  refine WL.u rfl rfl (Wt.plain rfl) (Ex.lss rfl rfl) ?_
  refine WL.next ?_
  refine WC.seq ?_
  refine WC.cond rfl (fun hc1 => ?_) (fun hc1 => ?_)
  · have hc1' := hc1; try simp only [decide_eq_true_eq, decide_eq_false_iff_not, Bool.not_eq_true', Bool.not_eq_false', Bool.not_eq_true, Bool.not_eq_false] at hc1'
    have hlt : i < N := by omega
    have hsz0 := hH.keep.size
    refine WC.skip ?_
    refine WN.next ?_
    refine WC.seq ?_
    refine WC.block ?_
    refine WC.seq ?_
    refine WC.region ?_
    refine WL.u rfl rfl (Wt.plain rfl) (Ex.move rfl) ?_
    refine WL.alloc ty3 rfl rfl (Wt.plain rfl) hH (fun b6 wn hb6 hk6 hH => ?_)
    have hkA := hk6
    refine WL.store1 ty3 rfl rfl rfl (Wt.plain rfl) hH (by first | decide | simp) rfl (fun wn hk hH => ?_)
    replace hj := hJ _ _ _ _ hj (hkA.shrink hk (by intro x hx; rw [List.mem_singleton.1 hx]; exact hb6))
    have hsz6 := hk.size
    have hszA := hkA.size
    refine WL.next ?_
    refine WC.region ?_
    refine WL.u rfl rfl (Wt.plain rfl) (Ex.move rfl) ?_
    refine WL.u rfl rfl (Wt.plain rfl) (Ex.move rfl) ?_
    replace hH := hH.f1
    refine WL.u rfl rfl (Wt.plain rfl) (Ex.loadHp flat3 rfl hH rfl) ?_
    refine WL.u rfl rfl (Wt.plain rfl) (Ex.makeFunc rfl) ?_
    refine WL.call callable33 rfl (Wt.plain rfl) rfl rfl (makeGrid0 n m 34 [vptr b6 0, vptr b4 0] (mirror m i) _ callable34 (by omega) (by omega) (fun w2 r k hk hr hk2 => (ifullGrids1 r k m i b6 b4 w2 (hk.cell (hH.cellAt 1 rfl 0 rfl) (by simp)) (hk.cell (hH.cellAt 0 rfl 0 rfl) (by simp)) (by omega) (by omega) hm (by omega)).mono (fun v w3 h => ⟨h.1, by rw [h.2]; exact Keep.refl _ _⟩))) ?_
    rintro _ wn ⟨hC, hN⟩; obtain ⟨b18, cap18, cur18, rfl, hge18, hbb18, ho18⟩ := hN.own; have hszC := hC.size; have hlt18 := (Array.getElem?_eq_some_iff.1 hbb18).1; replace hH := hH.push hC hge18 hbb18; replace hj := hJ _ _ _ _ hj hC
    refine WL.call hF rfl (Wt.plain rfl) rfl rfl (hE.call _ i _ _ _ U hH.keep hlt hj (fun k hk => by have := (hU k hk).1; omega) (fun hm => by have := (hU _ hm).1; omega) (by omega) (hH.at 0 rfl) ho18) ?_
    rintro _ wn ⟨U2, hj, hC, hU2⟩; have hszD := hC.size; replace hH := hH.callU (fun k hk => (hU k hk).2.1) (by intro p hp hm; have h0 := hU _ hm; simp only [List.mem_cons, List.not_mem_nil, or_false] at hp; rcases hp with rfl | rfl | rfl <;> dsimp only at h0 <;> omega) hC; replace hU : ∀ k ∈ U2, k < wn.heap.size ∧ (k ∈ T ∨ w.heap.size ≤ k) ∧ k ≠ b4 := (fun k hk => by rcases hU2 k hk with h | h; exact ⟨by have := (hU k h).1; omega, (hU k h).2⟩; exact ⟨h.2, .inr (by omega), by omega⟩)
    refine WL.last ?_
    refine WN.normalBlock ?_
    refine WN.next ?_
    refine WC.region ?_
    refine WL.u rfl rfl (Wt.plain rfl) (Ex.add rfl rfl (by omega)) ?_
    refine WL.u rfl rfl (Wt.plain rfl) (Ex.move rfl) ?_
    refine WL.last ?_
    replace hH := hH.f1
    replace hH := hH.first1
    refine WN.round (i + 1, U2) (by exact ⟨rfl, rfl, rfl, rfl, rfl, trivial⟩) ?_ ?_
    · exact ⟨hH, hge4, by omega, hj, hU, by omega⟩
    · (try dsimp only); omega
  have hc1' := hc1; try simp only [decide_eq_true_eq, decide_eq_false_iff_not, Bool.not_eq_true', Bool.not_eq_false', Bool.not_eq_true, Bool.not_eq_false] at hc1'
  refine WC.exit ?_
  refine WN.exitThen ?_
  refine WN.exitThen ?_
  refine WN.exitHere ?_
  refine WN.body0n rfl ?_
  have hiN : i = N := by omega
  rw [hiN] at hj
  exact ⟨U, hj, hH.keep, fun k hk => ⟨(hU k hk).1, (hU k hk).2.1⟩⟩

end Go.Proofs.Ytmlkabddhdkpaaa
