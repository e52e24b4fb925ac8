/- All grids of three letters, one after the other. -/
import Derived.Test.YtlcihpleljhdpaaCP
namespace Go.Proofs.Ytlcihpleljhdpaa
set_option maxRecDepth 100000
set_option linter.unusedSimpArgs false
set_option linter.unusedVariables false
open Go Go.RowKit
theorem dig3 (q : Nat) : ((q : Int) % 3).toNat = q % 3 := by omega
theorem digI (q : Nat) (P : Value → Prop) (h : P (.int .u8 ((([46, 114, 102] : List UInt8).getD (q % 3) 0).toNat))) : P (.int .u8 ((([46, 114, 102] : List UInt8).getD ((q : Int) % 3).toNat 0).toNat)) := by rw [dig3]; exact h
theorem div3 (x c : Nat) : x / 3 ^ c / 3 = x / 3 ^ (c + 1) := by rw [Nat.div_div_eq_div_mul, Nat.pow_succ]
theorem pow3le {k : Nat} (h : k ≤ 25) : 3 ^ k ≤ 847288609443 := Nat.pow_le_pow_right (by decide) h
theorem pow3pos (k : Nat) : 0 < 3 ^ k := Nat.pow_pos (by decide)

theorem iGridOf1 (i k b5 q : Nat) (w : World) (hb : w.heap[b5]? = some (.cells #[vint q] 3 (0, 0))) (hq : q ≤ 4611686018427387904) : Fn Try.prog 50 [vint i, vint k, vptr b5 0] w (fun v w1 => v = .int .u8 (([46, 114, 102] : List UInt8).getD (q % 3) 0).toNat ∧ Keep [b5] w w1 ∧ w1.heap[b5]? = some (.cells #[vint (q / 3 : Nat)] 3 (0, 0))) := by
  refine Fn.enter (n := 13) Try.func50 rfl rfl rfl ?_
  show WC _ _ _ _ [(0, vint i), (1, vint k), (2, vptr b5 0)] _
  have hH := Hp.at1 hb
  refine WC.seq ?_
  refine WC.region ?_
  refine WL.u rfl rfl (Wt.plain rfl) (Ex.assign rfl) ?_
  refine WL.next ?_
  refine WC.seq ?_
  refine WC.region ?_
  refine WL.u rfl rfl (Wt.plain rfl) (Ex.loadHp flat3 rfl hH rfl) ?_
  refine WL.u rfl rfl (Wt.plain rfl) (Ex.rem rfl rfl (by omega) (by omega)) ?_
  refine WL.u rfl rfl (Wt.plain rfl) (Ex.indexStr Try.underlying9 rfl rfl (by simp only [List.length_cons, List.length_nil]; omega)) ?_
  refine WL.u rfl rfl (Wt.plain rfl) (Ex.assign rfl) ?_
  refine WL.next ?_
  refine WC.seq ?_
  refine WC.region ?_
  refine WL.u rfl rfl (Wt.plain rfl) (Ex.loadHp flat3 rfl hH rfl) ?_
  refine WL.u rfl rfl (Wt.plain rfl) ((Ex.quo rfl rfl (by omega) (by omega)).to (congrArg (Value.int IntKind.i64) (show _ = ((q / 3 : Nat) : Int) by omega))) ?_
  refine WL.store1 ty3 rfl rfl rfl (Wt.plain rfl) hH (by simp) rfl (fun wn hk hH => ?_)
  refine WL.next ?_
  refine WC.seq ?_
  refine WC.region ?_
  refine WL.u rfl rfl (Wt.plain rfl) (Ex.move rfl) ?_
  refine WL.u rfl rfl (Wt.plain rfl) (Ex.assign rfl) ?_
  refine WL.next ?_
  refine WC.ret ?_
  refine WN.body1 rfl rfl ?_
  exact ⟨by rw [dig3], hH.keep, hH.at 0 rfl⟩

theorem iGridOf (n m num : Nat) (w : World) (h1 : 1 ≤ n) (h2 : n ≤ 5) (h3 : 1 ≤ m) (h4 : m ≤ 5) (hk : num < 3 ^ (n * m)) : Fn Try.prog 39 [vint n, vint m, vint num] w (fun v w1 => ∃ x, v = .tuple #[x, .bool true] ∧ Keep [] w w1 ∧ New rStr 9 w w1 x (numG n m num)) := by
  refine Fn.enter (n := 26) Try.func39 rfl rfl rfl ?_
  show WC _ _ _ _ [(0, vint n), (1, vint m), (2, vint num)] _
  have hH := Hp.start [] w
  have hnm : n * m ≤ 25 := Nat.mul_le_mul h2 h4
  have hp3 := pow3le hnm
  refine WC.seq ?_
  refine WC.region ?_
  refine WL.box rfl rfl rfl (Wt.plain rfl) hH (fun b5 wn hb5 hk5 hH => ?_)
  refine WL.u rfl rfl (Wt.plain rfl) (Ex.assign rfl) ?_
  refine WL.u rfl rfl (Wt.plain rfl) (Ex.assign rfl) ?_
  refine WL.next ?_
  refine WC.seq ?_
  refine WC.seq ?_
  refine WC.region ?_
  refine WL.u rfl rfl (Wt.plain rfl) (Ex.move rfl) ?_
  refine WL.u rfl rfl (Wt.plain rfl) (Ex.move rfl) ?_
  refine WL.call callable18 rfl (Wt.plain rfl) rfl rfl (isidesOk _ _ _) ?_
  rintro _ _ ⟨rfl, hw⟩; obtain rfl := hw.symm
  refine WL.u rfl rfl (Wt.plain rfl) (Ex.not rfl) ?_
  refine WL.u rfl rfl (Wt.plain rfl) (Ex.move rfl) ?_
  refine WL.u rfl rfl (Wt.guard' rfl rfl rfl (by rw [decide_eq_true (show (1 : Int) ≤ n ∧ (n : Int) ≤ 5 ∧ (1 : Int) ≤ m ∧ (m : Int) ≤ 5 by omega)] <;> rfl) rfl) (Ex.loadHp flat3 rfl hH rfl) ?_
  refine WL.u rfl rfl (Wt.guard' rfl rfl rfl (by rw [decide_eq_true (show (1 : Int) ≤ n ∧ (n : Int) ≤ 5 ∧ (1 : Int) ≤ m ∧ (m : Int) ≤ 5 by omega)] <;> rfl) rfl) (Ex.lss rfl rfl) ?_
  refine WL.u rfl rfl (Wt.plain rfl) (Ex.pickF rfl (by rw [decide_eq_true (show (1 : Int) ≤ n ∧ (n : Int) ≤ 5 ∧ (1 : Int) ≤ m ∧ (m : Int) ≤ 5 by omega)] <;> rfl) rfl) ?_
  refine WL.next ?_
  refine WC.condF rfl (decide_eq_false (by omega)) ?_
  refine WC.skip ?_
  refine WN.next ?_
  refine WC.seq ?_
  refine WC.region ?_
  refine WL.u rfl rfl (Wt.plain rfl) (Ex.move rfl) ?_
  refine WL.u rfl rfl (Wt.plain rfl) (Ex.move rfl) ?_
  refine WL.u rfl rfl (Wt.plain rfl) (Ex.makeFunc rfl) ?_
  refine WL.call callable49 rfl (Wt.plain rfl) rfl rfl (imakeGridJ n m 50 [vptr b5 0] (digit m num) [b5] (fun c w => w.heap[b5]? = some (.cells #[vint (num / 3 ^ c : Nat)] 3 (0, 0))) _ callable50 (by omega) (by omega) (fun k hk => by rw [List.mem_singleton.1 hk]; exact hH.lt 0 rfl) (fun c S w2 w3 hj hk hs => hk.heap hj (fun hm => by have := hs _ hm; have := hH.lt 0 rfl; dsimp only at this; omega)) (by rw [Nat.pow_zero, Nat.div_one]; exact hH.at 0 rfl) (fun w2 i k hk hi hkm hj => (iGridOf1 i k b5 (num / 3 ^ (i * m + k)) w2 hj (by have := Nat.div_le_self num (3 ^ (i * m + k)); omega)).mono (fun v w3 h => ⟨h.1, by rw [← div3]; exact h.2.2, h.2.1⟩))) ?_
  rintro _ wn ⟨hj, hK, hN⟩; rw [Nat.div_eq_of_lt hk] at hj; obtain ⟨b21, cap21, cur21, rfl, hge21, hbb21, ho21⟩ := hN.own; have hH0 := hH; replace hH := (hH.turn hK hj).add (by have := hH0.keep.size; omega) hbb21 (by have := hH0.lt 0 rfl; dsimp only at this; simp only [List.map_cons, List.map_nil, List.mem_cons, List.not_mem_nil, or_false]; omega)
  refine WL.u rfl rfl (Wt.plain rfl) (Ex.assign rfl) ?_
  refine WL.next ?_
  refine WC.seq ?_
  refine WC.seq ?_
  refine WC.region ?_
  replace hH := hH.f1
  refine WL.u rfl rfl (Wt.plain rfl) (Ex.loadHp flat3 rfl hH rfl) ?_
  refine WL.u rfl rfl (Wt.plain rfl) (Ex.gtr rfl rfl) ?_
  refine WL.next ?_
  refine WC.condF rfl ((by simp)) ?_
  refine WC.skip ?_
  refine WN.next ?_
  refine WC.seq ?_
  refine WC.region ?_
  refine WL.u rfl rfl (Wt.plain rfl) (Ex.move rfl) ?_
  refine WL.u rfl rfl (Wt.plain rfl) (Ex.assign rfl) ?_
  refine WL.u rfl rfl (Wt.plain rfl) (Ex.assign rfl) ?_
  refine WL.next ?_
  refine WC.ret ?_
  refine WN.body2 rfl rfl rfl ?_
  exact ⟨_, rfl, hH.keep, New.of (hH.front 1 rfl) ho21 (hH.base 1 rfl)⟩

theorem iallGrids (n m F N : Nat) (cs : List Value) (T : List Nat) (J : Nat → List Nat → World → Prop) (w : World) (hN : 3 ^ (n * m) = N) (h1 : 1 ≤ n) (h2 : n ≤ 5) (h3 : 1 ≤ m) (h4 : m ≤ 5) (hE : Each Try.prog F cs (numG n m) N T J w) : Fn Try.prog 29 [vint n, vint m, .func (.func F) #[] cs.toArray] w (fun v w1 => ∃ U, J N U w1 ∧ Keep T w w1 ∧ ∀ k ∈ U, k < w1.heap.size ∧ (k ∈ T ∨ w.heap.size ≤ k)) := by
  refine Fn.enter (n := 33) Try.func29 rfl rfl rfl ?_
  show WC _ _ _ _ [(0, vint n), (1, vint m), (2, .func (.func F) #[] cs.toArray)] _
  have hH := Hp.start T w
  have hmul : n * m ≤ 25 := Nat.mul_le_mul h2 h4
  have hmI : (n : Int) * (m : Int) = ((n * m : Nat) : Int) := (Int.natCast_mul n m).symm
  have hpw := pow3le hmul
  rw [hN] at hpw
  have hF := hE.fn
  have hT := hE.lt
  have hJ := hE.keep
  have h0 := hE.start
  refine WC.seq ?_
  refine WC.region ?_
  refine WL.u rfl rfl (Wt.plain rfl) (Ex.assign rfl) ?_
  refine WL.next ?_
  refine WC.seq ?_
  refine WC.seq ?_
  refine WC.region ?_
  refine WL.u rfl rfl (Wt.plain rfl) (Ex.move rfl) ?_
  refine WL.u rfl rfl (Wt.plain rfl) (Ex.move rfl) ?_
  refine WL.u rfl rfl (Wt.plain rfl) ((Ex.mul rfl rfl (by omega)).to (congrArg (Value.int IntKind.i64) hmI)) ?_
  refine WL.u rfl rfl (Wt.plain rfl) (Ex.move rfl) ?_
  refine WL.next ?_
  refine WC.block ?_
  refine WC.loop (ι := Nat × Nat) (fun (i, y) => [(0, vint n), (1, vint m), (2, .func (.func F) #[] cs.toArray), (6, vint y), (12, vint ((n * m : Nat) : Int)), (13, vint i)]) (fun (i, y) wn => w = wn ∧ 3 ^ i = y ∧ i ≤ n * m) (fun (i, y) => n * m - i) ((0, 1)) (by exact ⟨rfl, rfl, rfl, rfl, rfl, rfl, trivial⟩) ?_ ?_
  · exact ⟨rfl, rfl, Nat.zero_le _⟩
  rintro ⟨i, y⟩ wn ⟨rfl, hy, hi⟩
  intro mu0 hmu; try dsimp only at hmu
  show WC _ _ _ _ [(0, vint n), (1, vint m), (2, .func (.func F) #[] cs.toArray), (6, vint y), (12, vint ((n * m : Nat) : Int)), (13, vint i)] _
  refine WC.seq ?_
  refine WC.region ?_
  refine WL.u rfl rfl (Wt.plain rfl) (Ex.lss rfl rfl) ?_
  refine WL.next ?_
  refine WC.seq ?_
  refine WC.cond rfl (fun hc1 => ?_) (fun hc1 => ?_)
  · have hc1' := hc1; try simp only [decide_eq_true_eq, decide_eq_false_iff_not, Bool.not_eq_true', Bool.not_eq_false', Bool.not_eq_true, Bool.not_eq_false] at hc1'
    have hlt : i < n * m := by omega
    have hle : 3 ^ (i + 1) ≤ 3 ^ (n * m) := Nat.pow_le_pow_right (by decide) hlt
    rw [Nat.pow_succ, hy, hN] at hle
    refine WC.skip ?_
    refine WN.next ?_
    refine WC.seq ?_
    refine WC.block ?_
    refine WC.region ?_
    refine WL.u rfl rfl (Wt.plain rfl) (Ex.move rfl) ?_
    refine WL.u rfl rfl (Wt.plain rfl) ((Ex.mul rfl rfl (by omega)).to (congrArg (Value.int IntKind.i64) (show _ = ((y * 3 : Nat) : Int) by omega))) ?_
    refine WL.u rfl rfl (Wt.plain rfl) (Ex.assign rfl) ?_
    refine WL.last ?_
    refine WN.normalBlock ?_
    refine WN.next ?_
    refine WC.region ?_
    refine WL.u rfl rfl (Wt.plain rfl) (Ex.add rfl rfl (by omega)) ?_
    refine WL.u rfl rfl (Wt.plain rfl) (Ex.move rfl) ?_
    refine WL.last ?_
    refine WN.round (i + 1, y * 3) (by exact ⟨rfl, rfl, rfl, rfl, rfl, rfl, trivial⟩) ?_ ?_
    · exact ⟨rfl, by rw [Nat.pow_succ, hy], by omega⟩
    · (try dsimp only); omega
  have hc1' := hc1; try simp only [decide_eq_true_eq, decide_eq_false_iff_not, Bool.not_eq_true', Bool.not_eq_false', Bool.not_eq_true, Bool.not_eq_false] at hc1'
  obtain rfl : i = n * m := by omega
  rw [hN] at hy
  subst hy
  refine WC.exit ?_
  refine WN.exitThen ?_
  refine WN.exitThen ?_
  refine WN.exitHere ?_
  refine WN.next ?_
  refine WC.seq ?_
  refine WC.region ?_
  refine WL.u rfl rfl (Wt.plain rfl) (Ex.move rfl) ?_
  refine WL.u rfl rfl (Wt.plain rfl) (Ex.move rfl) ?_
  refine WL.next ?_
  refine WC.block ?_
  refine WC.loop (ι := Nat × (List Nat)) (fun (i, U) => [(0, vint n), (1, vint m), (2, .func (.func F) #[] cs.toArray), (18, vint N), (19, vint i)]) (fun (i, U) wn => Hp T w wn [] ∧ J i U wn ∧ (∀ k ∈ U, k < wn.heap.size ∧ (k ∈ T ∨ w.heap.size ≤ k)) ∧ i ≤ N) (fun (i, U) => N - i) ((0, T)) (by exact ⟨rfl, rfl, rfl, rfl, rfl, trivial⟩) ?_ ?_
  · exact ⟨hH, h0, fun k hk => ⟨hT k hk, .inl hk⟩, Nat.zero_le _⟩
  rintro ⟨i, U⟩ wn ⟨hH, hj, hU, hi⟩
  intro mu0 hmu; try dsimp only at hmu
  show WC _ _ _ _ [(0, vint n), (1, vint m), (2, .func (.func F) #[] cs.toArray), (18, vint N), (19, vint i)] _
  refine WC.seq ?_
  refine WC.region ?_
  refine WL.u rfl rfl (Wt.plain rfl) (Ex.lss rfl rfl) ?_
  refine WL.next ?_
  refine WC.seq ?_
  refine WC.cond rfl (fun hc2 => ?_) (fun hc2 => ?_)
  · have hc2' := hc2; try simp only [decide_eq_true_eq, decide_eq_false_iff_not, Bool.not_eq_true', Bool.not_eq_false', Bool.not_eq_true, Bool.not_eq_false] at hc2'
    have hlt : i < N := by omega
    have hsz0 := hH.keep.size
    refine WC.skip ?_
    refine WN.next ?_
    refine WC.seq ?_
    refine WC.block ?_
    refine WC.seq ?_
    refine WC.region ?_
    refine WL.u rfl rfl (Wt.plain rfl) (Ex.move rfl) ?_
    refine WL.u rfl rfl (Wt.plain rfl) (Ex.assign rfl) ?_
    refine WL.next ?_
    refine WC.seq ?_
    refine WC.region ?_
    refine WL.u rfl rfl (Wt.plain rfl) (Ex.move rfl) ?_
    refine WL.u rfl rfl (Wt.plain rfl) (Ex.move rfl) ?_
    refine WL.u rfl rfl (Wt.plain rfl) (Ex.move rfl) ?_
    refine WL.call callable39 rfl (Wt.plain rfl) rfl rfl (iGridOf n m i _ h1 h2 h3 h4 (by rw [hN]; exact hlt)) ?_
    rintro _ wn ⟨x, rfl, hC, hN2⟩; obtain ⟨b26, cap26, cur26, rfl, hge26, hbb26, ho26⟩ := hN2.own; have hszC := hC.size; replace hH := hH.push hC hge26 hbb26; replace hj := hJ _ _ _ _ hj hC
    refine WL.u rfl rfl (Wt.plain rfl) (Ex.move rfl) ?_
    refine WL.u rfl rfl (Wt.plain rfl) (Ex.extract rfl rfl) ?_
    refine WL.u rfl rfl (Wt.plain rfl) (Ex.extract rfl rfl) ?_
    refine WL.u rfl rfl (Wt.plain rfl) (Ex.assign rfl) ?_
    refine WL.u rfl rfl (Wt.plain rfl) (Ex.assign rfl) ?_
    refine WL.next ?_
    refine WC.region ?_
    refine WL.u rfl rfl (Wt.plain rfl) (Ex.move rfl) ?_
    refine WL.u rfl rfl (Wt.plain rfl) (Ex.move rfl) ?_
    refine WL.call hF rfl (Wt.plain rfl) rfl rfl (hE.call _ i _ _ _ U hH.keep hlt hj (fun k hk => by have := (hU k hk).1; omega) (fun hm => by have := (hU _ hm).1; omega) (by omega) (hH.at 0 rfl) ho26) ?_
    rintro _ wn ⟨U2, hj, hC, hU2⟩; have hszD := hC.size; replace hH := hH.first0.callU (fun k hk => (hU k hk).2) (by simp) hC; replace hU : ∀ k ∈ U2, k < wn.heap.size ∧ (k ∈ T ∨ w.heap.size ≤ k) := (fun k hk => by rcases hU2 k hk with h | h; exact ⟨by have := (hU k h).1; omega, (hU k h).2⟩; exact ⟨h.2, .inr (by omega)⟩)
    refine WL.last ?_
    refine WN.normalBlock ?_
    refine WN.next ?_
    refine WC.region ?_
    refine WL.u rfl rfl (Wt.plain rfl) (Ex.add rfl rfl (by omega)) ?_
    refine WL.u rfl rfl (Wt.plain rfl) (Ex.move rfl) ?_
    refine WL.last ?_
    replace hH := hH.first0
    refine WN.round (i + 1, U2) (by exact ⟨rfl, rfl, rfl, rfl, rfl, trivial⟩) ?_ ?_
    · exact ⟨hH, hj, hU, by omega⟩
    · (try dsimp only); omega
  have hc2' := hc2; try simp only [decide_eq_true_eq, decide_eq_false_iff_not, Bool.not_eq_true', Bool.not_eq_false', Bool.not_eq_true, Bool.not_eq_false] at hc2'
  refine WC.exit ?_
  refine WN.exitThen ?_
  refine WN.exitThen ?_
  refine WN.exitHere ?_
  refine WN.body0n rfl ?_
  have hiN : i = N := by omega
  rw [hiN] at hj
  exact ⟨U, hj, hH.keep, hU⟩

theorem sl1Power (k N : Nat) (w : World) (hN : 3 ^ k = N) (hk : k ≤ 25) : Fn Try.prog 13 [vint k] w (fun v w1 => v = vint N ∧ w1 = w) := by
  refine Fn.enter (n := 13) Try.func13 rfl rfl rfl ?_
  show WC _ _ _ _ [(0, vint k)] _
  have hpw := pow3le hk
  rw [hN] at hpw
  refine WC.seq ?_
  refine WC.region ?_
  refine WL.u rfl rfl (Wt.plain rfl) (Ex.assign rfl) ?_
  refine WL.next ?_
  refine WC.seq ?_
  refine WC.region ?_
  refine WL.u rfl rfl (Wt.plain rfl) (Ex.assign rfl) ?_
  refine WL.next ?_
  refine WC.seq ?_
  refine WC.seq ?_
  refine WC.region ?_
  refine WL.u rfl rfl (Wt.plain rfl) (Ex.assign rfl) ?_
  refine WL.next ?_
  refine WC.block ?_
  refine WC.loop (ι := Nat × Nat) (fun (i, y) => [(0, vint k), (3, vint y), (4, vint i)]) (fun (i, y) wn => w = wn ∧ 3 ^ i = y ∧ i ≤ k) (fun (i, y) => k - i) ((0, 1)) (by exact ⟨rfl, rfl, rfl, trivial⟩) ?_ ?_
  · exact ⟨rfl, rfl, by omega⟩
  rintro ⟨i, y⟩ wn ⟨rfl, hy, hi⟩
  intro mu0 hmu; try dsimp only at hmu
  show WC _ _ _ _ [(0, vint k), (3, vint y), (4, vint i)] _
  refine WC.seq ?_
  refine WC.seq ?_
  refine WC.region ?_
  refine WL.u rfl rfl (Wt.plain rfl) (Ex.move rfl) ?_
  refine WL.u rfl rfl (Wt.plain rfl) (Ex.move rfl) ?_
  refine WL.u rfl rfl (Wt.plain rfl) (Ex.lss rfl rfl) ?_
  refine WL.next ?_
  refine WC.cond rfl (fun hc1 => ?_) (fun hc1 => ?_)
  · have hc1' := hc1; try simp only [decide_eq_true_eq, decide_eq_false_iff_not, Bool.not_eq_true', Bool.not_eq_false', Bool.not_eq_true, Bool.not_eq_false] at hc1'
    have hlt : i < k := by omega
    have hle : 3 ^ (i + 1) ≤ 3 ^ k := Nat.pow_le_pow_right (by decide) hlt
    rw [Nat.pow_succ, hy, hN] at hle
    refine WC.skip ?_
    refine WN.next ?_
    refine WC.seq ?_
    refine WC.block ?_
    refine WC.region ?_
    refine WL.u rfl rfl (Wt.plain rfl) (Ex.move rfl) ?_
    refine WL.u rfl rfl (Wt.plain rfl) ((Ex.mul rfl rfl (by omega)).to (congrArg (Value.int IntKind.i64) (show _ = ((y * 3 : Nat) : Int) by omega))) ?_
    refine WL.u rfl rfl (Wt.plain rfl) (Ex.assign rfl) ?_
    refine WL.last ?_
    refine WN.normalBlock ?_
    refine WN.next ?_
    refine WC.region ?_
    refine WL.u rfl rfl (Wt.plain rfl) (Ex.move rfl) ?_
    refine WL.u rfl rfl (Wt.plain rfl) (Ex.add rfl rfl (by omega)) ?_
    refine WL.u rfl rfl (Wt.plain rfl) (Ex.assign rfl) ?_
    refine WL.last ?_
    refine WN.round (i + 1, y * 3) (by exact ⟨rfl, rfl, rfl, trivial⟩) ?_ ?_
    · exact ⟨rfl, by rw [Nat.pow_succ, hy], by omega⟩
    · (try dsimp only); omega
  have hc1' := hc1; try simp only [decide_eq_true_eq, decide_eq_false_iff_not, Bool.not_eq_true', Bool.not_eq_false', Bool.not_eq_true, Bool.not_eq_false] at hc1'
  refine WC.exit ?_
  refine WN.exitThen ?_
  refine WN.exitThen ?_
  refine WN.exitHere ?_
  refine WN.next ?_
  refine WC.seq ?_
  refine WC.region ?_
  refine WL.u rfl rfl (Wt.plain rfl) (Ex.move rfl) ?_
  refine WL.u rfl rfl (Wt.plain rfl) (Ex.assign rfl) ?_
  refine WL.next ?_
  refine WC.ret ?_
  refine WN.body1 rfl rfl ?_
  have hieq : i = k := by omega
  rw [hieq, hN] at hy
  exact ⟨by rw [hy], rfl⟩

theorem sl1Of (n m num : Nat) (w : World) (hn : n ≤ 5) (hm : m ≤ 5) (hb : num ≤ 4611686018427387904) : Fn Try.prog 14 [vint n, vint m, vint num] w (fun v w1 => Keep [] w w1 ∧ New rStr 9 w w1 v (numG n m num)) := by
  refine Fn.enter (n := 37) Try.func14 rfl rfl rfl ?_
  show WC _ _ _ _ [(0, vint n), (1, vint m), (2, vint num)] _
  have hH := Hp.start [] w
  refine WC.seq ?_
  refine WC.region ?_
  refine WL.u rfl rfl (Wt.plain rfl) (Ex.assign rfl) ?_
  refine WL.next ?_
  refine WC.seq ?_
  refine WC.region ?_
  refine WL.lit0 Try.underlying35 ty9 rfl (Wt.plain rfl) hH (fun b11 wn hb11 hk11 hH => ?_)
  have ho11 := Own.nil rStr
  refine WL.u rfl rfl (Wt.plain rfl) (Ex.assign rfl) ?_
  refine WL.next ?_
  refine WC.seq ?_
  refine WC.seq ?_
  refine WC.region ?_
  refine WL.u rfl rfl (Wt.plain rfl) (Ex.assign rfl) ?_
  refine WL.next ?_
  refine WC.block ?_
  refine WC.loop (ι := Nat × Nat × Nat × (Array Value) × Grid) (fun (i, b11, cap11, cur11, g) => [(0, vint n), (1, vint m), (2, vint (num / 3 ^ (i * m) : Nat)), (7, vsl b11 g.length cap11), (8, vint i)]) (fun (i, b11, cap11, cur11, g) wn => Hp [] w wn [(b11, .cells cur11 9 (0, 0))] ∧ Own rStr cur11 cap11 g ∧ g = (List.range i).map (fun i => (List.range m).map fun k => digit m num i k) ∧ i ≤ n) (fun (i, b11, cap11, cur11, g) => n - i) ((0, b11, 0, #[], [])) (by exact ⟨rfl, rfl, congrArg (fun x : Nat => some (vint x)) (show num = num / 3 ^ (0 * m) by rw [Nat.zero_mul, Nat.pow_zero, Nat.div_one]), rfl, rfl, trivial⟩) ?_ ?_
  · exact ⟨hH, ho11, rfl, by omega⟩
  rintro ⟨i, b11, cap11, cur11, g⟩ wn ⟨hH, ho11, hg, hi⟩
  intro mu0 hmu; try dsimp only at hmu
  show WC _ _ _ _ [(0, vint n), (1, vint m), (2, vint (num / 3 ^ (i * m) : Nat)), (7, vsl b11 g.length cap11), (8, vint i)] _
  refine WC.seq ?_
  refine WC.seq ?_
  refine WC.region ?_
  refine WL.u rfl rfl (Wt.plain rfl) (Ex.move rfl) ?_
  refine WL.u rfl rfl (Wt.plain rfl) (Ex.move rfl) ?_
  refine WL.u rfl rfl (Wt.plain rfl) (Ex.lss rfl rfl) ?_
  refine WL.next ?_
  refine WC.cond rfl (fun hc1 => ?_) (fun hc1 => ?_)
  · have hc1' := hc1; try simp only [decide_eq_true_eq, decide_eq_false_iff_not, Bool.not_eq_true', Bool.not_eq_false', Bool.not_eq_true, Bool.not_eq_false] at hc1'
    have hlt : i < n := by omega
    have hgl : g.length = i := by rw [hg]; simp
    refine WC.skip ?_
    refine WN.next ?_
    refine WC.seq ?_
    refine WC.block ?_
    refine WC.seq ?_
    refine WC.region ?_
    refine WL.lit0 Try.underlying22 ty5 rfl (Wt.plain rfl) hH (fun b17 wn hb17 hk17 hH => ?_)
    have ho17 := Own.nil rByte
    refine WL.u rfl rfl (Wt.plain rfl) (Ex.assign rfl) ?_
    refine WL.next ?_
    refine WC.seq ?_
    refine WC.seq ?_
    refine WC.region ?_
    refine WL.u rfl rfl (Wt.plain rfl) (Ex.assign rfl) ?_
    refine WL.next ?_
    refine WC.block ?_
    replace hH := hH.f1
    refine WC.loop (ι := Nat × Nat × Nat × (Array Value) × (List UInt8)) (fun (k, b17, cap17, cur17, row) => [(0, vint n), (1, vint m), (2, vint (num / 3 ^ (i * m + k) : Nat)), (7, vsl b11 g.length cap11), (8, vint i), (9, vsl b17 row.length cap17), (10, vint k)]) (fun (k, b17, cap17, cur17, row) wn => Hp [] w wn [(b11, .cells cur11 9 (0, 0)), (b17, .cells cur17 5 (0, 0))] ∧ Own rByte cur17 cap17 row ∧ row = (List.range k).map (fun k => digit m num i k) ∧ k ≤ m) (fun (k, b17, cap17, cur17, row) => m - k) ((0, b17, 0, #[], [])) (by exact ⟨rfl, rfl, rfl, rfl, rfl, rfl, rfl, trivial⟩) ?_ ?_
    · exact ⟨hH, ho17, rfl, by omega⟩
    rintro ⟨k, b17, cap17, cur17, row⟩ wn ⟨hH, ho17, hrow, hk⟩
    have hdv : num / 3 ^ (i * m + k) ≤ num := Nat.div_le_self _ _
    have hqb : 0 ≤ ((num / 3 ^ (i * m + k) : Nat) : Int) ∧ ((num / 3 ^ (i * m + k) : Nat) : Int) ≤ 9223372036854775807 := by generalize num / 3 ^ (i * m + k) = q at hdv; omega
    intro mu0 hmu; try dsimp only at hmu
    show WC _ _ _ _ [(0, vint n), (1, vint m), (2, vint (num / 3 ^ (i * m + k) : Nat)), (7, vsl b11 g.length cap11), (8, vint i), (9, vsl b17 row.length cap17), (10, vint k)] _
    refine WC.seq ?_
    refine WC.seq ?_
    refine WC.region ?_
    refine WL.u rfl rfl (Wt.plain rfl) (Ex.move rfl) ?_
    refine WL.u rfl rfl (Wt.plain rfl) (Ex.move rfl) ?_
    refine WL.u rfl rfl (Wt.plain rfl) (Ex.lss rfl rfl) ?_
    refine WL.next ?_
    refine WC.cond rfl (fun hc2 => ?_) (fun hc2 => ?_)
    · have hc2' := hc2; try simp only [decide_eq_true_eq, decide_eq_false_iff_not, Bool.not_eq_true', Bool.not_eq_false', Bool.not_eq_true, Bool.not_eq_false] at hc2'
      have hlk : k < m := by omega
      have hrl : row.length = k := by rw [hrow]; simp
      refine WC.skip ?_
      refine WN.next ?_
      refine WC.seq ?_
      refine WC.block ?_
      refine WC.seq ?_
      refine WC.region ?_
      refine WL.u rfl rfl (Wt.plain rfl) (Ex.move rfl) ?_
      refine WL.u rfl rfl (Wt.plain rfl) (Ex.move rfl) ?_
      refine WL.u rfl rfl (Wt.plain rfl) (Ex.rem rfl rfl hqb.1 (by omega)) ?_
      refine WL.u rfl rfl (Wt.plain rfl) ((Ex.indexStr Try.underlying9 rfl rfl (by simp only [List.length_cons, List.length_nil]; omega)).to (show _ = Value.int .u8 (digit m num i k).toNat by rw [dig3]; rfl)) ?_
      replace hH := hH.f1
      refine WL.append1 (r := rByte) (u := digit m num i k) Try.underlying22 ty5 rfl rfl (fun _ => rfl) (fun _ => rfl) rfl rfl (Wt.plain rfl) (fun _ => (Wt.plain rfl)) hH ho17 rfl (by omega) (by omega) (fun b17 cap17 cur17 wn x17 hb17 hk17 hH ho17 => ?_)
      refine WL.u rfl rfl (Wt.plain rfl) (Ex.assign rfl) ?_
      refine WL.next ?_
      refine WC.region ?_
      refine WL.u rfl rfl (Wt.plain rfl) (Ex.move rfl) ?_
      refine WL.u rfl rfl (Wt.plain rfl) ((Ex.quo rfl rfl hqb (by omega)).to (congrArg (Value.int IntKind.i64) (show _ = ((num / 3 ^ (i * m + k) / 3 : Nat) : Int) from rfl))) ?_
      refine WL.u rfl rfl (Wt.plain rfl) (Ex.assign rfl) ?_
      refine WL.last ?_
      refine WN.normalBlock ?_
      refine WN.next ?_
      refine WC.region ?_
      refine WL.u rfl rfl (Wt.plain rfl) (Ex.move rfl) ?_
      refine WL.u rfl rfl (Wt.plain rfl) (Ex.add rfl rfl (by omega)) ?_
      refine WL.u rfl rfl (Wt.plain rfl) (Ex.assign rfl) ?_
      refine WL.last ?_
      replace hH := hH.f1
      refine WN.round (k + 1, b17, cap17, cur17, row ++ [digit m num i k]) (by exact ⟨rfl, rfl, congrArg (fun x : Nat => some (vint x)) (show _ = num / 3 ^ (i * m + (k + 1)) from div3 _ _), rfl, rfl, rfl, rfl, trivial⟩) ?_ ?_
      · exact ⟨hH, ho17, by rw [range_snoc, ← hrow], by omega⟩
      · (try dsimp only); omega
    have hc2' := hc2; try simp only [decide_eq_true_eq, decide_eq_false_iff_not, Bool.not_eq_true', Bool.not_eq_false', Bool.not_eq_true, Bool.not_eq_false] at hc2'
    have hkm : k = m := by omega
    have hrow2 : row = (List.range m).map (fun k => digit m num i k) := by rw [hrow, hkm]
    have hrl2 : row.length = m := by rw [hrow2]; simp
    refine WC.exit ?_
    refine WN.exitThen ?_
    refine WN.exitThen ?_
    refine WN.exitHere ?_
    refine WN.next ?_
    refine WC.region ?_
    refine WL.u rfl rfl (Wt.plain rfl) (Ex.move rfl) ?_
    refine WL.u rfl rfl (Wt.plain rfl) (Ex.move rfl) ?_
    refine WL.u rfl rfl (Wt.plain rfl) (Ex.bytesStr Try.underlying22 Try.underlying5 Try.underlying9 rfl (ho17.slAt hH 1 rfl)) ?_
    refine WL.append1 (r := rStr) (u := row) Try.underlying35 ty9 rfl rfl (fun _ => rfl) (fun _ => rfl) rfl rfl (Wt.plain rfl) (fun _ => (Wt.plain rfl)) hH ho11 rfl (by omega) (by omega) (fun b11 cap11 cur11 wn x11 hb11 hk11 hH ho11 => ?_)
    refine WL.u rfl rfl (Wt.plain rfl) (Ex.assign rfl) ?_
    refine WL.last ?_
    refine WN.normalBlock ?_
    refine WN.next ?_
    refine WC.region ?_
    refine WL.u rfl rfl (Wt.plain rfl) (Ex.move rfl) ?_
    refine WL.u rfl rfl (Wt.plain rfl) (Ex.add rfl rfl (by omega)) ?_
    refine WL.u rfl rfl (Wt.plain rfl) (Ex.assign rfl) ?_
    refine WL.last ?_
    replace hH := hH.first1
    refine WN.round (i + 1, b11, cap11, cur11, g ++ [row]) (by exact ⟨rfl, rfl, congrArg (fun x : Nat => some (vint x)) (show num / 3 ^ (i * m + k) = num / 3 ^ ((i + 1) * m) by rw [hkm, Nat.add_mul, Nat.one_mul]), rfl, rfl, trivial⟩) ?_ ?_
    · exact ⟨hH, ho11, by rw [range_snoc, ← hg, hrow2], by omega⟩
    · (try dsimp only); omega
  have hc1' := hc1; try simp only [decide_eq_true_eq, decide_eq_false_iff_not, Bool.not_eq_true', Bool.not_eq_false', Bool.not_eq_true, Bool.not_eq_false] at hc1'
  refine WC.exit ?_
  refine WN.exitThen ?_
  refine WN.exitThen ?_
  refine WN.exitHere ?_
  refine WN.next ?_
  refine WC.seq ?_
  refine WC.region ?_
  refine WL.u rfl rfl (Wt.plain rfl) (Ex.move rfl) ?_
  refine WL.u rfl rfl (Wt.plain rfl) (Ex.assign rfl) ?_
  refine WL.next ?_
  refine WC.ret ?_
  refine WN.body1 rfl rfl ?_
  have hin : i = n := by omega
  rw [hin] at hg
  exact ⟨hH.keep, by rw [show numG n m num = g from hg.symm]; exact New.of hH ho11 (hH.base 0 rfl)⟩

end Go.Proofs.Ytlcihpleljhdpaa
