/- Answers: are they given; the partners of all ports; the grids that fit. -/
import Derived.Test.YtmlkabddhdkpaaaAim
import Derived.Test.YtmlkabddhdkpaaaHd
import Derived.Test.YtmlkabddhdkpaaaAskP
namespace Go.Proofs.Ytmlkabddhdkpaaa
set_option maxRecDepth 100000
set_option linter.unusedSimpArgs false
set_option linter.unusedVariables false
open Go Go.RowKit
def inB (ans : List Int) (j : Nat) : Bool := decide (-1 ≤ ans.getD j 0 ∧ ans.getD j 0 ≤ (ans.length : Int) - 1)
def allB (ans : List Int) : Nat → Bool
  | 0 => true
  | k + 1 => allB ans k && inB ans k
theorem allB_iff (ans : List Int) : ∀ k, allB ans k = true ↔ ∀ j, j < k → inB ans j = true
  | 0 => by simp [allB]
  | k + 1 => by
    rw [allB, Bool.and_eq_true, allB_iff ans k]
    constructor
    · rintro ⟨h1, h2⟩ p hp
      rcases Nat.lt_succ_iff_lt_or_eq.1 hp with hp | rfl
      · exact h1 p hp
      · exact h2
    · intro h
      exact ⟨fun p hp => h p (by omega), h k (by omega)⟩
theorem allB_false {ans : List Int} {k p : Nat} (hp : p < k) (h : inB ans p = false) : allB ans k = false := by
  cases e : allB ans k with
  | false => rfl
  | true => rw [(allB_iff ans k).1 e p hp] at h; cases h
def ansB (n m : Int) (ans : List Int) : Bool := fewB n m 4 && decide ((ans.length : Int) = 2 * n + 2 * m) && allB ans ans.length
theorem ansB_few {n m : Int} {ans : List Int} (h : fewB n m 4 = false) : ansB n m ans = false := by unfold ansB; rw [h]; rfl
theorem ansB_len {n m : Int} {ans : List Int} (h : (ans.length : Int) ≠ 2 * n + 2 * m) : ansB n m ans = false := by unfold ansB; rw [decide_eq_false h, Bool.and_false]; rfl
theorem ansB_in {n m : Int} {ans : List Int} (h : allB ans ans.length = false) : ansB n m ans = false := by unfold ansB; rw [h, Bool.and_false]
structure AnsOk (n m : Nat) (ans : List Int) : Prop where
  n1 : 1 ≤ n
  n5 : n ≤ 5
  m1 : 1 ≤ m
  m5 : m ≤ 5
  nm : n * m ≤ 4
  len : ans.length = 2 * n + 2 * m
  bd : ∀ j, j < ans.length → -1 ≤ ans.getD j 0 ∧ ans.getD j 0 ≤ (ans.length : Int) - 1
theorem ansB_ex {n m : Int} {ans : List Int} (h : ansB n m ans = true) : ∃ a b : Nat, n = a ∧ m = b ∧ AnsOk a b ans := by
  unfold ansB at h
  rw [Bool.and_eq_true, Bool.and_eq_true, decide_eq_true_eq] at h
  obtain ⟨⟨h1, h2⟩, h3⟩ := h
  obtain ⟨a, b, rfl, rfl, k1, k2, k3, k4, k5⟩ := fewB_ex h1
  exact ⟨a, b, rfl, rfl, k1, k2, k3, k4, by omega, by omega, fun j hj => of_decide_eq_true ((allB_iff _ _).1 h3 j hj)⟩
theorem AnsOk.b {n m : Nat} {ans : List Int} (h : AnsOk n m ans) : ansB n m ans = true := by
  have hf : fewB n m 4 = true := by
    have hmI : (n : Int) * (m : Int) = ((n * m : Nat) : Int) := (Int.natCast_mul n m).symm
    have := h.n1; have := h.n5; have := h.m1; have := h.m5; have := h.nm
    exact decide_eq_true (by omega)
  unfold ansB
  rw [hf, decide_eq_true (by have := h.len; omega), (allB_iff _ _).2 (fun j hj => decide_eq_true (h.bd j hj))]; rfl
theorem AnsOk.pow {n m : Nat} {ans : List Int} (h : AnsOk n m ans) : 3 ^ (n * m) ≤ 81 := Nat.pow_le_pow_right (by decide) h.nm
theorem AnsOk.grid {n m : Nat} {ans : List Int} (h : AnsOk n m ans) (i : Nat) : GridOk (numG n m i) := numG_ok i h.n1 h.n5 h.m1 h.m5
theorem AnsOk.ports {n m : Nat} {ans : List Int} (h : AnsOk n m ans) (i : Nat) : ports (numG n m i) = ans.length := by rw [numG_ports m i h.n1, h.len]
theorem fits_le {n m : Nat} {ans : List Int} (h : AnsOk n m ans) : (fits n m ans).length ≤ 81 := Nat.le_trans (fitL_le n m ans _) h.pow
theorem rev_snoc {α β : Type} (f : Nat → β) (p : Nat) : (List.range (p + 1)).map f = (List.range p).map f ++ [f p] := range_snoc f p
theorem Sl.out {α : Type} {r : Rep α} {w : World} {a : Option Addr} {l : List α} (h : Sl r w a l) (hl : 0 < l.length) : ∃ b off, a = some ⟨b, off, none⟩ := h.addr hl

theorem ipairsOf (g : Grid) (a : Option Addr) (cap : Nat) (w : World) (hg : Sl rStr w a g) (hG : GridOk g) : Fn Try.prog 36 [.slice a g.length cap] w (fun v w1 => Keep [] w w1 ∧ New rInt 3 w w1 v (pairsI g)) := by
  refine Fn.enter (n := 25) Try.func36 rfl rfl rfl ?_
  show WC _ _ _ _ [(0, .slice a g.length cap)] _
  have hH := Hp.start [] w
  have hpl := ports_le hG
  refine WC.seq ?_
  refine WC.region ?_
  refine WL.u rfl rfl (Wt.plain rfl) (Ex.assign rfl) ?_
  refine WL.next ?_
  refine WC.seq ?_
  refine WC.region ?_
  refine WL.lit0 Try.underlying22 ty3 rfl (Wt.plain rfl) hH (fun b7 wn hb7 hk7 hH => ?_)
  have ho7 := Own.nil rInt
  refine WL.u rfl rfl (Wt.plain rfl) (Ex.assign rfl) ?_
  refine WL.next ?_
  refine WC.seq ?_
  refine WC.seq ?_
  refine WC.region ?_
  refine WL.u rfl rfl (Wt.plain rfl) (Ex.move rfl) ?_
  refine WL.call callable48 rfl (Wt.plain rfl) rfl rfl (iportMany _ _ _ _ (hg.kept hH.keep) hG) ?_
  rintro _ _ ⟨rfl, hw⟩; obtain rfl := hw.symm
  refine WL.u rfl rfl (Wt.plain rfl) (Ex.move rfl) ?_
  refine WL.next ?_
  refine WC.block ?_
  refine WC.loop (ι := Nat × Nat × Nat × (Array Value) × (List Int)) (fun (p, b7, cap7, cur7, l) => [(0, .slice a g.length cap), (3, vsl b7 l.length cap7), (9, vint (ports g)), (10, vint p)]) (fun (p, b7, cap7, cur7, l) wn => Hp [] w wn [(b7, .cells cur7 3 (0, 0))] ∧ Own rInt cur7 cap7 l ∧ l = (List.range p).map (fun p : Nat => ((way g p).2 : Int)) ∧ p ≤ ports g) (fun (p, b7, cap7, cur7, l) => ports g - p) ((0, b7, 0, #[], [])) (by exact ⟨rfl, rfl, rfl, rfl, trivial⟩) ?_ ?_
  · exact ⟨hH, ho7, rfl, Nat.zero_le _⟩
  rintro ⟨p, b7, cap7, cur7, l⟩ wn ⟨hH, ho7, hl, hp⟩
  have hll : l.length = p := by rw [hl]; simp
  intro mu0 hmu; try dsimp only at hmu
  show WC _ _ _ _ [(0, .slice a g.length cap), (3, vsl b7 l.length cap7), (9, vint (ports g)), (10, vint p)] _
  refine WC.seq ?_
  refine WC.region ?_
  refine WL.u rfl rfl (Wt.plain rfl) (Ex.lss rfl rfl) ?_
  refine WL.next ?_
  refine WC.seq ?_
  refine WC.cond rfl (fun hc1 => ?_) (fun hc1 => ?_)
  · have hc1' := hc1; try simp only [decide_eq_true_eq, decide_eq_false_iff_not, Bool.not_eq_true', Bool.not_eq_false', Bool.not_eq_true, Bool.not_eq_false] at hc1'
    have hlt : p < ports g := by omega
    refine WC.skip ?_
    refine WN.next ?_
    refine WC.seq ?_
    refine WC.block ?_
    refine WC.seq ?_
    refine WC.region ?_
    refine WL.u rfl rfl (Wt.plain rfl) (Ex.move rfl) ?_
    refine WL.u rfl rfl (Wt.plain rfl) (Ex.assign rfl) ?_
    refine WL.next ?_
    refine WC.seq ?_
    refine WC.region ?_
    refine WL.u rfl rfl (Wt.plain rfl) (Ex.move rfl) ?_
    refine WL.u rfl rfl (Wt.plain rfl) (Ex.move rfl) ?_
    refine WL.call callable49 rfl (Wt.plain rfl) rfl rfl (ibeam g _ _ p _ (hg.kept hH.keep) hG hlt) ?_
    rintro _ wn ⟨x, rfl, hC, hN⟩; replace hH := hH.call hC; clear hC hN
    refine WL.u rfl rfl (Wt.plain rfl) (Ex.move rfl) ?_
    refine WL.u rfl rfl (Wt.plain rfl) (Ex.extract rfl rfl) ?_
    refine WL.u rfl rfl (Wt.plain rfl) (Ex.extract rfl rfl) ?_
    refine WL.u rfl rfl (Wt.plain rfl) (Ex.assign rfl) ?_
    refine WL.u rfl rfl (Wt.plain rfl) (Ex.assign rfl) ?_
    refine WL.next ?_
    refine WC.region ?_
    refine WL.u rfl rfl (Wt.plain rfl) (Ex.move rfl) ?_
    refine WL.u rfl rfl (Wt.plain rfl) (Ex.move rfl) ?_
    refine WL.append1 (r := rInt) (u := ((way g p).2 : Int)) Try.underlying22 ty3 rfl rfl (fun _ => rfl) (fun _ => rfl) rfl rfl (Wt.plain rfl) (fun _ => (Wt.plain rfl)) hH ho7 rfl (by omega) (by omega) (fun b7 cap7 cur7 wn x7 hb7 hk7 hH ho7 => ?_)
    refine WL.u rfl rfl (Wt.plain rfl) (Ex.assign rfl) ?_
    refine WL.last ?_
    refine WN.normalBlock ?_
    refine WN.next ?_
    refine WC.region ?_
    refine WL.u rfl rfl (Wt.plain rfl) (Ex.add rfl rfl (by omega)) ?_
    refine WL.u rfl rfl (Wt.plain rfl) (Ex.move rfl) ?_
    refine WL.last ?_
    refine WN.round (p + 1, b7, cap7, cur7, l ++ [((way g p).2 : Int)]) (by exact ⟨rfl, rfl, rfl, rfl, trivial⟩) ?_ ?_
    · exact ⟨hH, ho7, by rw [range_snoc, ← hl], by omega⟩
    · (try dsimp only); omega
  have hc1' := hc1; try simp only [decide_eq_true_eq, decide_eq_false_iff_not, Bool.not_eq_true', Bool.not_eq_false', Bool.not_eq_true, Bool.not_eq_false] at hc1'
  refine WC.exit ?_
  refine WN.exitThen ?_
  refine WN.exitThen ?_
  refine WN.exitHere ?_
  refine WN.next ?_
  refine WC.seq ?_
  refine WC.region ?_
  refine WL.u rfl rfl (Wt.plain rfl) (Ex.move rfl) ?_
  refine WL.u rfl rfl (Wt.plain rfl) (Ex.assign rfl) ?_
  refine WL.next ?_
  refine WC.ret ?_
  refine WN.body1 rfl rfl ?_
  obtain rfl : p = ports g := by omega
  exact ⟨hH.keep, by rw [show pairsI g = l from hl.symm]; exact New.of hH ho7 (hH.base 0 rfl)⟩

theorem sl2Pairs (g : Grid) (a : Option Addr) (cap : Nat) (w : World) (hg : Sl rStr w a g) (hG : GridOk g) : Fn Try.prog 14 [.slice a g.length cap] w (fun v w1 => Keep [] w w1 ∧ New rInt 3 w w1 v (pairsI g)) := by
  refine Fn.enter (n := 32) Try.func14 rfl rfl rfl ?_
  show WC _ _ _ _ [(0, .slice a g.length cap)] _
  have hH := Hp.start [] w
  have hpl := ports_le hG
  obtain ⟨b, off, rfl⟩ := hg.addr (show 0 < g.length from hG.n1)
  have hn1 := hG.n1
  have hn5 := hG.n5
  have hm1 := hG.m1
  have hm5 := hG.m5
  have hpe : ports g = 2 * (g.length + (g.getD 0 []).length) := by unfold ports; dsimp only [nR, nC]; omega
  refine WC.seq ?_
  refine WC.region ?_
  refine WL.u rfl rfl (Wt.plain rfl) (Ex.assign rfl) ?_
  refine WL.next ?_
  refine WC.seq ?_
  refine WC.region ?_
  refine WL.lit0 Try.underlying22 ty3 rfl (Wt.plain rfl) hH (fun b8 wn hb8 hk8 hH => ?_)
  have ho8 := Own.nil rInt
  refine WL.u rfl rfl (Wt.plain rfl) (Ex.assign rfl) ?_
  refine WL.next ?_
  refine WC.seq ?_
  refine WC.seq ?_
  refine WC.region ?_
  refine WL.u rfl rfl (Wt.plain rfl) (Ex.assign rfl) ?_
  refine WL.next ?_
  refine WC.block ?_
  refine WC.loop (ι := Nat × Nat × Nat × (Array Value) × (List Int)) (fun (p, b8, cap8, cur8, l) => [(0, .slice (some ⟨b, off, none⟩) g.length cap), (3, vsl b8 l.length cap8), (4, vint p)]) (fun (p, b8, cap8, cur8, l) wn => Hp [] w wn [(b8, .cells cur8 3 (0, 0))] ∧ Own rInt cur8 cap8 l ∧ l = (List.range p).map (fun p : Nat => ((way g p).2 : Int)) ∧ p ≤ ports g) (fun (p, b8, cap8, cur8, l) => ports g - p) ((0, b8, 0, #[], [])) (by exact ⟨rfl, rfl, rfl, trivial⟩) ?_ ?_
  · exact ⟨hH, ho8, rfl, Nat.zero_le _⟩
  rintro ⟨p, b8, cap8, cur8, l⟩ wn ⟨hH, ho8, hl, hp⟩
  have hll : l.length = p := by rw [hl]; simp
  intro mu0 hmu; try dsimp only at hmu
  show WC _ _ _ _ [(0, .slice (some ⟨b, off, none⟩) g.length cap), (3, vsl b8 l.length cap8), (4, vint p)] _
  refine WC.seq ?_
  refine WC.seq ?_
  refine WC.region ?_
  refine WL.u rfl rfl (Wt.plain rfl) (Ex.move rfl) ?_
  refine WL.u rfl rfl (Wt.plain rfl) (Ex.move rfl) ?_
  refine WL.u rfl rfl (Wt.plain rfl) (Ex.lenSl Try.underlying35 rfl) ?_
  refine WL.u rfl rfl (Wt.plain rfl) (Ex.move rfl) ?_
  refine WL.u rfl rfl (Wt.plain rfl) (Ex.indexAddr Try.underlying35 ty9 rfl rfl (by omega)) ?_
  refine WL.u rfl rfl (Wt.plain rfl) (Ex.loadSl flat9 (hg.kept hH.keep) rfl rfl (getD_get g 0 [] (by omega))) ?_
  refine WL.u rfl rfl (Wt.plain rfl) (Ex.lenStr Try.underlying9 rfl) ?_
  refine WL.call callable28 rfl (Wt.plain rfl) rfl rfl (sl2Ports g.length (g.getD 0 []).length _ (by omega) (by omega)) ?_
  rintro _ _ ⟨rfl, hw⟩; obtain rfl := hw.symm
  refine WL.u rfl rfl (Wt.plain rfl) (Ex.lss rfl rfl) ?_
  refine WL.next ?_
  refine WC.cond rfl (fun hc1 => ?_) (fun hc1 => ?_)
  · have hc1' := hc1; try simp only [decide_eq_true_eq, decide_eq_false_iff_not, Bool.not_eq_true', Bool.not_eq_false', Bool.not_eq_true, Bool.not_eq_false] at hc1'
    have hlt : p < ports g := by rw [hpe]; omega
    refine WC.skip ?_
    refine WN.next ?_
    refine WC.seq ?_
    refine WC.block ?_
    refine WC.seq ?_
    refine WC.region ?_
    refine WL.u rfl rfl (Wt.plain rfl) (Ex.move rfl) ?_
    refine WL.u rfl rfl (Wt.plain rfl) (Ex.move rfl) ?_
    refine WL.call callable29 rfl (Wt.plain rfl) rfl rfl (sl2Way g _ _ p _ (hg.kept hH.keep) hG hlt) ?_
    rintro _ wn ⟨x, y, rfl, hC, hN1, hN2⟩; replace hH := hH.call hC; clear hC hN1 hN2
    refine WL.u rfl rfl (Wt.plain rfl) (Ex.move rfl) ?_
    refine WL.u rfl rfl (Wt.plain rfl) (Ex.extract rfl rfl) ?_
    refine WL.u rfl rfl (Wt.plain rfl) (Ex.extract rfl rfl) ?_
    refine WL.u rfl rfl (Wt.plain rfl) (Ex.extract rfl rfl) ?_
    refine WL.u rfl rfl (Wt.plain rfl) (Ex.assign rfl) ?_
    refine WL.u rfl rfl (Wt.plain rfl) (Ex.assign rfl) ?_
    refine WL.u rfl rfl (Wt.plain rfl) (Ex.assign rfl) ?_
    refine WL.next ?_
    refine WC.region ?_
    refine WL.u rfl rfl (Wt.plain rfl) (Ex.move rfl) ?_
    refine WL.u rfl rfl (Wt.plain rfl) (Ex.move rfl) ?_
    refine WL.append1 (r := rInt) (u := ((way g p).2 : Int)) Try.underlying22 ty3 rfl rfl (fun _ => rfl) (fun _ => rfl) rfl rfl (Wt.plain rfl) (fun _ => (Wt.plain rfl)) hH ho8 rfl (by omega) (by omega) (fun b8 cap8 cur8 wn x8 hb8 hk8 hH ho8 => ?_)
    refine WL.u rfl rfl (Wt.plain rfl) (Ex.assign rfl) ?_
    refine WL.last ?_
    refine WN.normalBlock ?_
    refine WN.next ?_
    refine WC.region ?_
    refine WL.u rfl rfl (Wt.plain rfl) (Ex.move rfl) ?_
    refine WL.u rfl rfl (Wt.plain rfl) (Ex.add rfl rfl (by omega)) ?_
    refine WL.u rfl rfl (Wt.plain rfl) (Ex.assign rfl) ?_
    refine WL.last ?_
    refine WN.round (p + 1, b8, cap8, cur8, l ++ [((way g p).2 : Int)]) (by exact ⟨rfl, rfl, rfl, trivial⟩) ?_ ?_
    · exact ⟨hH, ho8, by rw [range_snoc, ← hl], by omega⟩
    · (try dsimp only); omega
  have hc1' := hc1; try simp only [decide_eq_true_eq, decide_eq_false_iff_not, Bool.not_eq_true', Bool.not_eq_false', Bool.not_eq_true, Bool.not_eq_false] at hc1'
  refine WC.exit ?_
  refine WN.exitThen ?_
  refine WN.exitThen ?_
  refine WN.exitHere ?_
  refine WN.next ?_
  refine WC.seq ?_
  refine WC.region ?_
  refine WL.u rfl rfl (Wt.plain rfl) (Ex.move rfl) ?_
  refine WL.u rfl rfl (Wt.plain rfl) (Ex.assign rfl) ?_
  refine WL.next ?_
  refine WC.ret ?_
  refine WN.body1 rfl rfl ?_
  have hpp : p = ports g := by have : ports g ≤ p := by { rw [hpe]; omega }; omega
  subst hpp
  exact ⟨hH.keep, by rw [show pairsI g = l from hl.symm]; exact New.of hH ho8 (hH.base 0 rfl)⟩

end Go.Proofs.Ytmlkabddhdkpaaa
