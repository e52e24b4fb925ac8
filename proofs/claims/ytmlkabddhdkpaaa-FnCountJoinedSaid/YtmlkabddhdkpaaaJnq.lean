/- The columns of a grid joined one by one: the program's; full grids counted by the rounds of what is joined. -/
import Derived.Test.YtmlkabddhdkpaaaJnI
import Derived.Test.YtmlkabddhdkpaaaJng
import Derived.Test.YtmlkabddhdkpaaaRnd4
namespace Go.Proofs.Ytmlkabddhdkpaaa
set_option maxRecDepth 100000
set_option linter.unusedSimpArgs false
set_option linter.unusedVariables false
open Go Go.RowKit
theorem gshortC {g : Grid} (h : GridOk g) : Short g := fun i => by
  by_cases hi : i < g.length
  · rw [h.row i hi]; have := h.m5; omega
  · rw [List.getD_eq_getElem?_getD, List.getElem?_eq_none (by omega)]; simp

theorem iGridPartC (g : Grid) (a : Option Addr) (cap c : Nat) (e : Int) (w : World) (hg : Sl rStr w a g) (hG : GridOk g) (hc : c < nC g) (hcap : g.length ≤ cap) (he : e = (g.length : Int) - 1) : Fn Try.prog 35 [.slice a g.length cap, vint 0, vint e, vint c, vint c] w (fun v w1 => ∃ x, v = .tuple #[x, .bool true] ∧ Keep [] w w1 ∧ New rStr 9 w w1 x (colG g c)) := by
  refine Fn.enter (n := 66) Try.func35 rfl rfl rfl ?_
  show WC _ _ _ _ [(0, .slice a g.length cap), (1, vint 0), (2, vint e), (3, vint c), (4, vint c)] _
  have hH := Hp.start [] w
  have hgi := (gridOk_iff g).2 hG
  have hn1 := hG.n1
  have hn5 := hG.n5
  have hm5 := hG.m5
  obtain ⟨b, off, rfl⟩ := hg.addr (show 0 < g.length from hG.n1)
  unfold nC at hc
  have hcl : (colG g c).length = g.length := by simp [colG]
  refine WC.seq ?_
  refine WC.region ?_
  refine WL.u rfl rfl (Wt.plain rfl) (Ex.assign rfl) ?_
  refine WL.u rfl rfl (Wt.plain rfl) (Ex.assign rfl) ?_
  refine WL.next ?_
  refine WC.seq ?_
  refine WC.seq ?_
  refine WC.region ?_
  refine WL.u rfl rfl (Wt.plain rfl) (Ex.move rfl) ?_
  refine WL.call callable47 rfl (Wt.plain rfl) rfl rfl (iGridIn _ _ _ _ (hg.kept hH.keep) (gshortC hG)) ?_
  rintro _ _ ⟨rfl, hw⟩; obtain rfl := hw.symm
  refine WL.u rfl rfl (Wt.plain rfl) (Ex.not rfl) ?_
  refine WL.u rfl rfl (Wt.plain rfl) (Ex.move rfl) ?_
  refine WL.u rfl rfl (Wt.guard' rfl rfl rfl (by rw [hgi] <;> rfl) rfl) (Ex.move rfl) ?_
  refine WL.u rfl rfl (Wt.guard' rfl rfl rfl (by rw [hgi] <;> rfl) rfl) (Ex.move rfl) ?_
  refine WL.call callable46 rfl (Wt.guard' rfl rfl rfl (by rw [hgi] <;> rfl) rfl) rfl rfl (iwithin _ _ _ _) ?_
  rintro _ _ ⟨rfl, hw⟩; obtain rfl := hw.symm
  refine WL.u rfl rfl (Wt.guard' rfl rfl rfl (by rw [hgi] <;> rfl) rfl) (Ex.not rfl) ?_
  refine WL.u rfl rfl (Wt.plain rfl) (Ex.pickF rfl (by rw [hgi] <;> rfl) rfl) ?_
  refine WL.u rfl rfl (Wt.plain rfl) (Ex.move rfl) ?_
  refine WL.u rfl rfl (Wt.guard' rfl rfl rfl (by rw [decide_eq_true (show (0 : Int) ≥ 0 ∧ (0 : Int) ≤ e by omega)] <;> rfl) rfl) (Ex.move rfl) ?_
  refine WL.u rfl rfl (Wt.guard' rfl rfl rfl (by rw [decide_eq_true (show (0 : Int) ≥ 0 ∧ (0 : Int) ≤ e by omega)] <;> rfl) rfl) (Ex.move rfl) ?_
  refine WL.u rfl rfl (Wt.guard' rfl rfl rfl (by rw [decide_eq_true (show (0 : Int) ≥ 0 ∧ (0 : Int) ≤ e by omega)] <;> rfl) rfl) (Ex.lenSl Try.underlying35 rfl) ?_
  refine WL.u rfl rfl (Wt.guard' rfl rfl rfl (by rw [decide_eq_true (show (0 : Int) ≥ 0 ∧ (0 : Int) ≤ e by omega)] <;> rfl) rfl) (Ex.geq rfl rfl) ?_
  refine WL.u rfl rfl (Wt.plain rfl) (Ex.pickF rfl (by rw [decide_eq_true (show (0 : Int) ≥ 0 ∧ (0 : Int) ≤ e by omega)] <;> rfl) rfl) ?_
  refine WL.u rfl rfl (Wt.plain rfl) (Ex.move rfl) ?_
  refine WL.u rfl rfl (Wt.guard' rfl rfl rfl (decide_eq_false (by omega)) rfl) (Ex.move rfl) ?_
  refine WL.u rfl rfl (Wt.guard' rfl rfl rfl (decide_eq_false (by omega)) rfl) (Ex.move rfl) ?_
  refine WL.call callable46 rfl (Wt.guard' rfl rfl rfl (decide_eq_false (by omega)) rfl) rfl rfl (iwithin _ _ _ _) ?_
  rintro _ _ ⟨rfl, hw⟩; obtain rfl := hw.symm
  refine WL.u rfl rfl (Wt.guard' rfl rfl rfl (decide_eq_false (by omega)) rfl) (Ex.not rfl) ?_
  refine WL.u rfl rfl (Wt.plain rfl) (Ex.pickF rfl (decide_eq_false (by omega)) rfl) ?_
  refine WL.u rfl rfl (Wt.plain rfl) (Ex.move rfl) ?_
  refine WL.u rfl rfl (Wt.guard' rfl rfl rfl (by rw [decide_eq_true (show (c : Int) ≥ 0 ∧ (c : Int) ≤ (c : Int) by omega)] <;> rfl) rfl) (Ex.move rfl) ?_
  refine WL.u rfl rfl (Wt.guard' rfl rfl rfl (by rw [decide_eq_true (show (c : Int) ≥ 0 ∧ (c : Int) ≤ (c : Int) by omega)] <;> rfl) rfl) (Ex.move rfl) ?_
  refine WL.u rfl rfl (Wt.guard' rfl rfl rfl (by rw [decide_eq_true (show (c : Int) ≥ 0 ∧ (c : Int) ≤ (c : Int) by omega)] <;> rfl) rfl) (Ex.indexAddr Try.underlying35 ty9 rfl rfl (by omega)) ?_
  refine WL.u rfl rfl (Wt.guard' rfl rfl rfl (by rw [decide_eq_true (show (c : Int) ≥ 0 ∧ (c : Int) ≤ (c : Int) by omega)] <;> rfl) rfl) (Ex.loadSl flat9 (hg.kept hH.keep) rfl rfl (getD_get g 0 [] (by omega))) ?_
  refine WL.u rfl rfl (Wt.guard' rfl rfl rfl (by rw [decide_eq_true (show (c : Int) ≥ 0 ∧ (c : Int) ≤ (c : Int) by omega)] <;> rfl) rfl) (Ex.lenStr Try.underlying9 rfl) ?_
  refine WL.u rfl rfl (Wt.guard' rfl rfl rfl (by rw [decide_eq_true (show (c : Int) ≥ 0 ∧ (c : Int) ≤ (c : Int) by omega)] <;> rfl) rfl) (Ex.geq rfl rfl) ?_
  refine WL.u rfl rfl (Wt.plain rfl) (Ex.pickF rfl (by rw [decide_eq_true (show (c : Int) ≥ 0 ∧ (c : Int) ≤ (c : Int) by omega)] <;> rfl) rfl) ?_
  refine WL.next ?_
  refine WC.condF rfl (decide_eq_false (by omega)) ?_
  refine WC.skip ?_
  refine WN.next ?_
  refine WC.seq ?_
  refine WC.region ?_
  refine WL.lit0 Try.underlying35 ty9 rfl (Wt.plain rfl) hH (fun b45 wn hb45 hk45 hH => ?_)
  have ho45 := Own.nil rStr
  refine WL.u rfl rfl (Wt.plain rfl) (Ex.assign rfl) ?_
  refine WL.next ?_
  refine WC.seq ?_
  refine WC.seq ?_
  refine WC.region ?_
  refine WL.u rfl rfl (Wt.plain rfl) (Ex.move rfl) ?_
  refine WL.u rfl rfl (Wt.plain rfl) (Ex.move rfl) ?_
  refine WL.u rfl rfl (Wt.plain rfl) (Ex.move rfl) ?_
  refine WL.u rfl rfl (Wt.plain rfl) (Ex.add rfl rfl (by omega)) ?_
  refine WL.u rfl rfl (Wt.plain rfl) ((Ex.slice0 Try.underlying35 ty9 rfl rfl rfl rfl (by omega)).to (congrArg (fun q : Nat => Value.slice (some ⟨b, off, none⟩) q cap) (show _ = g.length by omega))) ?_
  refine WL.u rfl rfl (Wt.plain rfl) (Ex.lenSl Try.underlying35 rfl) ?_
  refine WL.u rfl rfl (Wt.plain rfl) (Ex.move rfl) ?_
  refine WL.next ?_
  refine WC.block ?_
  refine WC.loop (ι := Nat × Nat × Nat × (Array Value) × (List Str)) (fun (i, b45, cap45, cur45, l) => [(3, vint c), (4, vint c), (12, vsl b45 l.length cap45), (50, .slice (some ⟨b, off, none⟩) g.length cap), (51, vint g.length), (52, vint i)]) (fun (i, b45, cap45, cur45, l) wn => Hp [] w wn [(b45, .cells cur45 9 (0, 0))] ∧ Own rStr cur45 cap45 l ∧ l = (colG g c).take i ∧ i ≤ g.length) (fun (i, b45, cap45, cur45, l) => g.length - i) ((0, b45, 0, #[], [])) (by exact ⟨rfl, rfl, rfl, rfl, rfl, rfl, trivial⟩) ?_ ?_
  · exact ⟨hH, ho45, rfl, Nat.zero_le _⟩
  rintro ⟨i, b45, cap45, cur45, l⟩ wn ⟨hH, ho45, hl, hi⟩
  have hll : l.length ≤ 5 := by rw [hl, List.length_take]; omega
  intro mu0 hmu; try dsimp only at hmu
  show WC _ _ _ _ [(3, vint c), (4, vint c), (12, vsl b45 l.length cap45), (50, .slice (some ⟨b, off, none⟩) g.length cap), (51, vint g.length), (52, vint i)] _
  refine WC.seq ?_
  refine WC.region ?_
  refine WL.u rfl rfl (Wt.plain rfl) (Ex.lss rfl rfl) ?_
  refine WL.next ?_
  refine WC.seq ?_
  refine WC.cond rfl (fun hc2 => ?_) (fun hc2 => ?_)
  · have hc2' := hc2; try simp only [decide_eq_true_eq, decide_eq_false_iff_not, Bool.not_eq_true', Bool.not_eq_false', Bool.not_eq_true, Bool.not_eq_false] at hc2'
    have hlt : i < g.length := by omega
    have hrow := hG.row i hlt
    have hcg : (colG g c)[i]? = some (((g.getD i []).drop c).take 1) := by rw [← colG_get]; exact getD_get _ i [] (by rw [hcl]; exact hlt)
    refine WC.skip ?_
    refine WN.next ?_
    refine WC.seq ?_
    refine WC.block ?_
    refine WC.seq ?_
    refine WC.region ?_
    refine WL.u rfl rfl (Wt.plain rfl) (Ex.indexAddr Try.underlying35 ty9 rfl rfl (by omega)) ?_
    refine WL.u rfl rfl (Wt.plain rfl) (Ex.loadSl flat9 (hg.kept hH.keep) rfl rfl (getD_get g i [] hlt)) ?_
    refine WL.u rfl rfl (Wt.plain rfl) (Ex.assign rfl) ?_
    refine WL.next ?_
    refine WC.region ?_
    refine WL.u rfl rfl (Wt.plain rfl) (Ex.move rfl) ?_
    refine WL.u rfl rfl (Wt.plain rfl) (Ex.move rfl) ?_
    refine WL.u rfl rfl (Wt.plain rfl) (Ex.move rfl) ?_
    refine WL.u rfl rfl (Wt.plain rfl) (Ex.move rfl) ?_
    refine WL.u rfl rfl (Wt.plain rfl) (Ex.add rfl rfl (by omega)) ?_
    refine WL.u rfl rfl (Wt.plain rfl) ((Ex.sliceStr Try.underlying9 rfl rfl rfl (by omega)).to (congrArg vstr (show _ = ((g.getD i []).drop c).take 1 by rw [Int.toNat_natCast, show ((c : Int) + 1).toNat - c = 1 by omega]))) ?_
    refine WL.append1 (r := rStr) (u := (((g.getD i []).drop c).take 1)) Try.underlying35 ty9 rfl rfl (fun _ => rfl) (fun _ => rfl) rfl rfl (Wt.plain rfl) (fun _ => (Wt.plain rfl)) hH ho45 rfl (by omega) (by omega) (fun b45 cap45 cur45 wn x45 hb45 hk45 hH ho45 => ?_)
    refine WL.u rfl rfl (Wt.plain rfl) (Ex.assign rfl) ?_
    refine WL.last ?_
    refine WN.normalBlock ?_
    refine WN.next ?_
    refine WC.region ?_
    refine WL.u rfl rfl (Wt.plain rfl) (Ex.add rfl rfl (by omega)) ?_
    refine WL.u rfl rfl (Wt.plain rfl) (Ex.move rfl) ?_
    refine WL.last ?_
    refine WN.round (i + 1, b45, cap45, cur45, l ++ [((g.getD i []).drop c).take 1]) (by exact ⟨rfl, rfl, rfl, rfl, rfl, rfl, trivial⟩) ?_ ?_
    · exact ⟨hH, ho45, by rw [take_snoc hcg, hl], by omega⟩
    · (try dsimp only); omega
  have hc2' := hc2; try simp only [decide_eq_true_eq, decide_eq_false_iff_not, Bool.not_eq_true', Bool.not_eq_false', Bool.not_eq_true, Bool.not_eq_false] at hc2'
  have hie : i = g.length := by omega
  rw [hie, ← hcl, List.take_length] at hl
  refine WC.exit ?_
  refine WN.exitThen ?_
  refine WN.exitThen ?_
  refine WN.exitHere ?_
  refine WN.next ?_
  refine WC.seq ?_
  refine WC.region ?_
  refine WL.u rfl rfl (Wt.plain rfl) (Ex.move rfl) ?_
  refine WL.u rfl rfl (Wt.plain rfl) (Ex.assign rfl) ?_
  refine WL.u rfl rfl (Wt.plain rfl) (Ex.assign rfl) ?_
  refine WL.next ?_
  refine WC.ret ?_
  refine WN.body2 rfl rfl rfl ?_
  exact ⟨_, rfl, hH.keep, by rw [← hl]; exact New.of (hH.front 0 rfl) ho45 (hH.base 0 rfl)⟩

theorem ijoined (g : Grid) (a : Option Addr) (cap : Nat) (w : World) (hg : Sl rStr w a g) (hG : GridOk g) (hcap : g.length ≤ cap) : Fn Try.prog 23 [.slice a g.length cap] w (fun v w1 => ∃ x, v = .tuple #[x, vint (rounds g).length] ∧ Keep [] w w1 ∧ New rInt 3 w w1 x (pairsI g)) := by
  refine Fn.enter (n := 55) Try.func23 rfl rfl rfl ?_
  show WC _ _ _ _ [(0, .slice a g.length cap)] _
  have hH := Hp.start [] w
  have hn1 := hG.n1
  have hn5 := hG.n5
  have hm1 := hG.m1
  have hm5 := hG.m5
  have hmC : nC g = (g.getD 0 []).length := rfl
  refine WC.seq ?_
  refine WC.region ?_
  refine WL.u rfl rfl (Wt.plain rfl) (Ex.assign rfl) ?_
  refine WL.u rfl rfl (Wt.plain rfl) (Ex.assign rfl) ?_
  refine WL.next ?_
  refine WC.seq ?_
  obtain ⟨b, off, rfl⟩ := hg.addr (show 0 < g.length from hG.n1)
  refine WC.quietK rfl (by kernel_rfl) ?_
  refine WQ.u rfl rfl (Wt.plain rfl) (fun w hC => Ex.move rfl) ?_
  refine WQ.u rfl rfl (Wt.plain rfl) (fun w hC => Ex.lenSl Try.underlying35 rfl) ?_
  refine WQ.u rfl rfl (Wt.plain rfl) (fun w hC => Ex.move rfl) ?_
  refine WQ.u rfl rfl (Wt.plain rfl) (fun w hC => Ex.indexAddr Try.underlying35 ty9 rfl rfl (by omega)) ?_
  refine WQ.u rfl rfl (Wt.plain rfl) (fun w hC => Ex.loadSl flat9 ((hg.kept hH.keep).kept hC) rfl rfl (getD_get g 0 [] (by omega))) ?_
  refine WQ.u rfl rfl (Wt.plain rfl) (fun w hC => Ex.lenStr Try.underlying9 rfl) ?_
  refine WQ.u rfl rfl (Wt.plain rfl) (fun w hC => Ex.assign rfl) ?_
  refine WQ.u rfl rfl (Wt.plain rfl) (fun w hC => Ex.assign rfl) ?_
  refine WQ.nil ?_
  intro wn hC; replace hH := hH.call hC; clear hC
  refine WN.next ?_
  refine WC.seq ?_
  refine WC.region ?_
  refine WL.lit0 Try.underlying22 ty3 rfl (Wt.plain rfl) hH (fun b18 wn hb18 hk18 hH => ?_)
  have ho18 := Own.nil rInt
  refine WL.u rfl rfl (Wt.plain rfl) (Ex.assign rfl) ?_
  refine WL.u rfl rfl (Wt.plain rfl) (Ex.assign rfl) ?_
  refine WL.next ?_
  refine WC.seq ?_
  refine WC.seq ?_
  refine WC.region ?_
  refine WL.u rfl rfl (Wt.plain rfl) (Ex.move rfl) ?_
  refine WL.u rfl rfl (Wt.plain rfl) (Ex.move rfl) ?_
  refine WL.next ?_
  refine WC.block ?_
  refine WC.loop (ι := Nat × Nat × Nat × (Array Value) × (List Int) × Nat) (fun (c, b18, cap18, cur18, P, q) => [(0, .slice (some ⟨b, off, none⟩) g.length cap), (4, vint g.length), (5, vint (g.getD 0 []).length), (6, vsl b18 P.length cap18), (7, vint q), (19, vint (g.getD 0 []).length), (20, vint c)]) (fun (c, b18, cap18, cur18, P, q) wn => Hp [] w wn [(b18, .cells cur18 3 (0, 0))] ∧ Own rInt cur18 cap18 P ∧ (c = 0 → P = [] ∧ q = 0) ∧ (1 ≤ c → P = pairsI (takeG g c) ∧ q = (rounds (takeG g c)).length) ∧ c ≤ (g.getD 0 []).length) (fun (c, b18, cap18, cur18, P, q) => (g.getD 0 []).length - c) ((0, b18, 0, #[], [], 0)) (by exact ⟨rfl, rfl, rfl, rfl, rfl, rfl, rfl, trivial⟩) ?_ ?_
  · exact ⟨hH, ho18, fun _ => ⟨rfl, rfl⟩, fun h => by omega, Nat.zero_le _⟩
  rintro ⟨c, b18, cap18, cur18, P, q⟩ wn ⟨hH, ho18, hP0, hP1, hi⟩
  intro mu0 hmu; try dsimp only at hmu
  show WC _ _ _ _ [(0, .slice (some ⟨b, off, none⟩) g.length cap), (4, vint g.length), (5, vint (g.getD 0 []).length), (6, vsl b18 P.length cap18), (7, vint q), (19, vint (g.getD 0 []).length), (20, vint c)] _
  refine WC.seq ?_
  refine WC.region ?_
  refine WL.u rfl rfl (Wt.plain rfl) (Ex.lss rfl rfl) ?_
  refine WL.next ?_
  refine WC.seq ?_
  refine WC.cond rfl (fun hc1 => ?_) (fun hc1 => ?_)
  · have hc1' := hc1; try simp only [decide_eq_true_eq, decide_eq_false_iff_not, Bool.not_eq_true', Bool.not_eq_false', Bool.not_eq_true, Bool.not_eq_false] at hc1'
    have hlt : c < (g.getD 0 []).length := by omega
    obtain ⟨hGc, hRc, hCc⟩ := colG_ok hG (c := c) hlt
    obtain ⟨hGt, _, _⟩ := takeG_ok hG (c := c + 1) (by omega) (by omega)
    have hrc := rounds_100 hGc
    have hrt := rounds_100 hGt
    have hq100 : q ≤ 100 := by
      by_cases h0 : c = 0
      · have := (hP0 h0).2; omega
      · have := (hP1 (by omega)).2
        have := rounds_100 (takeG_ok hG (c := c) (by omega) (by omega)).1
        omega
    refine WC.skip ?_
    refine WN.next ?_
    refine WC.seq ?_
    refine WC.block ?_
    refine WC.seq ?_
    refine WC.region ?_
    refine WL.u rfl rfl (Wt.plain rfl) (Ex.move rfl) ?_
    refine WL.u rfl rfl (Wt.plain rfl) (Ex.assign rfl) ?_
    refine WL.next ?_
    refine WC.seq ?_
    refine WC.region ?_
    refine WL.u rfl rfl (Wt.plain rfl) (Ex.move rfl) ?_
    refine WL.u rfl rfl (Wt.plain rfl) (Ex.move rfl) ?_
    refine WL.u rfl rfl (Wt.plain rfl) (Ex.sub rfl rfl (by omega)) ?_
    refine WL.u rfl rfl (Wt.plain rfl) (Ex.move rfl) ?_
    refine WL.u rfl rfl (Wt.plain rfl) (Ex.move rfl) ?_
    refine WL.call callable35 rfl (Wt.plain rfl) rfl rfl (iGridPartC g _ _ c _ _ (hg.kept hH.keep) hG hlt hcap rfl) ?_
    rintro _ wn ⟨x, rfl, hC, hN⟩; obtain ⟨b30, cap30, cur30, rfl, hge30, hbb30, ho30⟩ := hN.own; replace hH := hH.push hC hge30 hbb30; clear hC hN
    refine WL.u rfl rfl (Wt.plain rfl) (Ex.move rfl) ?_
    refine WL.u rfl rfl (Wt.plain rfl) (Ex.extract rfl rfl) ?_
    refine WL.u rfl rfl (Wt.plain rfl) (Ex.extract rfl rfl) ?_
    refine WL.u rfl rfl (Wt.plain rfl) (Ex.assign rfl) ?_
    refine WL.u rfl rfl (Wt.plain rfl) (Ex.assign rfl) ?_
    refine WL.next ?_
    refine WC.seq ?_
    refine WC.region ?_
    refine WL.u rfl rfl (Wt.plain rfl) (Ex.move rfl) ?_
    refine WL.u rfl rfl (Wt.plain rfl) (Ex.move rfl) ?_
    refine WL.call callable26 rfl (Wt.plain rfl) rfl rfl (iroundMany (colG g c) _ _ _ (ho30.slAt hH 0 rfl) hGc) ?_
    rintro _ wn ⟨rfl, hC⟩; replace hH := hH.call hC; clear hC
    refine WL.u rfl rfl (Wt.plain rfl) ((Ex.add rfl rfl (by omega)).to (congrArg (Value.int IntKind.i64) (show _ = ((q + (rounds (colG g c)).length : Nat) : Int) by omega))) ?_
    refine WL.u rfl rfl (Wt.plain rfl) (Ex.assign rfl) ?_
    refine WL.next ?_
    refine WC.seq ?_
    refine WC.seq ?_
    refine WC.region ?_
    refine WL.u rfl rfl (Wt.plain rfl) (Ex.move rfl) ?_
    refine WL.u rfl rfl (Wt.plain rfl) (Ex.eql rfl rfl) ?_
    refine WL.next ?_
    refine WC.cond rfl (fun hc2 => ?_) (fun hc2 => ?_)
    · have hc2' := hc2; try simp only [decide_eq_true_eq, decide_eq_false_iff_not, Bool.not_eq_true', Bool.not_eq_false', Bool.not_eq_true, Bool.not_eq_false] at hc2'
      have h0 : c = 0 := by omega
      have hct : colG g c = takeG g (c + 1) := by rw [h0]; exact (take_one g).symm
      have hq : q + (rounds (colG g c)).length = (rounds (takeG g (c + 1))).length := by rw [(hP0 h0).2, hct, Nat.zero_add]
      rw [hq]
      refine WC.seq ?_
      refine WC.region ?_
      refine WL.u rfl rfl (Wt.plain rfl) (Ex.move rfl) ?_
      refine WL.call callable36 rfl (Wt.plain rfl) rfl rfl (ipairsOf (colG g c) _ _ _ (ho30.slAt hH 0 rfl) hGc) ?_
      rintro _ wn ⟨hC, hN⟩; rw [hct] at hN ⊢; obtain ⟨bvz, capvz, curvz, rfl, hgevz, hbbvz, hovz⟩ := hN.own; replace hH := hH.push hC hgevz hbbvz; clear hC hN
      refine WL.u rfl rfl (Wt.plain rfl) (Ex.assign rfl) ?_
      refine WL.next ?_
      refine WC.exit ?_
      refine WN.exitThen ?_
      refine WN.exitHere ?_
      refine WN.next ?_
      refine WC.region ?_
      refine WL.u rfl rfl (Wt.plain rfl) (Ex.add rfl rfl (by omega)) ?_
      refine WL.u rfl rfl (Wt.plain rfl) (Ex.move rfl) ?_
      refine WL.last ?_
      replace hH := hH.first1
      refine WN.round (c + 1, bvz, capvz, curvz, pairsI (takeG g (c + 1)), (rounds (takeG g (c + 1))).length) (by exact ⟨rfl, rfl, rfl, rfl, rfl, rfl, rfl, trivial⟩) ?_ ?_
      · exact ⟨hH, hovz, fun h => by omega, fun _ => ⟨rfl, rfl⟩, by omega⟩
      · (try dsimp only); omega
    have hc2' := hc2; try simp only [decide_eq_true_eq, decide_eq_false_iff_not, Bool.not_eq_true', Bool.not_eq_false', Bool.not_eq_true, Bool.not_eq_false] at hc2'
    have h1 : 1 ≤ c := by omega
    obtain ⟨rfl, rfl⟩ := hP1 h1
    obtain ⟨J, hGd⟩ := take_jf hG h1 hlt
    refine WC.skip ?_
    refine WN.next ?_
    refine WC.seq ?_
    refine WC.region ?_
    refine WL.u rfl rfl (Wt.plain rfl) (Ex.move rfl) ?_
    refine WL.u rfl rfl (Wt.plain rfl) (Ex.move rfl) ?_
    refine WL.u rfl rfl (Wt.plain rfl) (Ex.move rfl) ?_
    refine WL.u rfl rfl (Wt.plain rfl) (Ex.move rfl) ?_
    refine WL.call callable36 rfl (Wt.plain rfl) rfl rfl (ipairsOf (colG g c) _ _ _ (ho30.slAt hH 0 rfl) hGc) ?_
    rintro _ wn ⟨hC, hN⟩; obtain ⟨b44, cap44, cur44, rfl, hge44, hbb44, ho44⟩ := hN.own; replace hH := hH.push hC hge44 hbb44; clear hC hN
    refine WL.u rfl rfl (Wt.plain rfl) (Ex.buildS bd57 rfl rfl rfl rfl rfl) ?_
    refine WL.alloc ty57 rfl rfl (Wt.plain rfl) hH (fun b11 wn hb11 hk11 hH => ?_)
    refine WL.store5 ty57 rfl rfl rfl rfl rfl rfl rfl (Wt.plain rfl) hH (fun wn hk hH => ?_)
    refine WL.next ?_
    refine WC.seq ?_
    refine WC.region ?_
    refine WL.u rfl rfl (Wt.plain rfl) (Ex.move rfl) ?_
    refine WL.u rfl rfl (Wt.plain rfl) (Ex.loadHp5 Try.underlying57 ty57 rfl hH) ?_
    refine WL.call callable37 rfl (Wt.plain rfl) rfl rfl (ijrounds (besD (takeG g c) (colG g c)) (takeG g c) (colG g c) g.length c 1 _ _ _ _ _ J (ho18.slAt hH 3 rfl) (ho44.slAt hH 1 rfl)) ?_
    rintro _ wn ⟨q2, rfl, hC, hrd⟩; rw [hGd] at hrd; replace hH := hH.call hC; clear hC
    refine WL.u rfl rfl (Wt.plain rfl) ((Ex.add rfl rfl (by omega)).to (congrArg (Value.int IntKind.i64) (show _ = (((rounds (takeG g (c + 1))).length : Nat) : Int) by omega))) ?_
    refine WL.u rfl rfl (Wt.plain rfl) (Ex.assign rfl) ?_
    refine WL.next ?_
    refine WC.region ?_
    refine WL.u rfl rfl (Wt.plain rfl) (Ex.loadHp5 Try.underlying57 ty57 rfl hH) ?_
    refine WL.call callable38 rfl (Wt.plain rfl) rfl rfl (ijpairs (besD (takeG g c) (colG g c)) (takeG g c) (colG g c) g.length c 1 _ _ _ _ _ J (ho18.slAt hH 3 rfl) (ho44.slAt hH 1 rfl)) ?_
    rintro _ wn ⟨hC, hN⟩; rw [hGd] at hN; obtain ⟨bvz, capvz, curvz, rfl, hgevz, hbbvz, hovz⟩ := hN.own; replace hH := hH.push hC hgevz hbbvz; clear hC hN
    refine WL.u rfl rfl (Wt.plain rfl) (Ex.assign rfl) ?_
    refine WL.last ?_
    refine WN.normalBlock ?_
    refine WN.next ?_
    refine WC.region ?_
    refine WL.u rfl rfl (Wt.plain rfl) (Ex.add rfl rfl (by omega)) ?_
    refine WL.u rfl rfl (Wt.plain rfl) (Ex.move rfl) ?_
    refine WL.last ?_
    replace hH := hH.first1
    refine WN.round (c + 1, bvz, capvz, curvz, pairsI (takeG g (c + 1)), (rounds (takeG g (c + 1))).length) (by exact ⟨rfl, rfl, rfl, rfl, rfl, rfl, rfl, trivial⟩) ?_ ?_
    · exact ⟨hH, hovz, fun h => by omega, fun _ => ⟨rfl, rfl⟩, by omega⟩
    · (try dsimp only); omega
  have hc1' := hc1; try simp only [decide_eq_true_eq, decide_eq_false_iff_not, Bool.not_eq_true', Bool.not_eq_false', Bool.not_eq_true, Bool.not_eq_false] at hc1'
  have hce : c = nC g := by omega
  obtain ⟨rfl, rfl⟩ := hP1 (by omega)
  have hta := take_all hG
  rw [hce, hta]
  rw [hce, hta] at ho18
  refine WC.exit ?_
  refine WN.exitThen ?_
  refine WN.exitThen ?_
  refine WN.exitHere ?_
  refine WN.next ?_
  refine WC.seq ?_
  refine WC.region ?_
  refine WL.u rfl rfl (Wt.plain rfl) (Ex.move rfl) ?_
  refine WL.u rfl rfl (Wt.plain rfl) (Ex.move rfl) ?_
  refine WL.u rfl rfl (Wt.plain rfl) (Ex.assign rfl) ?_
  refine WL.u rfl rfl (Wt.plain rfl) (Ex.assign rfl) ?_
  refine WL.next ?_
  refine WC.ret ?_
  refine WN.body2 rfl rfl rfl ?_
  exact ⟨_, rfl, hH.keep, New.of (hH.front 0 rfl) ho18 (hH.base 0 rfl)⟩

theorem iCountJoined1 (g : Grid) (a : Option Addr) (cap b16 b6 P : Nat) (cur : Array Value) (l : List Int) (w : World) (hg : Sl rStr w a g) (hG : GridOk g) (hcap : g.length ≤ cap) (hga : Off [b16] a g) (hpl : (rounds g).length < l.length) (hb : w.heap[b16]? = some (.cells cur 3 (0, 0))) (ho16 : Own rInt cur P l) (h6 : w.cell? ⟨b6, 0, none⟩ = some (vsl b16 l.length P)) (hne : b6 ∉ [b16]) (hbd : ∀ j, 0 ≤ l.getD j 0 ∧ l.getD j 0 ≤ 1000000) : Fn Try.prog 22 [.slice a g.length cap, vptr b6 0] w (fun v w1 => ∃ cur1, Keep [b16] w w1 ∧ w1.heap[b16]? = some (.cells cur1 3 (0, 0)) ∧ Own rInt cur1 P (bump l (rounds g).length)) := by
  refine Fn.enter (n := 16) Try.func22 rfl rfl rfl ?_
  show WC _ _ _ _ [(0, .slice a g.length cap), (1, vptr b6 0)] _
  have hH := Hp.at1 hb
  refine WC.seq ?_
  refine WC.region ?_
  refine WL.u rfl rfl (Wt.plain rfl) (Ex.move rfl) ?_
  refine WL.call callable23 rfl (Wt.plain rfl) rfl rfl (ijoined g _ _ _ (hg.keepO hH.keep hga) hG hcap) ?_
  rintro _ wn ⟨x, rfl, hC, _⟩; replace hH := hH.call hC; clear hC
  refine WL.u rfl rfl (Wt.plain rfl) (Ex.move rfl) ?_
  refine WL.u rfl rfl (Wt.plain rfl) (Ex.extract rfl rfl) ?_
  refine WL.u rfl rfl (Wt.plain rfl) (Ex.extract rfl rfl) ?_
  refine WL.u rfl rfl (Wt.plain rfl) (Ex.assign rfl) ?_
  refine WL.u rfl rfl (Wt.plain rfl) (Ex.assign rfl) ?_
  refine WL.next ?_
  refine WC.region ?_
  refine WL.u rfl rfl (Wt.plain rfl) (Ex.load flat22 rfl (hH.keep.cell h6 hne)) ?_
  refine WL.u rfl rfl (Wt.plain rfl) (Ex.move rfl) ?_
  refine WL.u rfl rfl (Wt.plain rfl) (Ex.indexAddr Try.underlying22 ty3 rfl rfl (by omega)) ?_
  refine WL.u rfl rfl (Wt.plain rfl) (Ex.loadHp flat3 rfl hH (ho16.get rfl (getD_get l (rounds g).length 0 hpl))) ?_
  have hbe := hbd (rounds g).length
  refine WL.u rfl rfl (Wt.plain rfl) (Ex.add rfl rfl (by omega)) ?_
  refine WL.u rfl rfl (Wt.plain rfl) (Ex.indexAddr Try.underlying22 ty3 rfl rfl (by omega)) ?_
  refine WL.store1 ty3 rfl rfl rfl (Wt.plain rfl) hH (ho16.idx rfl hpl) (by simp) (fun wn hk hH => ?_)
  replace ho16 := ho16.set rfl (rounds g).length (l.getD (rounds g).length 0 + 1)
  refine WL.last ?_
  refine WN.body0n rfl ?_
  exact ⟨_, hH.keep, hH.at 0 rfl, ho16⟩


theorem eachCJ {n m P b16 b6 : Nat} {w : World} (hf : Few n m) (hP : ∀ i, i < 2 ^ (n * m) → rF n m i < P) (h9 : 2 ^ (n * m) ≤ 512) (hlt : b16 < w.heap.size) (hne : b6 ∉ [b16]) (h0 : RJ n m P b16 b6 0 [b16] w) : Each Try.prog 22 [vptr b6 0] (full n m) (2 ^ (n * m)) [b16] (RJ n m P b16 b6) w where
  fn := callable22
  lt := fun k hk => by rw [List.mem_singleton.1 hk]; exact hlt
  keep := fun i U w2 w3 ⟨hU, cur, hb, ho, hc⟩ hk => ⟨hU, cur, hk.heap hb (by simp), ho, hk.cell hc (by simp)⟩
  start := h0
  call := fun w2 i b cap cur2 U hK hi ⟨hU, cur, hb, ho, hc⟩ hl hbU _ hbg hog => by
    have hg := hog.sl0 hbg
    subst hU
    have hcl := cntBy_len (rF n m) P i
    refine (iCountJoined1 (full n m i) _ cap b16 b6 P cur _ w2 hg (full_ok i hf.n1 hf.n5 hf.m1 hf.m5) hog.le (.inr (fun p hp => by cases hp; exact hbU)) (by rw [hcl]; exact hP i hi) hb ho (by rw [hcl]; exact hc) hne (fun j => by
      have := cntBy_bound (rF n m) P i (fun j hj => hP j (by omega)) j; omega)).mono fun v w3 ⟨cur1, hk, hb1, ho1⟩ => ⟨[b16], ⟨rfl, cur1, hb1, ho1, hk.cell hc hne⟩, hk, fun k hk => .inl hk⟩

theorem iCountJoined (n m : Int) (w : World) : Fn Try.prog 6 [vint n, vint m] w (fun v w1 => ∃ x, v = .tuple #[x, .bool (countRounds n m).2] ∧ Keep [] w w1 ∧ New rInt 3 w w1 x (countRounds n m).1) := by
  refine Fn.enter (n := 22) Try.func6 rfl rfl rfl ?_
  show WC _ _ _ _ [(0, vint n), (1, vint m)] _
  have hH := Hp.start [] w
  refine WC.seq ?_
  refine WC.region ?_
  refine WL.u rfl rfl (Wt.plain rfl) (Ex.assign rfl) ?_
  refine WL.u rfl rfl (Wt.plain rfl) (Ex.assign rfl) ?_
  refine WL.next ?_
  refine WC.seq ?_
  refine WC.seq ?_
  refine WC.region ?_
  refine WL.u rfl rfl (Wt.plain rfl) (Ex.move rfl) ?_
  refine WL.u rfl rfl (Wt.plain rfl) (Ex.move rfl) ?_
  refine WL.call callable19 rfl (Wt.plain rfl) rfl rfl (ifewOk _ _ _ _) ?_
  rintro _ _ ⟨rfl, hw⟩; obtain rfl := hw.symm
  refine WL.u rfl rfl (Wt.plain rfl) (Ex.not rfl) ?_
  refine WL.next ?_
  refine WC.cond rfl (fun hc1 => ?_) (fun hc1 => ?_)
  · have hc1' := hc1; try simp only [decide_eq_true_eq, decide_eq_false_iff_not, Bool.not_eq_true', Bool.not_eq_false', Bool.not_eq_true, Bool.not_eq_false] at hc1'
    have hfw : fewB n m 9 = false := by simpa using hc1
    refine WC.seq ?_
    refine WC.region ?_
    refine WL.lit0 Try.underlying22 ty3 rfl (Wt.plain rfl) hH (fun b11 wn hb11 hk11 hH => ?_)
    have ho11 := Own.nil rInt
    refine WL.u rfl rfl (Wt.plain rfl) (Ex.assign rfl) ?_
    refine WL.u rfl rfl (Wt.plain rfl) (Ex.assign rfl) ?_
    refine WL.next ?_
    refine WC.ret ?_
    refine WN.retThen ?_
    refine WN.body2 rfl rfl rfl ?_
    have e := countRounds_not hfw
    exact ⟨_, by rw [e], hH.keep, by rw [e]; exact New.of hH ho11 (hH.base 0 rfl)⟩
  have hc1' := hc1; try simp only [decide_eq_true_eq, decide_eq_false_iff_not, Bool.not_eq_true', Bool.not_eq_false', Bool.not_eq_true, Bool.not_eq_false] at hc1'
  have hfw : fewB n m 9 = true := by simpa using hc1
  obtain ⟨n, m, rfl, rfl, h1, h2, h3, h4, h9⟩ := fewB_ex hfw
  have hp9 := pow9 h9
  have hf := few_of h1 h2 h3 h4 h9
  have hmx := mxN_lt (f := rF n m) (B := 101) (by decide) (2 ^ (n * m)) (fun i _ => rF_lt hf i)
  refine WC.skip ?_
  refine WN.next ?_
  refine WC.seq ?_
  refine WC.region ?_
  refine WL.u rfl rfl (Wt.plain rfl) (Ex.move rfl) ?_
  refine WL.u rfl rfl (Wt.plain rfl) (Ex.move rfl) ?_
  refine WL.call callable20 rfl (Wt.plain rfl) rfl rfl (iroundMost n m _ hf) ?_
  rintro _ wn ⟨rfl, hC⟩; replace hH := hH.call hC; clear hC
  refine WL.u rfl rfl (Wt.plain rfl) ((Ex.add rfl rfl (by omega)).to (congrArg (Value.int IntKind.i64) (show _ = ((mxN (rF n m) (2 ^ (n * m)) + 1 : Nat) : Int) by omega))) ?_
  refine WL.makeSlice Try.underlying22 ty3 rfl rfl (by omega) (by omega) rfl (Wt.plain rfl) hH (fun b16 wn hb16 hk16 hH => ?_)
  have ho16 := Own.made rInt (z := vint 0) 0 rfl rfl (k := mxN (rF n m) (2 ^ (n * m)) + 1) (by omega)
  refine WL.alloc ty22 rfl rfl (Wt.plain rfl) hH (fun b6 wn hb6 hk6 hH => ?_)
  refine WL.store1 ty22 rfl rfl rfl (Wt.plain rfl) hH (by first | decide | simp) rfl (fun wn hk hH => ?_)
  refine WL.next ?_
  refine WC.seq ?_
  replace hH := hH.f1
  refine WC.region ?_
  refine WL.u rfl rfl (Wt.plain rfl) (Ex.move rfl) ?_
  refine WL.u rfl rfl (Wt.plain rfl) (Ex.move rfl) ?_
  refine WL.u rfl rfl (Wt.plain rfl) (Ex.makeFunc rfl) ?_
  refine WL.call callable21 rfl (Wt.plain rfl) rfl rfl (ifullGrids n m 22 _ [vptr b6 0] [b16] (RJ n m (mxN (rF n m) (2 ^ (n * m)) + 1) b16 b6) _ rfl h1 h2 h4 (eachCJ hf (rCnt_lt n m) hp9 (hH.lt 0 rfl) (by have := hH.nin 1 0 rfl rfl rfl; exact this) ⟨rfl, _, hH.at 0 rfl, ho16, hH.cellAt 1 rfl 0 rfl⟩)) ?_
  rintro _ wn ⟨U, ⟨hUe, cur2, hb2, ho2, hc6⟩, hK, hU⟩; replace hH := hH.turn hK hb2
  refine WL.next ?_
  refine WC.seq ?_
  refine WC.region ?_
  refine WL.u rfl rfl (Wt.plain rfl) (Ex.load flat22 rfl hc6) ?_
  refine WL.u rfl rfl (Wt.plain rfl) (Ex.assign rfl) ?_
  refine WL.u rfl rfl (Wt.plain rfl) (Ex.assign rfl) ?_
  refine WL.next ?_
  refine WC.ret ?_
  refine WN.body2 rfl rfl rfl ?_
  have e := countRounds_at hfw
  have hll := rCnt_len n m
  exact ⟨_, by rw [e], hH.keep, by rw [e]; have hN := New.of hH ho2 (hH.base 0 rfl); rw [cntBy_len] at hN; exact hN⟩

end Go.Proofs.Ytmlkabddhdkpaaa
