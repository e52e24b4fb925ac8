/- The laws: full grids of one letter have no rounds; rounds of four. -/
import Derived.Test.YtjejdebmlgjdeaaRnd4
namespace Go.Proofs.Ytjejdebmlgjdeaa
set_option maxRecDepth 100000
set_option linter.unusedSimpArgs false
set_option linter.unusedVariables false
open Go Go.RowKit
theorem full_same (n m : Nat) : full n m 0 = List.replicate n (List.replicate m 114) := by
  have h : mirror m 0 = fun _ _ => 114 := by
    funext i k
    unfold mirror
    rw [Nat.zero_div]; rfl
  unfold full gridOf
  rw [h]
  simp [List.map_const']
theorem wtot {n m : Nat} (hf : Few n m) (h : fewB n m 9 = true) : ∃ T : Nat, countTotal n m = ((T : Int), true) ∧ T ≤ 3072 ∧ 2 ^ (n * m) * ((n - 1) * (m - 1)) ≤ 16 * T ∧ decide (T = 0) = decide (n = 1 ∨ m = 1) := by
  have hw := rCnt_wsum hf
  refine ⟨_, by unfold countTotal; rw [countRounds_at h, hw], by omega, ?_, ?_⟩
  · exact tab_low n (by have := hf.n5; omega) m (by have := hf.m5; omega) hf.n1 hf.m1 hf.nm
  · exact tab_none n (by have := hf.n5; omega) m (by have := hf.m5; omega) hf.n1 hf.m1 hf.nm

set_option maxHeartbeats 1000000 in
theorem lawCountSame (a : Option Addr) (l : List UInt8) (cap : Nat) (w : World) (hc : Sl rByte w a l) (hcap : l.length ≤ cap) : Fn Try.prog 12 [.slice a l.length cap] w (fun v w1 => v = .bool true ∧ Keep [] w w1) := by
  refine Fn.enter (n := 89) Try.func12 rfl rfl rfl ?_
  show WC _ _ _ _ [(0, .slice a l.length cap)] _
  have hH := Hp.start [] w
  refine WC.seq ?_
  refine WC.region ?_
  refine WL.u rfl rfl (Wt.plain rfl) (Ex.assign rfl) ?_
  refine WL.next ?_
  refine WC.seq ?_
  refine WC.seq ?_
  refine WC.region ?_
  refine WL.u rfl rfl (Wt.plain rfl) (Ex.move rfl) ?_
  refine WL.u rfl rfl (Wt.plain rfl) (Ex.lenSl Try.underlying31 rfl) ?_
  refine WL.u rfl rfl (Wt.plain rfl) (Ex.gtr rfl rfl) ?_
  refine WL.next ?_
  refine WC.cond rfl (fun hc1 => ?_) (fun hc1 => ?_)
  · have hc1' := hc1; try simp only [decide_eq_true_eq, decide_eq_false_iff_not, Bool.not_eq_true', Bool.not_eq_false', Bool.not_eq_true, Bool.not_eq_false] at hc1'
    refine WC.seq ?_
    refine WC.region ?_
    refine WL.u rfl rfl (Wt.plain rfl) (Ex.assign rfl) ?_
    refine WL.next ?_
    refine WC.ret ?_
    refine WN.retThen ?_
    refine WN.body1 rfl rfl ?_
    exact ⟨rfl, hH.keep⟩
  have hc1' := hc1; try simp only [decide_eq_true_eq, decide_eq_false_iff_not, Bool.not_eq_true', Bool.not_eq_false', Bool.not_eq_true, Bool.not_eq_false] at hc1'
  refine WC.skip ?_
  refine WN.next ?_
  refine WC.seq ?_
  refine WC.region ?_
  refine WL.u rfl rfl (Wt.plain rfl) (Ex.move rfl) ?_
  refine WL.call callable38 rfl (Wt.plain rfl) rfl rfl (sDrawCountRounds _ _ _ _ (hc.kept hH.keep) hcap) ?_
  rintro _ wn ⟨n, m, rfl, hC, hn1, hn4, hm1, hm12⟩; replace hH := hH.call hC; clear hC
  refine WL.u rfl rfl (Wt.plain rfl) (Ex.move rfl) ?_
  refine WL.u rfl rfl (Wt.plain rfl) (Ex.extract rfl rfl) ?_
  refine WL.u rfl rfl (Wt.plain rfl) (Ex.extract rfl rfl) ?_
  refine WL.u rfl rfl (Wt.plain rfl) (Ex.assign rfl) ?_
  refine WL.u rfl rfl (Wt.plain rfl) (Ex.assign rfl) ?_
  refine WL.next ?_
  refine WC.seq ?_
  refine WC.region ?_
  refine WL.u rfl rfl (Wt.plain rfl) (Ex.move rfl) ?_
  refine WL.u rfl rfl (Wt.plain rfl) (Ex.move rfl) ?_
  refine WL.call callable32 rfl (Wt.plain rfl) rfl rfl (iCountRounds n m _) ?_
  rintro _ wn ⟨x, rfl, hC, hN⟩; obtain ⟨b23, cap23, cur23, rfl, hge23, hbb23, ho23⟩ := hN.own; replace hH := hH.push hC hge23 hbb23; clear hC hN
  refine WL.u rfl rfl (Wt.plain rfl) (Ex.move rfl) ?_
  refine WL.u rfl rfl (Wt.plain rfl) (Ex.extract rfl rfl) ?_
  refine WL.u rfl rfl (Wt.plain rfl) (Ex.extract rfl rfl) ?_
  refine WL.u rfl rfl (Wt.plain rfl) (Ex.assign rfl) ?_
  refine WL.u rfl rfl (Wt.plain rfl) (Ex.assign rfl) ?_
  refine WL.next ?_
  refine WC.seq ?_
  refine WC.region ?_
  refine WL.u rfl rfl (Wt.plain rfl) (Ex.move rfl) ?_
  refine WL.u rfl rfl (Wt.plain rfl) (Ex.move rfl) ?_
  refine WL.call callable31 rfl (Wt.plain rfl) rfl rfl (sCountRounds n m _) ?_
  rintro _ wn ⟨x, rfl, hC, hN⟩; obtain ⟨b29, cap29, cur29, rfl, hge29, hbb29, ho29⟩ := hN.own; replace hH := hH.push hC hge29 hbb29; clear hC hN
  refine WL.u rfl rfl (Wt.plain rfl) (Ex.move rfl) ?_
  refine WL.u rfl rfl (Wt.plain rfl) (Ex.extract rfl rfl) ?_
  refine WL.u rfl rfl (Wt.plain rfl) (Ex.extract rfl rfl) ?_
  refine WL.u rfl rfl (Wt.plain rfl) (Ex.assign rfl) ?_
  refine WL.u rfl rfl (Wt.plain rfl) (Ex.assign rfl) ?_
  refine WL.next ?_
  refine WC.seq ?_
  refine WC.seq ?_
  refine WC.region ?_
  refine WL.u rfl rfl (Wt.plain rfl) (Ex.move rfl) ?_
  refine WL.u rfl rfl (Wt.plain rfl) (Ex.move rfl) ?_
  refine WL.u rfl rfl (Wt.plain rfl) (Ex.neqB Try.underlying4 rfl rfl) ?_
  refine WL.u rfl rfl (Wt.plain rfl) (Ex.move rfl) ?_
  refine WL.split (t := 38) rfl (fun hg6_3 => ?_) (fun hg6_3 => ?_)
  · exfalso; simp at hg6_3
  have hg6_3' := hg6_3; try simp only [decide_eq_true_eq, decide_eq_false_iff_not, Bool.not_eq_true', Bool.not_eq_false', Bool.not_eq_true, Bool.not_eq_false] at hg6_3'
  refine WL.u rfl rfl (Wt.guard' rfl rfl rfl hg6_3 rfl) (Ex.move rfl) ?_
  refine WL.u rfl rfl (Wt.guard' rfl rfl rfl hg6_3 rfl) (Ex.move rfl) ?_
  refine WL.call callable39 rfl (Wt.guard' rfl rfl rfl hg6_3 rfl) rfl rfl (sameInts (countRounds n m).1 (countRounds n m).1 _ _ _ _ _ (ho23.slAt hH 1 rfl) (ho29.slAt hH 0 rfl)) ?_
  rintro _ wn ⟨rfl, hC⟩; replace hH := hH.dr hC; clear hC
  refine WL.u rfl rfl (Wt.guard' rfl rfl rfl hg6_3 rfl) (Ex.not rfl) ?_
  refine WL.u rfl rfl (Wt.plain rfl) (Ex.pickF rfl hg6_3 rfl) ?_
  refine WL.u rfl rfl (Wt.plain rfl) (Ex.move rfl) ?_
  refine WL.split (t := 44) rfl (fun hg6_9 => ?_) (fun hg6_9 => ?_)
  · exfalso; simp at hg6_9
  have hg6_9' := hg6_9; try simp only [decide_eq_true_eq, decide_eq_false_iff_not, Bool.not_eq_true', Bool.not_eq_false', Bool.not_eq_true, Bool.not_eq_false] at hg6_9'
  refine WL.u rfl rfl (Wt.guard' rfl rfl rfl hg6_9 rfl) (Ex.move rfl) ?_
  refine WL.u rfl rfl (Wt.guard' rfl rfl rfl hg6_9 rfl) (Ex.not rfl) ?_
  refine WL.u rfl rfl (Wt.plain rfl) (Ex.pickF rfl hg6_9 rfl) ?_
  refine WL.next ?_
  refine WC.cond rfl (fun hc2 => ?_) (fun hc2 => ?_)
  · have hc2' := hc2; try simp only [decide_eq_true_eq, decide_eq_false_iff_not, Bool.not_eq_true', Bool.not_eq_false', Bool.not_eq_true, Bool.not_eq_false] at hc2'
    refine WC.seq ?_
    refine WC.region ?_
    refine WL.u rfl rfl (Wt.plain rfl) (Ex.move rfl) ?_
    refine WL.u rfl rfl (Wt.plain rfl) (Ex.move rfl) ?_
    refine WL.u rfl rfl (Wt.plain rfl) (Ex.eqlB Try.underlying4 rfl rfl) ?_
    refine WL.u rfl rfl (Wt.plain rfl) (Ex.move rfl) ?_
    refine WL.split (t := 51) rfl (fun hg7_3 => ?_) (fun hg7_3 => ?_)
    · have hg7_3' := hg7_3; try simp only [decide_eq_true_eq, decide_eq_false_iff_not, Bool.not_eq_true', Bool.not_eq_false', Bool.not_eq_true, Bool.not_eq_false] at hg7_3'
      refine WL.u rfl rfl (Wt.guard' rfl rfl rfl hg7_3 rfl) (Ex.move rfl) ?_
      refine WL.u rfl rfl (Wt.guard' rfl rfl rfl hg7_3 rfl) (Ex.move rfl) ?_
      refine WL.call callable39 rfl (Wt.guard' rfl rfl rfl hg7_3 rfl) rfl rfl (sameInts (countRounds n m).1 (countRounds n m).1 _ _ _ _ _ (ho23.slAt hH 1 rfl) (ho29.slAt hH 0 rfl)) ?_
      rintro _ wn ⟨rfl, hC⟩; replace hH := hH.dr hC; clear hC
      refine WL.u rfl rfl (Wt.plain rfl) (Ex.pickT rfl hg7_3 rfl) ?_
      refine WL.u rfl rfl (Wt.plain rfl) (Ex.assign rfl) ?_
      refine WL.next ?_
      refine WC.ret ?_
      refine WN.retThen ?_
      refine WN.body1 rfl rfl ?_
      exact ⟨congrArg Value.bool (decide_eq_true rfl), hH.keep⟩
    exfalso; simp at hg7_3
  have hc2' := hc2; try simp only [decide_eq_true_eq, decide_eq_false_iff_not, Bool.not_eq_true', Bool.not_eq_false', Bool.not_eq_true, Bool.not_eq_false] at hc2'
  have hok : (countRounds n m).2 = true := by simpa using hc2
  rw [countRounds_ok] at hok
  obtain ⟨n2, m2, e1, e2, h1, h2, h3, h4, h9⟩ := fewB_ex hok
  obtain rfl : n = n2 := by omega
  obtain rfl : m = m2 := by omega
  have hp9 := pow9 h9
  have hf := few_of h1 h2 h3 h4 h9
  have hcp := congrArg Prod.fst (countRounds_at hok)
  dsimp only at hcp
  have hmI : (n : Int) * (m : Int) = ((n * m : Nat) : Int) := (Int.natCast_mul n m).symm
  have hnm9 : n * m ≤ 9 := by omega
  have hz2 := rCnt_zero hf
  have hlen := rCnt_len n m
  rw [← hcp] at hz2 hlen
  generalize (countRounds n m).1 = L at *
  have hGf := full_ok 0 h1 h2 h3 h4
  have hr0 : (rounds (full n m 0)).length = 0 := by rw [← rcB_ok h1 h2 h3 h4]; exact tab_r n (by omega) m (by omega) h1 h3 (by omega)
  refine WC.skip ?_
  refine WN.next ?_
  refine WC.seq ?_
  refine WC.region ?_
  refine WL.lit0 Try.underlying22 ty9 rfl (Wt.plain rfl) hH (fun b56 wn hb56 hk56 hH => ?_)
  have ho56 := Own.nil rStr
  refine WL.u rfl rfl (Wt.plain rfl) (Ex.assign rfl) ?_
  refine WL.next ?_
  refine WC.seq ?_
  refine WC.seq ?_
  refine WC.region ?_
  refine WL.u rfl rfl (Wt.plain rfl) (Ex.assign rfl) ?_
  refine WL.next ?_
  refine WC.block ?_
  replace hH := hH.f2
  replace hH := hH.f1
  refine WC.loop (ι := Nat × Nat × Nat × (Array Value) × Grid) (fun (i, b56, cap56, cur56, g) => [(3, vint n), (4, vint m), (5, vsl b23 L.length cap23), (9, vsl b56 g.length cap56), (10, vint i)]) (fun (i, b56, cap56, cur56, g) wn => Hp [] w wn [(b56, .cells cur56 9 (0, 0)), (b23, .cells cur23 3 (0, 0))] ∧ Own rStr cur56 cap56 g ∧ g = List.replicate i (List.replicate m 114) ∧ i ≤ n) (fun (i, b56, cap56, cur56, g) => n - i) ((0, b56, 0, #[], [])) (by exact ⟨rfl, rfl, rfl, rfl, rfl, trivial⟩) ?_ ?_
  · exact ⟨hH.first2, ho56, rfl, Nat.zero_le _⟩
  rintro ⟨i, b56, cap56, cur56, g⟩ wn ⟨hH, ho56, hg, hi⟩
  have hgl : g.length = i := by rw [hg]; simp
  intro mu0 hmu; try dsimp only at hmu
  show WC _ _ _ _ [(3, vint n), (4, vint m), (5, vsl b23 L.length cap23), (9, vsl b56 g.length cap56), (10, vint i)] _
  refine WC.seq ?_
  refine WC.seq ?_
  refine WC.region ?_
  refine WL.u rfl rfl (Wt.plain rfl) (Ex.move rfl) ?_
  refine WL.u rfl rfl (Wt.plain rfl) (Ex.move rfl) ?_
  refine WL.u rfl rfl (Wt.plain rfl) (Ex.lss rfl rfl) ?_
  refine WL.next ?_
  refine WC.cond rfl (fun hc3 => ?_) (fun hc3 => ?_)
  · have hc3' := hc3; try simp only [decide_eq_true_eq, decide_eq_false_iff_not, Bool.not_eq_true', Bool.not_eq_false', Bool.not_eq_true, Bool.not_eq_false] at hc3'
    have hlt : i < n := by omega
    refine WC.skip ?_
    refine WN.next ?_
    refine WC.seq ?_
    refine WC.block ?_
    refine WC.seq ?_
    refine WC.region ?_
    refine WL.u rfl rfl (Wt.plain rfl) (Ex.assign rfl) ?_
    refine WL.next ?_
    refine WC.seq ?_
    refine WC.seq ?_
    refine WC.region ?_
    refine WL.u rfl rfl (Wt.plain rfl) (Ex.assign rfl) ?_
    refine WL.next ?_
    refine WC.block ?_
    replace hH := hH.f1
    replace hH := hH.f1
    refine WC.loop (ι := Nat) (fun k => [(3, vint n), (4, vint m), (5, vsl b23 L.length cap23), (9, vsl b56 g.length cap56), (10, vint i), (11, vstr (List.replicate k 114)), (12, vint k)]) (fun k wn => Hp [] w wn [(b56, .cells cur56 9 (0, 0)), (b23, .cells cur23 3 (0, 0))] ∧ k ≤ m) (fun k => m - k) (0) (by exact ⟨rfl, rfl, rfl, rfl, rfl, rfl, rfl, trivial⟩) ?_ ?_
    · exact ⟨hH, Nat.zero_le _⟩
    rintro k wn ⟨hH, hk⟩
    intro mu0 hmu; try dsimp only at hmu
    show WC _ _ _ _ [(3, vint n), (4, vint m), (5, vsl b23 L.length cap23), (9, vsl b56 g.length cap56), (10, vint i), (11, vstr (List.replicate k 114)), (12, vint k)] _
    refine WC.seq ?_
    refine WC.seq ?_
    refine WC.region ?_
    refine WL.u rfl rfl (Wt.plain rfl) (Ex.move rfl) ?_
    refine WL.u rfl rfl (Wt.plain rfl) (Ex.move rfl) ?_
    refine WL.u rfl rfl (Wt.plain rfl) (Ex.lss rfl rfl) ?_
    refine WL.next ?_
    refine WC.cond rfl (fun hc4 => ?_) (fun hc4 => ?_)
    · have hc4' := hc4; try simp only [decide_eq_true_eq, decide_eq_false_iff_not, Bool.not_eq_true', Bool.not_eq_false', Bool.not_eq_true, Bool.not_eq_false] at hc4'
      have hlk : k < m := by omega
      refine WC.skip ?_
      refine WN.next ?_
      refine WC.seq ?_
      refine WC.block ?_
      refine WC.region ?_
      refine WL.u rfl rfl (Wt.plain rfl) (Ex.move rfl) ?_
      refine WL.u rfl rfl (Wt.plain rfl) (Ex.concat rfl rfl (by simp only [List.length_replicate, List.length_cons, List.length_nil]; omega)) ?_
      refine WL.u rfl rfl (Wt.plain rfl) (Ex.assign rfl) ?_
      refine WL.last ?_
      refine WN.normalBlock ?_
      refine WN.next ?_
      refine WC.region ?_
      refine WL.u rfl rfl (Wt.plain rfl) (Ex.move rfl) ?_
      refine WL.u rfl rfl (Wt.plain rfl) (Ex.add rfl rfl (by omega)) ?_
      refine WL.u rfl rfl (Wt.plain rfl) (Ex.assign rfl) ?_
      refine WL.last ?_
      replace hH := hH.f1
      replace hH := hH.f1
      refine WN.round (k + 1) (by exact ⟨rfl, rfl, rfl, rfl, rfl, congrArg (fun x => some (vstr x)) (show _ = List.replicate (k + 1) 114 by rw [List.replicate_succ']), rfl, trivial⟩) ?_ ?_
      · exact ⟨hH, by omega⟩
      · (try dsimp only); omega
    have hc4' := hc4; try simp only [decide_eq_true_eq, decide_eq_false_iff_not, Bool.not_eq_true', Bool.not_eq_false', Bool.not_eq_true, Bool.not_eq_false] at hc4'
    obtain rfl : k = m := by omega
    refine WC.exit ?_
    refine WN.exitThen ?_
    refine WN.exitThen ?_
    refine WN.exitHere ?_
    refine WN.next ?_
    refine WC.region ?_
    refine WL.u rfl rfl (Wt.plain rfl) (Ex.move rfl) ?_
    refine WL.u rfl rfl (Wt.plain rfl) (Ex.move rfl) ?_
    refine WL.append1 (r := rStr) (u := List.replicate k 114) Try.underlying22 ty9 rfl rfl (fun _ => rfl) (fun _ => rfl) rfl rfl (Wt.plain rfl) (fun _ => (Wt.plain rfl)) hH ho56 rfl (by omega) (by omega) (fun b56 cap56 cur56 wn x56 hb56 hk56 hH ho56 => ?_)
    refine WL.u rfl rfl (Wt.plain rfl) (Ex.assign rfl) ?_
    refine WL.last ?_
    refine WN.normalBlock ?_
    refine WN.next ?_
    refine WC.region ?_
    refine WL.u rfl rfl (Wt.plain rfl) (Ex.move rfl) ?_
    refine WL.u rfl rfl (Wt.plain rfl) (Ex.add rfl rfl (by omega)) ?_
    refine WL.u rfl rfl (Wt.plain rfl) (Ex.assign rfl) ?_
    refine WL.last ?_
    replace hH := hH.f1
    replace hH := hH.f1
    refine WN.round (i + 1, b56, cap56, cur56, g ++ [List.replicate k 114]) (by exact ⟨rfl, rfl, rfl, rfl, rfl, trivial⟩) ?_ ?_
    · exact ⟨hH, ho56, by rw [List.replicate_succ', hg], by omega⟩
    · (try dsimp only); omega
  have hc3' := hc3; try simp only [decide_eq_true_eq, decide_eq_false_iff_not, Bool.not_eq_true', Bool.not_eq_false', Bool.not_eq_true, Bool.not_eq_false] at hc3'
  obtain rfl : i = n := by omega
  rw [← full_same] at hg
  subst hg
  have hrm : roundManyR (full i m 0) = (0, true) := by unfold roundManyR; rw [if_pos (gridIn_true hGf), hr0]; rfl
  refine WC.exit ?_
  refine WN.exitThen ?_
  refine WN.exitThen ?_
  refine WN.exitHere ?_
  refine WN.next ?_
  refine WC.seq ?_
  refine WC.region ?_
  refine WL.u rfl rfl (Wt.plain rfl) (Ex.move rfl) ?_
  refine WL.call callable42 rfl (Wt.plain rfl) rfl rfl (iRoundMany (full i m 0) _ _ _ (ho56.slAt hH 0 rfl) hGf.short) ?_
  rintro _ wn ⟨hv, hC⟩; rw [hrm] at hv; dsimp only at hv; subst hv; replace hH := hH.call hC; clear hC
  refine WL.u rfl rfl (Wt.plain rfl) (Ex.move rfl) ?_
  refine WL.u rfl rfl (Wt.plain rfl) (Ex.extract rfl rfl) ?_
  refine WL.u rfl rfl (Wt.plain rfl) (Ex.extract rfl rfl) ?_
  refine WL.u rfl rfl (Wt.plain rfl) (Ex.assign rfl) ?_
  refine WL.u rfl rfl (Wt.plain rfl) (Ex.assign rfl) ?_
  refine WL.next ?_
  refine WC.seq ?_
  refine WC.region ?_
  refine WL.u rfl rfl (Wt.plain rfl) (Ex.move rfl) ?_
  refine WL.u rfl rfl (Wt.plain rfl) (Ex.move rfl) ?_
  refine WL.u rfl rfl (Wt.guard' rfl rfl rfl (rfl) rfl) (Ex.move rfl) ?_
  refine WL.u rfl rfl (Wt.guard' rfl rfl rfl (rfl) rfl) (Ex.eql rfl rfl) ?_
  refine WL.u rfl rfl (Wt.plain rfl) (Ex.pickT rfl (rfl) rfl) ?_
  refine WL.u rfl rfl (Wt.plain rfl) (Ex.move rfl) ?_
  refine WL.u rfl rfl (Wt.guard' rfl rfl rfl (rfl) rfl) (Ex.move rfl) ?_
  refine WL.u rfl rfl (Wt.guard' rfl rfl rfl (rfl) rfl) (Ex.indexAddr Try.underlying38 ty3 rfl rfl (by omega)) ?_
  replace hH := hH.f1
  refine WL.u rfl rfl (Wt.guard' rfl rfl rfl (rfl) rfl) (Ex.loadHp flat3 rfl hH (ho23.get rfl (getD_get L 0 0 (by omega)))) ?_
  refine WL.u rfl rfl (Wt.guard' rfl rfl rfl (rfl) rfl) (Ex.geq rfl rfl) ?_
  refine WL.u rfl rfl (Wt.plain rfl) (Ex.pickT rfl (rfl) rfl) ?_
  refine WL.u rfl rfl (Wt.plain rfl) (Ex.assign rfl) ?_
  refine WL.next ?_
  refine WC.ret ?_
  refine WN.body1 rfl rfl ?_
  exact ⟨congrArg Value.bool (decide_eq_true (by omega)), hH.keep⟩

theorem lawCountTotal (a : Option Addr) (l : List UInt8) (cap : Nat) (w : World) (hc : Sl rByte w a l) (hcap : l.length ≤ cap) : Fn Try.prog 10 [.slice a l.length cap] w (fun v w1 => v = .bool true ∧ Keep [] w w1) := by
  refine Fn.enter (n := 73) Try.func10 rfl rfl rfl ?_
  show WC _ _ _ _ [(0, .slice a l.length cap)] _
  have hH := Hp.start [] w
  refine WC.seq ?_
  refine WC.region ?_
  refine WL.u rfl rfl (Wt.plain rfl) (Ex.assign rfl) ?_
  refine WL.next ?_
  refine WC.seq ?_
  refine WC.seq ?_
  refine WC.region ?_
  refine WL.u rfl rfl (Wt.plain rfl) (Ex.move rfl) ?_
  refine WL.u rfl rfl (Wt.plain rfl) (Ex.lenSl Try.underlying31 rfl) ?_
  refine WL.u rfl rfl (Wt.plain rfl) (Ex.gtr rfl rfl) ?_
  refine WL.next ?_
  refine WC.cond rfl (fun hc1 => ?_) (fun hc1 => ?_)
  · have hc1' := hc1; try simp only [decide_eq_true_eq, decide_eq_false_iff_not, Bool.not_eq_true', Bool.not_eq_false', Bool.not_eq_true, Bool.not_eq_false] at hc1'
    refine WC.seq ?_
    refine WC.region ?_
    refine WL.u rfl rfl (Wt.plain rfl) (Ex.assign rfl) ?_
    refine WL.next ?_
    refine WC.ret ?_
    refine WN.retThen ?_
    refine WN.body1 rfl rfl ?_
    exact ⟨rfl, hH.keep⟩
  have hc1' := hc1; try simp only [decide_eq_true_eq, decide_eq_false_iff_not, Bool.not_eq_true', Bool.not_eq_false', Bool.not_eq_true, Bool.not_eq_false] at hc1'
  refine WC.skip ?_
  refine WN.next ?_
  refine WC.seq ?_
  refine WC.region ?_
  refine WL.u rfl rfl (Wt.plain rfl) (Ex.move rfl) ?_
  refine WL.call callable36 rfl (Wt.plain rfl) rfl rfl (sDrawCountTotal _ _ _ _ (hc.kept hH.keep) hcap) ?_
  rintro _ wn ⟨n, m, rfl, hC, hn1, hn4, hm1, hm12⟩; replace hH := hH.call hC; clear hC
  refine WL.u rfl rfl (Wt.plain rfl) (Ex.move rfl) ?_
  refine WL.u rfl rfl (Wt.plain rfl) (Ex.extract rfl rfl) ?_
  refine WL.u rfl rfl (Wt.plain rfl) (Ex.extract rfl rfl) ?_
  refine WL.u rfl rfl (Wt.plain rfl) (Ex.assign rfl) ?_
  refine WL.u rfl rfl (Wt.plain rfl) (Ex.assign rfl) ?_
  refine WL.next ?_
  refine WC.seq ?_
  refine WC.region ?_
  refine WL.u rfl rfl (Wt.plain rfl) (Ex.move rfl) ?_
  refine WL.u rfl rfl (Wt.plain rfl) (Ex.move rfl) ?_
  refine WL.call callable30 rfl (Wt.plain rfl) rfl rfl (iCountTotal n m _) ?_
  rintro _ wn ⟨rfl, hC⟩; replace hH := hH.call hC; clear hC
  refine WL.u rfl rfl (Wt.plain rfl) (Ex.move rfl) ?_
  refine WL.u rfl rfl (Wt.plain rfl) (Ex.extract rfl rfl) ?_
  refine WL.u rfl rfl (Wt.plain rfl) (Ex.extract rfl rfl) ?_
  refine WL.u rfl rfl (Wt.plain rfl) (Ex.assign rfl) ?_
  refine WL.u rfl rfl (Wt.plain rfl) (Ex.assign rfl) ?_
  refine WL.next ?_
  refine WC.seq ?_
  refine WC.region ?_
  refine WL.u rfl rfl (Wt.plain rfl) (Ex.move rfl) ?_
  refine WL.u rfl rfl (Wt.plain rfl) (Ex.move rfl) ?_
  refine WL.call callable29 rfl (Wt.plain rfl) rfl rfl (sCountTotal n m _) ?_
  rintro _ wn ⟨rfl, hC⟩; replace hH := hH.call hC; clear hC
  refine WL.u rfl rfl (Wt.plain rfl) (Ex.move rfl) ?_
  refine WL.u rfl rfl (Wt.plain rfl) (Ex.extract rfl rfl) ?_
  refine WL.u rfl rfl (Wt.plain rfl) (Ex.extract rfl rfl) ?_
  refine WL.u rfl rfl (Wt.plain rfl) (Ex.assign rfl) ?_
  refine WL.u rfl rfl (Wt.plain rfl) (Ex.assign rfl) ?_
  refine WL.next ?_
  refine WC.seq ?_
  refine WC.seq ?_
  refine WC.region ?_
  refine WL.u rfl rfl (Wt.plain rfl) (Ex.move rfl) ?_
  refine WL.u rfl rfl (Wt.plain rfl) (Ex.move rfl) ?_
  refine WL.u rfl rfl (Wt.plain rfl) (Ex.neqB Try.underlying4 rfl rfl) ?_
  refine WL.u rfl rfl (Wt.plain rfl) (Ex.move rfl) ?_
  refine WL.split (t := 32) rfl (fun hg6_3 => ?_) (fun hg6_3 => ?_)
  · exfalso; simp at hg6_3
  have hg6_3' := hg6_3; try simp only [decide_eq_true_eq, decide_eq_false_iff_not, Bool.not_eq_true', Bool.not_eq_false', Bool.not_eq_true, Bool.not_eq_false] at hg6_3'
  refine WL.u rfl rfl (Wt.guard' rfl rfl rfl hg6_3 rfl) (Ex.move rfl) ?_
  refine WL.u rfl rfl (Wt.guard' rfl rfl rfl hg6_3 rfl) (Ex.move rfl) ?_
  refine WL.u rfl rfl (Wt.guard' rfl rfl rfl hg6_3 rfl) (Ex.neq rfl rfl) ?_
  refine WL.u rfl rfl (Wt.plain rfl) (Ex.pickF rfl hg6_3 rfl) ?_
  refine WL.u rfl rfl (Wt.plain rfl) (Ex.move rfl) ?_
  refine WL.split (t := 37) rfl (fun hg6_8 => ?_) (fun hg6_8 => ?_)
  · exfalso; simp at hg6_8
  have hg6_8' := hg6_8; try simp only [decide_eq_true_eq, decide_eq_false_iff_not, Bool.not_eq_true', Bool.not_eq_false', Bool.not_eq_true, Bool.not_eq_false] at hg6_8'
  refine WL.u rfl rfl (Wt.guard' rfl rfl rfl hg6_8 rfl) (Ex.move rfl) ?_
  refine WL.u rfl rfl (Wt.guard' rfl rfl rfl hg6_8 rfl) (Ex.not rfl) ?_
  refine WL.u rfl rfl (Wt.plain rfl) (Ex.pickF rfl hg6_8 rfl) ?_
  refine WL.next ?_
  refine WC.cond rfl (fun hc2 => ?_) (fun hc2 => ?_)
  · have hc2' := hc2; try simp only [decide_eq_true_eq, decide_eq_false_iff_not, Bool.not_eq_true', Bool.not_eq_false', Bool.not_eq_true, Bool.not_eq_false] at hc2'
    refine WC.seq ?_
    refine WC.region ?_
    refine WL.u rfl rfl (Wt.plain rfl) (Ex.move rfl) ?_
    refine WL.u rfl rfl (Wt.plain rfl) (Ex.move rfl) ?_
    refine WL.u rfl rfl (Wt.plain rfl) (Ex.eqlB Try.underlying4 rfl rfl) ?_
    refine WL.u rfl rfl (Wt.plain rfl) (Ex.move rfl) ?_
    refine WL.split (t := 44) rfl (fun hg7_3 => ?_) (fun hg7_3 => ?_)
    · have hg7_3' := hg7_3; try simp only [decide_eq_true_eq, decide_eq_false_iff_not, Bool.not_eq_true', Bool.not_eq_false', Bool.not_eq_true, Bool.not_eq_false] at hg7_3'
      refine WL.u rfl rfl (Wt.guard' rfl rfl rfl hg7_3 rfl) (Ex.move rfl) ?_
      refine WL.u rfl rfl (Wt.guard' rfl rfl rfl hg7_3 rfl) (Ex.move rfl) ?_
      refine WL.u rfl rfl (Wt.guard' rfl rfl rfl hg7_3 rfl) (Ex.eql rfl rfl) ?_
      refine WL.u rfl rfl (Wt.plain rfl) (Ex.pickT rfl hg7_3 rfl) ?_
      refine WL.u rfl rfl (Wt.plain rfl) (Ex.assign rfl) ?_
      refine WL.next ?_
      refine WC.ret ?_
      refine WN.retThen ?_
      refine WN.body1 rfl rfl ?_
      exact ⟨congrArg Value.bool (decide_eq_true rfl), hH.keep⟩
    exfalso; simp at hg7_3
  have hc2' := hc2; try simp only [decide_eq_true_eq, decide_eq_false_iff_not, Bool.not_eq_true', Bool.not_eq_false', Bool.not_eq_true, Bool.not_eq_false] at hc2'
  have hok : (countTotal n m).2 = true := by simpa using hc2
  rw [show (countTotal n m).2 = (countRounds n m).2 from rfl, countRounds_ok] at hok
  obtain ⟨n2, m2, e1, e2, h1, h2, h3, h4, h9⟩ := fewB_ex hok
  obtain rfl : n = n2 := by omega
  obtain rfl : m = m2 := by omega
  have hp9 := pow9 h9
  have hf := few_of h1 h2 h3 h4 h9
  have hcp := congrArg Prod.fst (countRounds_at hok)
  dsimp only at hcp
  have hmI : (n : Int) * (m : Int) = ((n * m : Nat) : Int) := (Int.natCast_mul n m).symm
  have hnm9 : n * m ≤ 9 := by omega
  obtain ⟨T, hT, hT2, hT3, hT4⟩ := wtot hf hok
  rw [hT]
  have hP1 : ((2 ^ (n * m) : Nat) : Int) * ((n : Int) - 1) = ((2 ^ (n * m) * (n - 1) : Nat) : Int) := by rw [Int.natCast_mul, Int.natCast_sub h1]; rfl
  have hP2 : ((2 ^ (n * m) * (n - 1) : Nat) : Int) * ((m : Int) - 1) = ((2 ^ (n * m) * ((n - 1) * (m - 1)) : Nat) : Int) := by rw [← Nat.mul_assoc, Int.natCast_mul (2 ^ (n * m) * (n - 1)), Int.natCast_sub h3]; rfl
  have hb1 : 2 ^ (n * m) * (n - 1) ≤ 512 * 4 := Nat.mul_le_mul hp9 (by omega)
  have hb2 : 2 ^ (n * m) * ((n - 1) * (m - 1)) ≤ 512 * (4 * 4) := Nat.mul_le_mul hp9 (Nat.mul_le_mul (by omega) (by omega))
  refine WC.skip ?_
  refine WN.next ?_
  refine WC.seq ?_
  refine WC.region ?_
  refine WL.u rfl rfl (Wt.plain rfl) (Ex.move rfl) ?_
  refine WL.u rfl rfl (Wt.plain rfl) (Ex.mul rfl rfl (by omega)) ?_
  refine WL.u rfl rfl (Wt.plain rfl) (Ex.move rfl) ?_
  refine WL.u rfl rfl (Wt.plain rfl) (Ex.move rfl) ?_
  refine WL.u rfl rfl (Wt.plain rfl) ((Ex.mul rfl rfl (by omega)).to (congrArg (Value.int IntKind.i64) hmI)) ?_
  refine WL.call callable37 rfl (Wt.plain rfl) rfl rfl (power 2 (n * m) _ _ rfl (by omega) (by omega) (by omega) (by omega)) ?_
  rintro _ _ ⟨rfl, hw⟩; obtain rfl := hw.symm
  refine WL.u rfl rfl (Wt.plain rfl) (Ex.move rfl) ?_
  refine WL.u rfl rfl (Wt.plain rfl) (Ex.sub rfl rfl (by omega)) ?_
  refine WL.u rfl rfl (Wt.plain rfl) ((Ex.mul rfl rfl (by rw [hP1]; omega)).to (congrArg (Value.int IntKind.i64) hP1)) ?_
  refine WL.u rfl rfl (Wt.plain rfl) (Ex.move rfl) ?_
  refine WL.u rfl rfl (Wt.plain rfl) (Ex.sub rfl rfl (by omega)) ?_
  refine WL.u rfl rfl (Wt.plain rfl) ((Ex.mul rfl rfl (by rw [hP2]; omega)).to (congrArg (Value.int IntKind.i64) hP2)) ?_
  refine WL.u rfl rfl (Wt.plain rfl) (Ex.geq rfl rfl) ?_
  refine WL.u rfl rfl (Wt.plain rfl) (Ex.move rfl) ?_
  refine WL.u rfl rfl (Wt.guard' rfl rfl rfl (decide_eq_true (by omega)) rfl) (Ex.move rfl) ?_
  refine WL.u rfl rfl (Wt.guard' rfl rfl rfl (decide_eq_true (by omega)) rfl) (Ex.eql rfl rfl) ?_
  refine WL.u rfl rfl (Wt.guard' rfl rfl rfl (decide_eq_true (by omega)) rfl) (Ex.move rfl) ?_
  refine WL.u rfl rfl (Wt.guard' rfl rfl rfl (decide_eq_true (by omega)) rfl) (Ex.eql rfl rfl) ?_
  refine WL.u rfl rfl (Wt.guard' rfl rfl rfl (decide_eq_true (by omega)) rfl) (Ex.move rfl) ?_
  refine WL.split (t := 67) rfl (fun hg8_18 => ?_) (fun hg8_18 => ?_)
  · have hg8_18' := hg8_18; try simp only [decide_eq_true_eq, decide_eq_false_iff_not, Bool.not_eq_true', Bool.not_eq_false', Bool.not_eq_true, Bool.not_eq_false] at hg8_18'
    refine WL.pass rfl rfl (Wt.guard' rfl rfl rfl hg8_18 rfl) ?_
    refine WL.pass rfl rfl (Wt.guard' rfl rfl rfl hg8_18 rfl) ?_
    refine WL.u rfl rfl (Wt.guard' rfl rfl rfl (decide_eq_true (by omega)) rfl) (Ex.pickT rfl hg8_18 rfl) ?_
    refine WL.u rfl rfl (Wt.guard' rfl rfl rfl (decide_eq_true (by omega)) rfl) (Ex.eqlB Try.underlying4 rfl rfl) ?_
    refine WL.u rfl rfl (Wt.plain rfl) (Ex.pickT rfl (decide_eq_true (by omega)) rfl) ?_
    refine WL.u rfl rfl (Wt.plain rfl) (Ex.assign rfl) ?_
    refine WL.next ?_
    refine WC.ret ?_
    refine WN.body1 rfl rfl ?_
    exact ⟨congrArg Value.bool (by rw [beq_iff_eq]; refine decide_eq_true ?_; have h : decide (T = 0) = true := by { rw [hT4]; exact decide_eq_true (.inl (by omega)) }; have := of_decide_eq_true h; omega), hH.keep⟩
  have hg8_18' := hg8_18; try simp only [decide_eq_true_eq, decide_eq_false_iff_not, Bool.not_eq_true', Bool.not_eq_false', Bool.not_eq_true, Bool.not_eq_false] at hg8_18'
  refine WL.u rfl rfl (Wt.guard' rfl rfl rfl hg8_18 rfl) (Ex.move rfl) ?_
  refine WL.u rfl rfl (Wt.guard' rfl rfl rfl hg8_18 rfl) (Ex.eql rfl rfl) ?_
  refine WL.u rfl rfl (Wt.guard' rfl rfl rfl (decide_eq_true (by omega)) rfl) (Ex.pickF rfl hg8_18 rfl) ?_
  refine WL.u rfl rfl (Wt.guard' rfl rfl rfl (decide_eq_true (by omega)) rfl) (Ex.eqlB Try.underlying4 rfl rfl) ?_
  refine WL.u rfl rfl (Wt.plain rfl) (Ex.pickT rfl (decide_eq_true (by omega)) rfl) ?_
  refine WL.u rfl rfl (Wt.plain rfl) (Ex.assign rfl) ?_
  refine WL.next ?_
  refine WC.ret ?_
  refine WN.body1 rfl rfl ?_
  exact ⟨congrArg Value.bool (by rw [beq_iff_eq]; refine decide_eq_decide.2 ?_; have h := decide_eq_decide.1 hT4; omega), hH.keep⟩

end Go.Proofs.Ytjejdebmlgjdeaa
