/- The law: what is sure stands in all grids that fit. -/
import Derived.Test.YtmlefpddjfonlaaAsk8
import Derived.Test.YtmlefpddjfonlaaPlan2
namespace Go.Proofs.Ytmlefpddjfonlaa
set_option maxRecDepth 100000
set_option linter.unusedSimpArgs false
set_option linter.unusedVariables false
open Go Go.RowKit
theorem sureG_len (n m : Nat) (L : List Grid) : (sureG n m L).length = n := gridOf_len _ _ _
theorem sureG_row {n m i : Nat} (L : List Grid) (h : i < n) : ((sureG n m L).getD i []).length = m := by
  unfold sureG
  rw [gridOf_row _ _ _ h]; simp
theorem sure_63 {n m i k : Nat} {L : List Grid} (hi : i < n) (hk : k < m) (h : ((sureG n m L).getD i []).getD k 0 ≠ ((L.getD 0 []).getD i []).getD k 0) : ((sureG n m L).getD i []).getD k 0 = 63 ∧ L.length ≠ 1 := by
  have e : ((sureG n m L).getD i []).getD k 0 = sureL L L.length i k := gridOf_at _ _ _ hi hk
  rw [e] at h ⊢
  constructor
  · unfold sureL at h ⊢
    by_cases hb : sureB L i k L.length = true
    · rw [if_pos hb]
    · rw [if_neg hb] at h; exact absurd rfl h
  · intro h1
    rw [h1, sureL_one] at h
    exact h rfl

set_option maxHeartbeats 2000000 in
theorem lawSure (a : Option Addr) (l : List UInt8) (cap : Nat) (w : World) (hc : Sl rByte w a l) (hcap : l.length ≤ cap) : Fn Try.prog 15 [.slice a l.length cap] w (fun v w1 => v = .bool true ∧ Keep [] w w1) := by
  refine Fn.enter (n := 140) Try.func15 rfl rfl rfl ?_
  show WC _ _ _ _ [(0, .slice a l.length cap)] _
  have hH := Hp.start [] w
  refine WC.seq ?_
  refine WC.region ?_
  refine WL.u rfl rfl (Wt.plain rfl) (Ex.assign rfl) ?_
  refine WL.next ?_
  refine WC.seq ?_
  refine WC.seq ?_
  refine WC.region ?_
  refine WL.u rfl rfl (Wt.plain rfl) (Ex.move rfl) ?_
  refine WL.u rfl rfl (Wt.plain rfl) (Ex.lenSl Try.underlying38 rfl) ?_
  refine WL.u rfl rfl (Wt.plain rfl) (Ex.gtr rfl rfl) ?_
  refine WL.next ?_
  refine WC.cond rfl (fun hc1 => ?_) (fun hc1 => ?_)
  · have hc1' := hc1; try simp only [decide_eq_true_eq, decide_eq_false_iff_not, Bool.not_eq_true', Bool.not_eq_false', Bool.not_eq_true, Bool.not_eq_false] at hc1'
    refine WC.seq ?_
    refine WC.region ?_
    refine WL.u rfl rfl (Wt.plain rfl) (Ex.assign rfl) ?_
    refine WL.next ?_
    refine WC.ret ?_
    refine WN.retThen ?_
    refine WN.body1 rfl rfl ?_
    exact ⟨rfl, hH.keep⟩
  have hc1' := hc1; try simp only [decide_eq_true_eq, decide_eq_false_iff_not, Bool.not_eq_true', Bool.not_eq_false', Bool.not_eq_true, Bool.not_eq_false] at hc1'
  refine WC.skip ?_
  refine WN.next ?_
  refine WC.seq ?_
  refine WC.region ?_
  refine WL.u rfl rfl (Wt.plain rfl) (Ex.move rfl) ?_
  refine WL.call callable47 rfl (Wt.plain rfl) rfl rfl (sDrawAskSure _ _ _ _ (hc.kept hH.keep) hcap) ?_
  rintro _ wn ⟨n, m, ans, x, rfl, hC, hN, hsz⟩; obtain ⟨b21, cap21, cur21, rfl, hge21, hbb21, ho21⟩ := hN.own; replace hH := hH.push hC hge21 hbb21; clear hC hN
  refine WL.u rfl rfl (Wt.plain rfl) (Ex.move rfl) ?_
  refine WL.u rfl rfl (Wt.plain rfl) (Ex.extract rfl rfl) ?_
  refine WL.u rfl rfl (Wt.plain rfl) (Ex.extract rfl rfl) ?_
  refine WL.u rfl rfl (Wt.plain rfl) (Ex.extract rfl rfl) ?_
  refine WL.u rfl rfl (Wt.plain rfl) (Ex.assign rfl) ?_
  refine WL.u rfl rfl (Wt.plain rfl) (Ex.assign rfl) ?_
  refine WL.u rfl rfl (Wt.plain rfl) (Ex.assign rfl) ?_
  refine WL.next ?_
  refine WC.seq ?_
  rcases hx : askSure n m ans with ⟨out, ok⟩
  refine WC.region ?_
  refine WL.u rfl rfl (Wt.plain rfl) (Ex.move rfl) ?_
  refine WL.u rfl rfl (Wt.plain rfl) (Ex.move rfl) ?_
  refine WL.u rfl rfl (Wt.plain rfl) (Ex.move rfl) ?_
  refine WL.call callable41 rfl (Wt.plain rfl) rfl rfl (iAskSure n m ans _ _ _ (ho21.slAt hH 0 rfl)) ?_
  rintro _ wn ⟨x, hv, hC, hN⟩; rw [hx] at hv hN; dsimp only at hv hN; subst hv; obtain ⟨b29, cap29, cur29, rfl, hge29, hbb29, ho29⟩ := hN.own; replace hH := hH.push hC hge29 hbb29; clear hC hN
  refine WL.u rfl rfl (Wt.plain rfl) (Ex.move rfl) ?_
  refine WL.u rfl rfl (Wt.plain rfl) (Ex.extract rfl rfl) ?_
  refine WL.u rfl rfl (Wt.plain rfl) (Ex.extract rfl rfl) ?_
  refine WL.u rfl rfl (Wt.plain rfl) (Ex.assign rfl) ?_
  refine WL.u rfl rfl (Wt.plain rfl) (Ex.assign rfl) ?_
  refine WL.next ?_
  refine WC.seq ?_
  refine WC.region ?_
  refine WL.u rfl rfl (Wt.plain rfl) (Ex.move rfl) ?_
  refine WL.u rfl rfl (Wt.plain rfl) (Ex.move rfl) ?_
  refine WL.u rfl rfl (Wt.plain rfl) (Ex.move rfl) ?_
  refine WL.call callable40 rfl (Wt.plain rfl) rfl rfl (sAskSure n m ans _ _ _ (ho21.slAt hH 1 rfl)) ?_
  rintro _ wn ⟨x, hv, hC, hN⟩; rw [hx] at hv hN; dsimp only at hv hN; subst hv; obtain ⟨b36, cap36, cur36, rfl, hge36, hbb36, ho36⟩ := hN.own; replace hH := hH.push hC hge36 hbb36; clear hC hN
  refine WL.u rfl rfl (Wt.plain rfl) (Ex.move rfl) ?_
  refine WL.u rfl rfl (Wt.plain rfl) (Ex.extract rfl rfl) ?_
  refine WL.u rfl rfl (Wt.plain rfl) (Ex.extract rfl rfl) ?_
  refine WL.u rfl rfl (Wt.plain rfl) (Ex.assign rfl) ?_
  refine WL.u rfl rfl (Wt.plain rfl) (Ex.assign rfl) ?_
  refine WL.next ?_
  refine WC.seq ?_
  refine WC.seq ?_
  refine WC.region ?_
  refine WL.u rfl rfl (Wt.plain rfl) (Ex.move rfl) ?_
  refine WL.u rfl rfl (Wt.plain rfl) (Ex.move rfl) ?_
  refine WL.u rfl rfl (Wt.plain rfl) (Ex.neqB Try.underlying4 rfl rfl) ?_
  refine WL.u rfl rfl (Wt.plain rfl) (Ex.move rfl) ?_
  refine WL.split (t := 42) rfl (fun hg6_3 => ?_) (fun hg6_3 => ?_)
  · exfalso; simp at hg6_3
  have hg6_3' := hg6_3; try simp only [decide_eq_true_eq, decide_eq_false_iff_not, Bool.not_eq_true', Bool.not_eq_false', Bool.not_eq_true, Bool.not_eq_false] at hg6_3'
  refine WL.u rfl rfl (Wt.guard' rfl rfl rfl hg6_3 rfl) (Ex.move rfl) ?_
  refine WL.u rfl rfl (Wt.guard' rfl rfl rfl hg6_3 rfl) (Ex.move rfl) ?_
  refine WL.call callable45 rfl (Wt.guard' rfl rfl rfl hg6_3 rfl) rfl rfl (sameTexts out out _ _ _ _ _ (ho29.slAt hH 1 rfl) (ho36.slAt hH 0 rfl)) ?_
  rintro _ wn ⟨rfl, hC⟩; replace hH := hH.dr hC; clear hC
  refine WL.u rfl rfl (Wt.guard' rfl rfl rfl hg6_3 rfl) (Ex.not rfl) ?_
  refine WL.u rfl rfl (Wt.plain rfl) (Ex.pickF rfl hg6_3 rfl) ?_
  refine WL.u rfl rfl (Wt.plain rfl) (Ex.move rfl) ?_
  refine WL.split (t := 48) rfl (fun hg6_9 => ?_) (fun hg6_9 => ?_)
  · exfalso; simp at hg6_9
  have hg6_9' := hg6_9; try simp only [decide_eq_true_eq, decide_eq_false_iff_not, Bool.not_eq_true', Bool.not_eq_false', Bool.not_eq_true, Bool.not_eq_false] at hg6_9'
  refine WL.u rfl rfl (Wt.guard' rfl rfl rfl hg6_9 rfl) (Ex.move rfl) ?_
  refine WL.u rfl rfl (Wt.guard' rfl rfl rfl hg6_9 rfl) (Ex.not rfl) ?_
  refine WL.u rfl rfl (Wt.plain rfl) (Ex.pickF rfl hg6_9 rfl) ?_
  refine WL.next ?_
  refine WC.cond rfl (fun hc2 => ?_) (fun hc2 => ?_)
  · have hc2' := hc2; try simp only [decide_eq_true_eq, decide_eq_false_iff_not, Bool.not_eq_true', Bool.not_eq_false', Bool.not_eq_true, Bool.not_eq_false] at hc2'
    refine WC.seq ?_
    refine WC.region ?_
    refine WL.u rfl rfl (Wt.plain rfl) (Ex.move rfl) ?_
    refine WL.u rfl rfl (Wt.plain rfl) (Ex.move rfl) ?_
    refine WL.u rfl rfl (Wt.plain rfl) (Ex.eqlB Try.underlying4 rfl rfl) ?_
    refine WL.u rfl rfl (Wt.plain rfl) (Ex.move rfl) ?_
    refine WL.split (t := 55) rfl (fun hg7_3 => ?_) (fun hg7_3 => ?_)
    · have hg7_3' := hg7_3; try simp only [decide_eq_true_eq, decide_eq_false_iff_not, Bool.not_eq_true', Bool.not_eq_false', Bool.not_eq_true, Bool.not_eq_false] at hg7_3'
      refine WL.u rfl rfl (Wt.guard' rfl rfl rfl hg7_3 rfl) (Ex.move rfl) ?_
      refine WL.u rfl rfl (Wt.guard' rfl rfl rfl hg7_3 rfl) (Ex.move rfl) ?_
      refine WL.call callable45 rfl (Wt.guard' rfl rfl rfl hg7_3 rfl) rfl rfl (sameTexts out out _ _ _ _ _ (ho29.slAt hH 1 rfl) (ho36.slAt hH 0 rfl)) ?_
      rintro _ wn ⟨rfl, hC⟩; replace hH := hH.dr hC; clear hC
      refine WL.u rfl rfl (Wt.plain rfl) (Ex.pickT rfl hg7_3 rfl) ?_
      refine WL.u rfl rfl (Wt.plain rfl) (Ex.assign rfl) ?_
      refine WL.next ?_
      refine WC.ret ?_
      refine WN.retThen ?_
      refine WN.body1 rfl rfl ?_
      exact ⟨congrArg Value.bool (decide_eq_true rfl), hH.keep⟩
    exfalso; simp at hg7_3
  have hc2' := hc2; try simp only [decide_eq_true_eq, decide_eq_false_iff_not, Bool.not_eq_true', Bool.not_eq_false', Bool.not_eq_true, Bool.not_eq_false] at hc2'
  have hok : ok = true := by simpa using hc2
  subst hok
  obtain ⟨n2, m2, e1, e2, hA, hL0, rfl⟩ := askSure_ex hx
  obtain rfl : n = n2 := by omega
  obtain rfl : m = m2 := by omega
  have hO := hA.list
  obtain ⟨hGo, hPo, hno, hmo⟩ := hO.g 0 hL0
  dsimp only [nR, nC] at hno hmo
  have h81 := fits_le hA
  have hol := sureG_len n m (fits n m ans)
  have hfst := askFirst_some hA hL0
  have hn5 := hA.n5
  have hm5 := hA.m5
  refine WC.skip ?_
  refine WN.next ?_
  refine WC.seq ?_
  refine WC.region ?_
  refine WL.u rfl rfl (Wt.plain rfl) (Ex.move rfl) ?_
  refine WL.u rfl rfl (Wt.plain rfl) (Ex.move rfl) ?_
  refine WL.u rfl rfl (Wt.plain rfl) (Ex.move rfl) ?_
  refine WL.call callable35 rfl (Wt.plain rfl) rfl rfl (iAskFirst n m ans _ _ _ (ho21.slAt hH 2 rfl)) ?_
  rintro _ wn ⟨x, hv, hC, hN⟩; rw [hfst] at hv hN; dsimp only at hv hN; subst hv; obtain ⟨b64, cap64, cur64, rfl, hge64, hbb64, ho64⟩ := hN.own; replace hH := hH.push hC hge64 hbb64; clear hC hN
  refine WL.u rfl rfl (Wt.plain rfl) (Ex.move rfl) ?_
  refine WL.u rfl rfl (Wt.plain rfl) (Ex.extract rfl rfl) ?_
  refine WL.u rfl rfl (Wt.plain rfl) (Ex.extract rfl rfl) ?_
  refine WL.u rfl rfl (Wt.plain rfl) (Ex.assign rfl) ?_
  refine WL.u rfl rfl (Wt.plain rfl) (Ex.assign rfl) ?_
  refine WL.next ?_
  refine WC.seq ?_
  refine WC.region ?_
  refine WL.u rfl rfl (Wt.plain rfl) (Ex.move rfl) ?_
  refine WL.u rfl rfl (Wt.plain rfl) (Ex.move rfl) ?_
  refine WL.u rfl rfl (Wt.plain rfl) (Ex.move rfl) ?_
  refine WL.call callable28 rfl (Wt.plain rfl) rfl rfl (iAskFit n m ans _ _ _ (ho21.slAt hH 3 rfl)) ?_
  rintro _ wn ⟨hv, hC⟩; rw [askFit_at hA] at hv; dsimp only at hv; subst hv; replace hH := hH.call hC; clear hC
  refine WL.u rfl rfl (Wt.plain rfl) (Ex.move rfl) ?_
  refine WL.u rfl rfl (Wt.plain rfl) (Ex.extract rfl rfl) ?_
  refine WL.u rfl rfl (Wt.plain rfl) (Ex.extract rfl rfl) ?_
  refine WL.u rfl rfl (Wt.plain rfl) (Ex.assign rfl) ?_
  refine WL.u rfl rfl (Wt.plain rfl) (Ex.assign rfl) ?_
  refine WL.next ?_
  refine WC.seq ?_
  refine WC.seq ?_
  refine WC.region ?_
  refine WL.u rfl rfl (Wt.plain rfl) (Ex.assign rfl) ?_
  refine WL.next ?_
  refine WC.block ?_
  replace hH := hH.f2
  refine WC.loop (ι := Nat) (fun i => [(3, vint n), (6, vsl b29 (sureG n m (fits n m ans)).length cap29), (10, vsl b64 ((fits n m ans).getD 0 []).length cap64), (11, .bool true), (12, vint ((fits n m ans).length : Nat)), (13, .bool true), (14, vint i)]) (fun i wn => Hp [] w wn [(b29, .cells cur29 9 (0, 0)), (b64, .cells cur64 9 (0, 0))] ∧ i ≤ n) (fun i => n - i) (0) (by exact ⟨rfl, rfl, rfl, rfl, rfl, rfl, rfl, trivial⟩) ?_ ?_
  · exact ⟨hH.first2, Nat.zero_le _⟩
  rintro i wn ⟨hH, hi⟩
  intro mu0 hmu; try dsimp only at hmu
  show WC _ _ _ _ [(3, vint n), (6, vsl b29 (sureG n m (fits n m ans)).length cap29), (10, vsl b64 ((fits n m ans).getD 0 []).length cap64), (11, .bool true), (12, vint ((fits n m ans).length : Nat)), (13, .bool true), (14, vint i)] _
  refine WC.seq ?_
  refine WC.seq ?_
  refine WC.region ?_
  refine WL.u rfl rfl (Wt.plain rfl) (Ex.move rfl) ?_
  refine WL.u rfl rfl (Wt.plain rfl) (Ex.move rfl) ?_
  refine WL.u rfl rfl (Wt.plain rfl) (Ex.lenSl Try.underlying22 rfl) ?_
  refine WL.u rfl rfl (Wt.plain rfl) (Ex.lss rfl rfl) ?_
  refine WL.u rfl rfl (Wt.plain rfl) (Ex.move rfl) ?_
  refine WL.split (t := 78) rfl (fun hg11_4 => ?_) (fun hg11_4 => ?_)
  · have hg11_4' := hg11_4; try simp only [decide_eq_true_eq, decide_eq_false_iff_not, Bool.not_eq_true', Bool.not_eq_false', Bool.not_eq_true, Bool.not_eq_false] at hg11_4'
    refine WL.u rfl rfl (Wt.guard' rfl rfl rfl hg11_4 rfl) (Ex.move rfl) ?_
    refine WL.u rfl rfl (Wt.guard' rfl rfl rfl hg11_4 rfl) (Ex.move rfl) ?_
    refine WL.u rfl rfl (Wt.guard' rfl rfl rfl hg11_4 rfl) (Ex.lenSl Try.underlying22 rfl) ?_
    refine WL.u rfl rfl (Wt.guard' rfl rfl rfl hg11_4 rfl) (Ex.lss rfl rfl) ?_
    refine WL.u rfl rfl (Wt.plain rfl) (Ex.pickT rfl hg11_4 rfl) ?_
    refine WL.next ?_
    refine WC.cond rfl (fun hc3 => ?_) (fun hc3 => ?_)
    · have hc3' := hc3; try simp only [decide_eq_true_eq, decide_eq_false_iff_not, Bool.not_eq_true', Bool.not_eq_false', Bool.not_eq_true, Bool.not_eq_false] at hc3'
      have hli : i < n := by omega
      have hor := sureG_row (m := m) (fits n m ans) hli
      have hgr := hGo.row i (by omega)
      have hgo := getD_get (sureG n m (fits n m ans)) i [] (by omega)
      have hgg := getD_get ((fits n m ans).getD 0 []) i [] (by omega)
      refine WC.skip ?_
      refine WN.next ?_
      refine WC.seq ?_
      refine WC.block ?_
      refine WC.seq ?_
      refine WC.region ?_
      refine WL.u rfl rfl (Wt.plain rfl) (Ex.assign rfl) ?_
      refine WL.next ?_
      refine WC.block ?_
      replace hH := hH.f1
      replace hH := hH.f1
      refine WC.loop (ι := Nat) (fun k => [(3, vint n), (6, vsl b29 (sureG n m (fits n m ans)).length cap29), (10, vsl b64 ((fits n m ans).getD 0 []).length cap64), (11, .bool true), (12, vint ((fits n m ans).length : Nat)), (13, .bool true), (14, vint i), (15, vint k)]) (fun k wn => Hp [] w wn [(b29, .cells cur29 9 (0, 0)), (b64, .cells cur64 9 (0, 0))] ∧ k ≤ m) (fun k => m - k) (0) (by exact ⟨rfl, rfl, rfl, rfl, rfl, rfl, rfl, rfl, trivial⟩) ?_ ?_
      · exact ⟨hH, Nat.zero_le _⟩
      rintro k wn ⟨hH, hk⟩
      intro mu0 hmu; try dsimp only at hmu
      show WC _ _ _ _ [(3, vint n), (6, vsl b29 (sureG n m (fits n m ans)).length cap29), (10, vsl b64 ((fits n m ans).getD 0 []).length cap64), (11, .bool true), (12, vint ((fits n m ans).length : Nat)), (13, .bool true), (14, vint i), (15, vint k)] _
      refine WC.seq ?_
      refine WC.seq ?_
      refine WC.region ?_
      refine WL.u rfl rfl (Wt.plain rfl) (Ex.move rfl) ?_
      refine WL.u rfl rfl (Wt.plain rfl) (Ex.move rfl) ?_
      refine WL.u rfl rfl (Wt.plain rfl) (Ex.move rfl) ?_
      refine WL.u rfl rfl (Wt.plain rfl) (Ex.indexAddr Try.underlying22 ty9 rfl rfl (by omega)) ?_
      refine WL.u rfl rfl (Wt.plain rfl) (Ex.loadHp flat9 rfl hH (ho29.get rfl (hgo))) ?_
      refine WL.u rfl rfl (Wt.plain rfl) (Ex.lenStr Try.underlying9 rfl) ?_
      refine WL.u rfl rfl (Wt.plain rfl) (Ex.lss rfl rfl) ?_
      refine WL.u rfl rfl (Wt.plain rfl) (Ex.move rfl) ?_
      refine WL.split (t := 93) rfl (fun hg14_7 => ?_) (fun hg14_7 => ?_)
      · have hg14_7' := hg14_7; try simp only [decide_eq_true_eq, decide_eq_false_iff_not, Bool.not_eq_true', Bool.not_eq_false', Bool.not_eq_true, Bool.not_eq_false] at hg14_7'
        refine WL.u rfl rfl (Wt.guard' rfl rfl rfl hg14_7 rfl) (Ex.move rfl) ?_
        refine WL.u rfl rfl (Wt.guard' rfl rfl rfl hg14_7 rfl) (Ex.move rfl) ?_
        refine WL.u rfl rfl (Wt.guard' rfl rfl rfl hg14_7 rfl) (Ex.move rfl) ?_
        refine WL.u rfl rfl (Wt.guard' rfl rfl rfl hg14_7 rfl) (Ex.indexAddr Try.underlying22 ty9 rfl rfl (by omega)) ?_
        replace hH := hH.f1
        refine WL.u rfl rfl (Wt.guard' rfl rfl rfl hg14_7 rfl) (Ex.loadHp flat9 rfl hH (ho64.get rfl (hgg))) ?_
        refine WL.u rfl rfl (Wt.guard' rfl rfl rfl hg14_7 rfl) (Ex.lenStr Try.underlying9 rfl) ?_
        refine WL.u rfl rfl (Wt.guard' rfl rfl rfl hg14_7 rfl) (Ex.lss rfl rfl) ?_
        refine WL.u rfl rfl (Wt.plain rfl) (Ex.pickT rfl hg14_7 rfl) ?_
        refine WL.next ?_
        refine WC.cond rfl (fun hc4 => ?_) (fun hc4 => ?_)
        · have hc4' := hc4; try simp only [decide_eq_true_eq, decide_eq_false_iff_not, Bool.not_eq_true', Bool.not_eq_false', Bool.not_eq_true, Bool.not_eq_false] at hc4'
          have hlk : k < m := by omega
          refine WC.skip ?_
          refine WN.next ?_
          refine WC.seq ?_
          refine WC.block ?_
          refine WC.seq ?_
          refine WC.quietK rfl (by kernel_rfl) ?_
          refine WQ.u rfl rfl (Wt.plain rfl) (fun w hC => Ex.move rfl) ?_
          refine WQ.u rfl rfl (Wt.plain rfl) (fun w hC => Ex.move rfl) ?_
          refine WQ.u rfl rfl (Wt.plain rfl) (fun w hC => Ex.indexAddr Try.underlying22 ty9 rfl rfl (by omega)) ?_
          replace hH := hH.f1
          refine WQ.u rfl rfl (Wt.plain rfl) (fun w hC => Ex.loadHp flat9 rfl (hH.call hC) (ho29.get rfl (hgo))) ?_
          refine WQ.u rfl rfl (Wt.plain rfl) (fun w hC => Ex.move rfl) ?_
          refine WQ.u rfl rfl (Wt.plain rfl) (fun w hC => Ex.indexStr Try.underlying9 rfl rfl (by omega)) ?_
          refine WQ.u rfl rfl (Wt.plain rfl) (fun w hC => Ex.move rfl) ?_
          refine WQ.u rfl rfl (Wt.plain rfl) (fun w hC => Ex.move rfl) ?_
          refine WQ.u rfl rfl (Wt.plain rfl) (fun w hC => Ex.indexAddr Try.underlying22 ty9 rfl rfl (by omega)) ?_
          replace hH := hH.f1
          refine WQ.u rfl rfl (Wt.plain rfl) (fun w hC => Ex.loadHp flat9 rfl (hH.call hC) (ho64.get rfl (hgg))) ?_
          refine WQ.u rfl rfl (Wt.plain rfl) (fun w hC => Ex.move rfl) ?_
          refine WQ.u rfl rfl (Wt.plain rfl) (fun w hC => Ex.indexStr Try.underlying9 rfl rfl (by omega)) ?_
          refine WQ.u rfl rfl (Wt.plain rfl) (fun w hC => Ex.neq rfl rfl) ?_
          refine WQ.u rfl rfl (Wt.plain rfl) (fun w hC => Ex.move rfl) ?_
          refine WQ.split (t := 117) rfl (fun hg16_13 => ?_) (fun hg16_13 => ?_)
          · have hg16_13b := hg16_13
            rw [u8_ne] at hg16_13b
            have h63 := sure_63 hli hlk (of_decide_eq_true hg16_13b)
            refine WQ.u rfl rfl (Wt.guard' rfl rfl rfl hg16_13 rfl) (fun w hC => Ex.move rfl) ?_
            refine WQ.u rfl rfl (Wt.guard' rfl rfl rfl hg16_13 rfl) (fun w hC => Ex.move rfl) ?_
            refine WQ.u rfl rfl (Wt.guard' rfl rfl rfl hg16_13 rfl) (fun w hC => Ex.indexAddr Try.underlying22 ty9 rfl rfl (by omega)) ?_
            replace hH := hH.f1
            refine WQ.u rfl rfl (Wt.guard' rfl rfl rfl hg16_13 rfl) (fun w hC => Ex.loadHp flat9 rfl (hH.call hC) (ho29.get rfl (hgo))) ?_
            refine WQ.u rfl rfl (Wt.guard' rfl rfl rfl hg16_13 rfl) (fun w hC => Ex.move rfl) ?_
            refine WQ.u rfl rfl (Wt.guard' rfl rfl rfl hg16_13 rfl) (fun w hC => Ex.indexStr Try.underlying9 rfl rfl (by omega)) ?_
            refine WQ.u rfl rfl (Wt.guard' rfl rfl rfl hg16_13 rfl) (fun w hC => Ex.neq rfl rfl) ?_
            refine WQ.u rfl rfl (Wt.guard' rfl rfl rfl hg16_13 rfl) (fun w hC => Ex.move rfl) ?_
            refine WQ.split (t := 125) rfl (fun hg16_21 => ?_) (fun hg16_21 => ?_)
            · exfalso; exact of_decide_eq_true hg16_21 (by show ((((sureG n m (fits n m ans)).getD i []).getD k 0).toNat : Int) = 63; rw [h63.1]; rfl)
            have hg16_21' := hg16_21; try simp only [decide_eq_true_eq, decide_eq_false_iff_not, Bool.not_eq_true', Bool.not_eq_false', Bool.not_eq_true, Bool.not_eq_false] at hg16_21'
            refine WQ.u rfl rfl (Wt.guard' rfl rfl rfl hg16_21 rfl) (fun w hC => Ex.move rfl) ?_
            refine WQ.u rfl rfl (Wt.guard' rfl rfl rfl hg16_21 rfl) (fun w hC => Ex.eql rfl rfl) ?_
            refine WQ.u rfl rfl (Wt.guard' rfl rfl rfl hg16_13 rfl) (fun w hC => Ex.pickF rfl hg16_21 rfl) ?_
            refine WQ.u rfl rfl (Wt.plain rfl) (fun w hC => Ex.pickT rfl hg16_13 rfl) ?_
            refine WQ.nil ?_
            intro wn hC; replace hH := hH.call hC; clear hC
            refine WN.next ?_
            refine WC.condF rfl (decide_eq_false (by have := h63.2; omega)) ?_
            refine WC.skip ?_
            refine WN.normalBlock ?_
            refine WN.next ?_
            refine WC.region ?_
            refine WL.u rfl rfl (Wt.plain rfl) (Ex.move rfl) ?_
            refine WL.u rfl rfl (Wt.plain rfl) (Ex.add rfl rfl (by omega)) ?_
            refine WL.u rfl rfl (Wt.plain rfl) (Ex.assign rfl) ?_
            refine WL.last ?_
            replace hH := hH.f1
            replace hH := hH.f1
            refine WN.round (k + 1) (by exact ⟨rfl, rfl, rfl, rfl, rfl, rfl, rfl, rfl, trivial⟩) ?_ ?_
            · exact ⟨hH, by omega⟩
            · (try dsimp only); omega
          have hg16_13' := hg16_13; try simp only [decide_eq_true_eq, decide_eq_false_iff_not, Bool.not_eq_true', Bool.not_eq_false', Bool.not_eq_true, Bool.not_eq_false] at hg16_13'
          refine WQ.pass rfl rfl (Wt.guard' rfl rfl rfl hg16_13 rfl) ?_
          refine WQ.pass rfl rfl (Wt.guard' rfl rfl rfl hg16_13 rfl) ?_
          refine WQ.pass rfl rfl (Wt.guard' rfl rfl rfl hg16_13 rfl) ?_
          refine WQ.pass rfl rfl (Wt.guard' rfl rfl rfl hg16_13 rfl) ?_
          refine WQ.pass rfl rfl (Wt.guard' rfl rfl rfl hg16_13 rfl) ?_
          refine WQ.pass rfl rfl (Wt.guard' rfl rfl rfl hg16_13 rfl) ?_
          refine WQ.pass rfl rfl (Wt.guard' rfl rfl rfl hg16_13 rfl) ?_
          refine WQ.pass rfl rfl (Wt.guard' rfl rfl rfl hg16_13 rfl) ?_
          refine WQ.pass rfl rfl (Wt.undef rfl rfl rfl) ?_
          refine WQ.pass rfl rfl (Wt.undef rfl rfl rfl) ?_
          refine WQ.pass rfl rfl (Wt.guard' rfl rfl rfl hg16_13 rfl) ?_
          refine WQ.u rfl rfl (Wt.plain rfl) (fun w hC => Ex.pickF rfl hg16_13 rfl) ?_
          refine WQ.nil ?_
          intro wn hC; replace hH := hH.call hC; clear hC
          refine WN.next ?_
          refine WC.condF rfl rfl ?_
          refine WC.skip ?_
          refine WN.normalBlock ?_
          refine WN.next ?_
          refine WC.region ?_
          refine WL.u rfl rfl (Wt.plain rfl) (Ex.move rfl) ?_
          refine WL.u rfl rfl (Wt.plain rfl) (Ex.add rfl rfl (by omega)) ?_
          refine WL.u rfl rfl (Wt.plain rfl) (Ex.assign rfl) ?_
          refine WL.last ?_
          replace hH := hH.f1
          refine WN.round (k + 1) (by exact ⟨rfl, rfl, rfl, rfl, rfl, rfl, rfl, rfl, trivial⟩) ?_ ?_
          · exact ⟨hH, by omega⟩
          · (try dsimp only); omega
        have hc4' := hc4; try simp only [decide_eq_true_eq, decide_eq_false_iff_not, Bool.not_eq_true', Bool.not_eq_false', Bool.not_eq_true, Bool.not_eq_false] at hc4'
        refine WC.exit ?_
        refine WN.exitThen ?_
        refine WN.exitThen ?_
        refine WN.exitHere ?_
        refine WN.normalBlock ?_
        refine WN.next ?_
        refine WC.region ?_
        refine WL.u rfl rfl (Wt.plain rfl) (Ex.move rfl) ?_
        refine WL.u rfl rfl (Wt.plain rfl) (Ex.add rfl rfl (by omega)) ?_
        refine WL.u rfl rfl (Wt.plain rfl) (Ex.assign rfl) ?_
        refine WL.last ?_
        replace hH := hH.f1
        refine WN.round (i + 1) (by exact ⟨rfl, rfl, rfl, rfl, rfl, rfl, rfl, trivial⟩) ?_ ?_
        · exact ⟨hH, by omega⟩
        · (try dsimp only); omega
      have hg14_7' := hg14_7; try simp only [decide_eq_true_eq, decide_eq_false_iff_not, Bool.not_eq_true', Bool.not_eq_false', Bool.not_eq_true, Bool.not_eq_false] at hg14_7'
      refine WL.pass rfl rfl (Wt.guard' rfl rfl rfl hg14_7 rfl) ?_
      refine WL.pass rfl rfl (Wt.guard' rfl rfl rfl hg14_7 rfl) ?_
      refine WL.pass rfl rfl (Wt.guard' rfl rfl rfl hg14_7 rfl) ?_
      refine WL.pass rfl rfl (Wt.guard' rfl rfl rfl hg14_7 rfl) ?_
      refine WL.pass rfl rfl (Wt.guard' rfl rfl rfl hg14_7 rfl) ?_
      refine WL.pass rfl rfl (Wt.guard' rfl rfl rfl hg14_7 rfl) ?_
      refine WL.pass rfl rfl (Wt.guard' rfl rfl rfl hg14_7 rfl) ?_
      refine WL.u rfl rfl (Wt.plain rfl) (Ex.pickF rfl hg14_7 rfl) ?_
      refine WL.next ?_
      refine WC.condF rfl rfl ?_
      refine WC.exit ?_
      refine WN.exitThen ?_
      refine WN.exitThen ?_
      refine WN.exitHere ?_
      refine WN.normalBlock ?_
      refine WN.next ?_
      refine WC.region ?_
      refine WL.u rfl rfl (Wt.plain rfl) (Ex.move rfl) ?_
      refine WL.u rfl rfl (Wt.plain rfl) (Ex.add rfl rfl (by omega)) ?_
      refine WL.u rfl rfl (Wt.plain rfl) (Ex.assign rfl) ?_
      refine WL.last ?_
      replace hH := hH.f1
      replace hH := hH.f1
      refine WN.round (i + 1) (by exact ⟨rfl, rfl, rfl, rfl, rfl, rfl, rfl, trivial⟩) ?_ ?_
      · exact ⟨hH, by omega⟩
      · (try dsimp only); omega
    have hc3' := hc3; try simp only [decide_eq_true_eq, decide_eq_false_iff_not, Bool.not_eq_true', Bool.not_eq_false', Bool.not_eq_true, Bool.not_eq_false] at hc3'
    refine WC.exit ?_
    refine WN.exitThen ?_
    refine WN.exitThen ?_
    refine WN.exitHere ?_
    refine WN.next ?_
    refine WC.seq ?_
    refine WC.region ?_
    refine WL.u rfl rfl (Wt.plain rfl) (Ex.move rfl) ?_
    refine WL.u rfl rfl (Wt.plain rfl) (Ex.move rfl) ?_
    refine WL.u rfl rfl (Wt.guard' rfl rfl rfl (rfl) rfl) (Ex.move rfl) ?_
    refine WL.u rfl rfl (Wt.plain rfl) (Ex.pickT rfl (rfl) rfl) ?_
    refine WL.u rfl rfl (Wt.plain rfl) (Ex.move rfl) ?_
    refine WL.u rfl rfl (Wt.guard' rfl rfl rfl (rfl) rfl) (Ex.move rfl) ?_
    refine WL.u rfl rfl (Wt.guard' rfl rfl rfl (rfl) rfl) (Ex.lenSl Try.underlying22 rfl) ?_
    refine WL.u rfl rfl (Wt.guard' rfl rfl rfl (rfl) rfl) (Ex.move rfl) ?_
    refine WL.u rfl rfl (Wt.guard' rfl rfl rfl (rfl) rfl) (Ex.eql rfl rfl) ?_
    refine WL.u rfl rfl (Wt.plain rfl) (Ex.pickT rfl (rfl) rfl) ?_
    refine WL.u rfl rfl (Wt.plain rfl) (Ex.assign rfl) ?_
    refine WL.next ?_
    refine WC.ret ?_
    refine WN.body1 rfl rfl ?_
    exact ⟨congrArg Value.bool (decide_eq_true (by omega)), hH.keep⟩
  have hg11_4' := hg11_4; try simp only [decide_eq_true_eq, decide_eq_false_iff_not, Bool.not_eq_true', Bool.not_eq_false', Bool.not_eq_true, Bool.not_eq_false] at hg11_4'
  refine WL.pass rfl rfl (Wt.guard' rfl rfl rfl hg11_4 rfl) ?_
  refine WL.pass rfl rfl (Wt.guard' rfl rfl rfl hg11_4 rfl) ?_
  refine WL.pass rfl rfl (Wt.guard' rfl rfl rfl hg11_4 rfl) ?_
  refine WL.pass rfl rfl (Wt.guard' rfl rfl rfl hg11_4 rfl) ?_
  refine WL.u rfl rfl (Wt.plain rfl) (Ex.pickF rfl hg11_4 rfl) ?_
  refine WL.next ?_
  refine WC.condF rfl rfl ?_
  refine WC.exit ?_
  refine WN.exitThen ?_
  refine WN.exitThen ?_
  refine WN.exitHere ?_
  refine WN.next ?_
  refine WC.seq ?_
  refine WC.region ?_
  refine WL.u rfl rfl (Wt.plain rfl) (Ex.move rfl) ?_
  refine WL.u rfl rfl (Wt.plain rfl) (Ex.move rfl) ?_
  refine WL.u rfl rfl (Wt.guard' rfl rfl rfl (rfl) rfl) (Ex.move rfl) ?_
  refine WL.u rfl rfl (Wt.plain rfl) (Ex.pickT rfl (rfl) rfl) ?_
  refine WL.u rfl rfl (Wt.plain rfl) (Ex.move rfl) ?_
  refine WL.u rfl rfl (Wt.guard' rfl rfl rfl (rfl) rfl) (Ex.move rfl) ?_
  refine WL.u rfl rfl (Wt.guard' rfl rfl rfl (rfl) rfl) (Ex.lenSl Try.underlying22 rfl) ?_
  refine WL.u rfl rfl (Wt.guard' rfl rfl rfl (rfl) rfl) (Ex.move rfl) ?_
  refine WL.u rfl rfl (Wt.guard' rfl rfl rfl (rfl) rfl) (Ex.eql rfl rfl) ?_
  refine WL.u rfl rfl (Wt.plain rfl) (Ex.pickT rfl (rfl) rfl) ?_
  refine WL.u rfl rfl (Wt.plain rfl) (Ex.assign rfl) ?_
  refine WL.next ?_
  refine WC.ret ?_
  refine WN.body1 rfl rfl ?_
  exact ⟨congrArg Value.bool (decide_eq_true (by omega)), hH.keep⟩

end Go.Proofs.Ytmlefpddjfonlaa
