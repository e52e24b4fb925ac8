/- Tidy terms: the program's and the reference's. -/
import Derived.Test.YtamkbmhgclpidaaTmE
import Derived.Test.YtamkbmhgclpidaaTmA
namespace Go.Proofs.Ytamkbmhgclpidaa
set_option maxRecDepth 100000
set_option linter.unusedSimpArgs false
set_option linter.unusedVariables false
open Go Go.RowKit
theorem tidyS_len {t : Tm} : ∀ (k : Nat) (f o : Bool), (tidyS t k f o).length ≤ lenT t := by
  induction t with
  | leaf c => intro k f o; simp [tidyS, lenT]
  | una s a ih =>
    intro k f o
    rw [tidyS, lenT]
    have h1 := ih ((k + 3) % 4) f o
    have h2 := ih ((k + 1) % 4) f o
    have h3 := ih k (!f) o
    have h4 := ih k f (!o)
    (repeat' split) <;> omega
  | bin s a b iha ihb =>
    intro k f o
    have h1 := iha k f o
    have h2 := ihb k f o
    rw [tidyS, lenT]
    split <;> (simp only [List.length_append, List.length_cons, List.length_nil]; omega)
theorem stepsS_T {k : Nat} {x : UInt8 × Bool} (h : (stepsS k x).1 = 124) : stepsS (k + 1) x = (45, (stepsS k x).2) := by rw [stepsS, stepS, if_pos h]
theorem stepsS_F {k : Nat} {x : UInt8 × Bool} (h : (stepsS k x).1 ≠ 124) : stepsS (k + 1) x = (124, !(stepsS k x).2) := by rw [stepsS, stepS, if_neg h]
theorem bin_ne {s : UInt8} (h : s = 124 ∨ s = 45) : s ≠ 62 ∧ s ≠ 94 ∧ s ≠ 42 := by rcases h with rfl | rfl <;> decide
theorem okL_ne {s : UInt8} (h : okL s = true) : s ≠ 62 ∧ s ≠ 94 ∧ s ≠ 42 ∧ s ≠ 124 ∧ s ≠ 45 := by
  have h := of_decide_eq_true h
  rcases h with rfl | rfl | rfl <;> decide

theorem stidyLeaf (c : UInt8) (h : Hd) (k : Nat) (f o : Bool) (w : World) (hc : okL c = true) (hk : k < 4) : Fn Try.prog 32 [.agg #[.int .u8 c.toNat, vint 1, vint 1, .slice h.1 h.2.1 h.2.2], vint k, .bool f, .bool o] w (fun v w1 => v = vstr (tidyS (.leaf c) k f o) ∧ Keep [] w w1) := by
  refine Fn.enter (n := 130) Try.func32 rfl rfl rfl ?_
  show WC _ _ _ _ [(0, .agg #[.int .u8 c.toNat, vint 1, vint 1, .slice h.1 h.2.1 h.2.2]), (1, vint k), (2, .bool f), (3, .bool o)] _
  have hH := Hp.start [] w
  obtain ⟨hn62, hn94, hn42, hn124, hn45⟩ := okL_ne hc
  have e : decide (((k % 2 : Nat) : Int) = 1) = decide (k % 2 = 1) := by rw [Bool.eq_iff_iff]; simp; omega
  refine WC.seq ?_
  refine WC.region ?_
  refine WL.box rfl rfl rfl (Wt.plain rfl) hH (fun b4 wn hb4 hk4 hH => ?_)
  refine WL.u rfl rfl (Wt.plain rfl) (Ex.assign rfl) ?_
  refine WL.next ?_
  refine WC.seq ?_
  refine WC.seq ?_
  refine WC.region ?_
  refine WL.u rfl rfl (Wt.plain rfl) (Ex.fieldAddr fd53_0 rfl) ?_
  refine WL.u rfl rfl (Wt.plain rfl) (Ex.loadHp flat5 rfl hH rfl) ?_
  refine WL.next ?_
  refine WC.block ?_
  refine WC.seq ?_
  refine WC.region ?_
  refine WL.u rfl rfl (Wt.plain rfl) (Ex.eql rfl rfl) ?_
  refine WL.u rfl rfl (Wt.plain rfl) (Ex.assign rfl) ?_
  refine WL.next ?_
  refine WC.condF rfl (decide_eq_false (fun h => hn62 ((u8eq c 62 (by decide)).1 h))) ?_
  refine WC.seq ?_
  refine WC.region ?_
  refine WL.u rfl rfl (Wt.plain rfl) (Ex.eql rfl rfl) ?_
  refine WL.u rfl rfl (Wt.plain rfl) (Ex.assign rfl) ?_
  refine WL.next ?_
  refine WC.condF rfl (decide_eq_false (fun h => hn94 ((u8eq c 94 (by decide)).1 h))) ?_
  refine WC.seq ?_
  refine WC.region ?_
  refine WL.u rfl rfl (Wt.plain rfl) (Ex.eql rfl rfl) ?_
  refine WL.u rfl rfl (Wt.plain rfl) (Ex.assign rfl) ?_
  refine WL.next ?_
  refine WC.condF rfl (decide_eq_false (fun h => hn42 ((u8eq c 42 (by decide)).1 h))) ?_
  refine WC.seq ?_
  refine WC.seq ?_
  refine WC.region ?_
  refine WL.u rfl rfl (Wt.plain rfl) (Ex.eql rfl rfl) ?_
  refine WL.u rfl rfl (Wt.plain rfl) (Ex.assign rfl) ?_
  refine WL.next ?_
  refine WC.condF rfl (decide_eq_false (fun h => hn124 ((u8eq c 124 (by decide)).1 h))) ?_
  refine WC.region ?_
  refine WL.u rfl rfl (Wt.plain rfl) (Ex.eql rfl rfl) ?_
  refine WL.u rfl rfl (Wt.plain rfl) (Ex.assign rfl) ?_
  refine WL.next ?_
  refine WC.condF rfl (decide_eq_false (fun h => hn45 ((u8eq c 45 (by decide)).1 h))) ?_
  refine WC.skip ?_
  refine WN.normalBlock ?_
  refine WN.next ?_
  refine WC.seq ?_
  refine WC.region ?_
  refine WL.u rfl rfl (Wt.plain rfl) (Ex.fieldAddr fd53_0 rfl) ?_
  refine WL.u rfl rfl (Wt.plain rfl) (Ex.loadHp flat5 rfl hH rfl) ?_
  refine WL.u rfl rfl (Wt.plain rfl) (Ex.assign rfl) ?_
  refine WL.next ?_
  refine WC.seq ?_
  refine WC.seq ?_
  refine WC.region ?_
  refine WL.u rfl rfl (Wt.plain rfl) (Ex.move rfl) ?_
  refine WL.u rfl rfl (Wt.plain rfl) ((Ex.rem rfl rfl (by omega) (by omega)).to (congrArg (Value.int IntKind.i64) (show _ = ((k % 2 : Nat) : Int) from (Int.natCast_emod k 2).symm))) ?_
  refine WL.u rfl rfl (Wt.plain rfl) (Ex.eql rfl rfl) ?_
  refine WL.u rfl rfl (Wt.plain rfl) (Ex.move rfl) ?_
  refine WL.u rfl rfl (Wt.plain rfl) (Ex.neqB Try.underlying4 rfl rfl) ?_
  refine WL.u rfl rfl (Wt.plain rfl) (Ex.move rfl) ?_
  refine WL.u rfl rfl (Wt.plain rfl) (Ex.neqB Try.underlying4 rfl rfl) ?_
  refine WL.next ?_
  refine WC.cond rfl (fun hc10 => ?_) (fun hc10 => ?_)
  · rw [e] at hc10
    refine WC.region ?_
    refine WL.u rfl rfl (Wt.plain rfl) (Ex.move rfl) ?_
    refine WL.call callable43 rfl (Wt.plain rfl) rfl rfl (sl1Other _ _) ?_
    rintro _ _ ⟨rfl, hw⟩; obtain rfl := hw.symm
    refine WL.u rfl rfl (Wt.plain rfl) (Ex.assign rfl) ?_
    refine WL.next ?_
    refine WC.seq ?_
    refine WC.region ?_
    refine WL.u rfl rfl (Wt.plain rfl) (Ex.move rfl) ?_
    refine WL.lit Try.underlying30 ty5 rfl rfl rfl rfl rfl rfl rfl (Wt.plain rfl) hH (fun b128 wn hb128 hk128 hH => ?_)
    have ho128 := Own.bt1 (exch c)
    refine WL.u rfl rfl (Wt.plain rfl) (Ex.bytesStr Try.underlying30 Try.underlying5 Try.underlying9 rfl (ho128.slAt hH 0 rfl)) ?_
    refine WL.u rfl rfl (Wt.plain rfl) (Ex.assign rfl) ?_
    refine WL.next ?_
    refine WC.ret ?_
    refine WN.body1 rfl rfl ?_
    exact ⟨by rw [tidyS, if_pos (show (((decide (k % 2 = 1)) != f) != o) = true from hc10)], hH.keep⟩
  rw [e] at hc10
  refine WC.skip ?_
  refine WN.next ?_
  refine WC.seq ?_
  refine WC.region ?_
  refine WL.u rfl rfl (Wt.plain rfl) (Ex.move rfl) ?_
  refine WL.lit Try.underlying30 ty5 rfl rfl rfl rfl rfl rfl rfl (Wt.plain rfl) hH (fun b128 wn hb128 hk128 hH => ?_)
  have ho128 := Own.bt1 c
  refine WL.u rfl rfl (Wt.plain rfl) (Ex.bytesStr Try.underlying30 Try.underlying5 Try.underlying9 rfl (ho128.slAt hH 0 rfl)) ?_
  refine WL.u rfl rfl (Wt.plain rfl) (Ex.assign rfl) ?_
  refine WL.next ?_
  refine WC.ret ?_
  refine WN.body1 rfl rfl ?_
  exact ⟨by rw [tidyS, if_neg (by rw [show (((decide (k % 2 = 1)) != f) != o) = false from hc10]; decide)], hH.keep⟩

theorem stidyUna (lo b cap nn mm : Nat) (s : UInt8) (a : Tm) (qa : Qd) (k : Nat) (f o : Bool) (w : World) (iha : ∀ (w2 : World) (q : Qd) (k : Nat) (f o : Bool), k < 4 → TQ lo w2 a q → Fn Try.prog 32 [rQd.val q, vint k, .bool f, .bool o] w2 (fun v w3 => v = vstr (tidyS a k f o) ∧ Keep [] w2 w3)) (hU : isU s = true) (hk : k < 4) (hs : Sl rQd w (some ⟨b, 0, none⟩) [qa]) (hTa : TQ lo w a qa) : Fn Try.prog 32 [.agg #[.int .u8 s.toNat, vint nn, vint mm, .slice (some ⟨b, 0, none⟩) 1 cap], vint k, .bool f, .bool o] w (fun v w1 => v = vstr (tidyS (.una s a) k f o) ∧ Keep [] w w1) := by
  refine Fn.enter (n := 130) Try.func32 rfl rfl rfl ?_
  show WC _ _ _ _ [(0, .agg #[.int .u8 s.toNat, vint nn, vint mm, .slice (some ⟨b, 0, none⟩) 1 cap]), (1, vint k), (2, .bool f), (3, .bool o)] _
  have hH := Hp.start [] w
  refine WC.seq ?_
  refine WC.region ?_
  refine WL.box rfl rfl rfl (Wt.plain rfl) hH (fun b4 wn hb4 hk4 hH => ?_)
  refine WL.u rfl rfl (Wt.plain rfl) (Ex.assign rfl) ?_
  refine WL.next ?_
  refine WC.seq ?_
  refine WC.seq ?_
  refine WC.region ?_
  refine WL.u rfl rfl (Wt.plain rfl) (Ex.fieldAddr fd53_0 rfl) ?_
  refine WL.u rfl rfl (Wt.plain rfl) (Ex.loadHp flat5 rfl hH rfl) ?_
  refine WL.next ?_
  refine WC.block ?_
  refine WC.seq ?_
  refine WC.region ?_
  refine WL.u rfl rfl (Wt.plain rfl) (Ex.eql rfl rfl) ?_
  refine WL.u rfl rfl (Wt.plain rfl) (Ex.assign rfl) ?_
  refine WL.next ?_
  refine WC.cond rfl (fun hc1 => ?_) (fun hc1 => ?_)
  · have he : s = 62 := ubT 62 (by decide) hc1
    refine WC.seq ?_
    refine WC.seq ?_
    refine WC.region ?_
    refine WL.u rfl rfl (Wt.plain rfl) (Ex.move rfl) ?_
    refine WL.next ?_
    refine WC.cond rfl (fun hc2 => ?_) (fun hc2 => ?_)
    · have hc2' := hc2; try simp only [decide_eq_true_eq, decide_eq_false_iff_not, Bool.not_eq_true', Bool.not_eq_false', Bool.not_eq_true, Bool.not_eq_false] at hc2'
      refine WC.seq ?_
      refine WC.region ?_
      refine WL.u rfl rfl (Wt.plain rfl) (Ex.fieldAddr fd53_3 rfl) ?_
      refine WL.u rfl rfl (Wt.plain rfl) (Ex.loadHp flat51 rfl hH rfl) ?_
      refine WL.u rfl rfl (Wt.plain rfl) (Ex.indexAddr Try.underlying51 ty53 rfl rfl (by omega)) ?_
      refine WL.u rfl rfl (Wt.plain rfl) (Ex.loadSlS Try.underlying53 ty53 (hs.kept hH.keep) rfl (rfl) rfl) ?_
      refine WL.u rfl rfl (Wt.plain rfl) (Ex.move rfl) ?_
      refine WL.u rfl rfl (Wt.plain rfl) (Ex.add rfl rfl (by omega)) ?_
      refine WL.u rfl rfl (Wt.plain rfl) ((Ex.rem rfl rfl (by omega) (by omega)).to (congrArg (Value.int IntKind.i64) (show _ = (((k + 3) % 4 : Nat) : Int) by omega))) ?_
      refine WL.u rfl rfl (Wt.plain rfl) (Ex.move rfl) ?_
      refine WL.u rfl rfl (Wt.plain rfl) (Ex.move rfl) ?_
      refine WL.call callable32 rfl (Wt.plain rfl) rfl rfl (iha _ qa ((k + 3) % 4) f o (Nat.mod_lt _ (by omega)) (hTa.kept hH.keep)) ?_
      rintro _ wn ⟨rfl, hC⟩; replace hH := hH.call hC; clear hC
      refine WL.u rfl rfl (Wt.plain rfl) (Ex.assign rfl) ?_
      refine WL.next ?_
      refine WC.ret ?_
      refine WN.retThen ?_
      refine WN.retBlock ?_
      refine WN.retThen ?_
      refine WN.body1 rfl rfl ?_
      exact ⟨by rw [tidyS, if_pos he, if_pos hc2], hH.keep⟩
    have hc2' := hc2; try simp only [decide_eq_true_eq, decide_eq_false_iff_not, Bool.not_eq_true', Bool.not_eq_false', Bool.not_eq_true, Bool.not_eq_false] at hc2'
    refine WC.skip ?_
    refine WN.next ?_
    refine WC.seq ?_
    refine WC.region ?_
    refine WL.u rfl rfl (Wt.plain rfl) (Ex.fieldAddr fd53_3 rfl) ?_
    refine WL.u rfl rfl (Wt.plain rfl) (Ex.loadHp flat51 rfl hH rfl) ?_
    refine WL.u rfl rfl (Wt.plain rfl) (Ex.indexAddr Try.underlying51 ty53 rfl rfl (by omega)) ?_
    refine WL.u rfl rfl (Wt.plain rfl) (Ex.loadSlS Try.underlying53 ty53 (hs.kept hH.keep) rfl (rfl) rfl) ?_
    refine WL.u rfl rfl (Wt.plain rfl) (Ex.move rfl) ?_
    refine WL.u rfl rfl (Wt.plain rfl) (Ex.add rfl rfl (by omega)) ?_
    refine WL.u rfl rfl (Wt.plain rfl) ((Ex.rem rfl rfl (by omega) (by omega)).to (congrArg (Value.int IntKind.i64) (show _ = (((k + 1) % 4 : Nat) : Int) by omega))) ?_
    refine WL.u rfl rfl (Wt.plain rfl) (Ex.move rfl) ?_
    refine WL.u rfl rfl (Wt.plain rfl) (Ex.move rfl) ?_
    refine WL.call callable32 rfl (Wt.plain rfl) rfl rfl (iha _ qa ((k + 1) % 4) f o (Nat.mod_lt _ (by omega)) (hTa.kept hH.keep)) ?_
    rintro _ wn ⟨rfl, hC⟩; replace hH := hH.call hC; clear hC
    refine WL.u rfl rfl (Wt.plain rfl) (Ex.assign rfl) ?_
    refine WL.next ?_
    refine WC.ret ?_
    refine WN.retBlock ?_
    refine WN.retThen ?_
    refine WN.body1 rfl rfl ?_
    exact ⟨by rw [tidyS, if_pos he, if_neg (by rw [hc2]; decide)], hH.keep⟩
  have hs1 : s ≠ 62 := ubF 62 (by decide) hc1
  refine WC.seq ?_
  refine WC.region ?_
  refine WL.u rfl rfl (Wt.plain rfl) (Ex.eql rfl rfl) ?_
  refine WL.u rfl rfl (Wt.plain rfl) (Ex.assign rfl) ?_
  refine WL.next ?_
  refine WC.cond rfl (fun hc3 => ?_) (fun hc3 => ?_)
  · have he : s = 94 := ubT 94 (by decide) hc3
    refine WC.seq ?_
    refine WC.region ?_
    refine WL.u rfl rfl (Wt.plain rfl) (Ex.fieldAddr fd53_3 rfl) ?_
    refine WL.u rfl rfl (Wt.plain rfl) (Ex.loadHp flat51 rfl hH rfl) ?_
    refine WL.u rfl rfl (Wt.plain rfl) (Ex.indexAddr Try.underlying51 ty53 rfl rfl (by omega)) ?_
    refine WL.u rfl rfl (Wt.plain rfl) (Ex.loadSlS Try.underlying53 ty53 (hs.kept hH.keep) rfl (rfl) rfl) ?_
    refine WL.u rfl rfl (Wt.plain rfl) (Ex.move rfl) ?_
    refine WL.u rfl rfl (Wt.plain rfl) (Ex.move rfl) ?_
    refine WL.u rfl rfl (Wt.plain rfl) (Ex.not rfl) ?_
    refine WL.u rfl rfl (Wt.plain rfl) (Ex.move rfl) ?_
    refine WL.call callable32 rfl (Wt.plain rfl) rfl rfl (iha _ qa k (!f) o hk (hTa.kept hH.keep)) ?_
    rintro _ wn ⟨rfl, hC⟩; replace hH := hH.call hC; clear hC
    refine WL.u rfl rfl (Wt.plain rfl) (Ex.assign rfl) ?_
    refine WL.next ?_
    refine WC.ret ?_
    refine WN.retBlock ?_
    refine WN.retThen ?_
    refine WN.body1 rfl rfl ?_
    exact ⟨by rw [tidyS, if_neg hs1, if_pos he], hH.keep⟩
  have hs2 : s ≠ 94 := ubF 94 (by decide) hc3
  refine WC.seq ?_
  refine WC.region ?_
  refine WL.u rfl rfl (Wt.plain rfl) (Ex.eql rfl rfl) ?_
  refine WL.u rfl rfl (Wt.plain rfl) (Ex.assign rfl) ?_
  refine WL.next ?_
  refine WC.cond rfl (fun hc4 => ?_) (fun hc4 => ?_)
  · have he : s = 42 := ubT 42 (by decide) hc4
    refine WC.seq ?_
    refine WC.region ?_
    refine WL.u rfl rfl (Wt.plain rfl) (Ex.fieldAddr fd53_3 rfl) ?_
    refine WL.u rfl rfl (Wt.plain rfl) (Ex.loadHp flat51 rfl hH rfl) ?_
    refine WL.u rfl rfl (Wt.plain rfl) (Ex.indexAddr Try.underlying51 ty53 rfl rfl (by omega)) ?_
    refine WL.u rfl rfl (Wt.plain rfl) (Ex.loadSlS Try.underlying53 ty53 (hs.kept hH.keep) rfl (rfl) rfl) ?_
    refine WL.u rfl rfl (Wt.plain rfl) (Ex.move rfl) ?_
    refine WL.u rfl rfl (Wt.plain rfl) (Ex.move rfl) ?_
    refine WL.u rfl rfl (Wt.plain rfl) (Ex.move rfl) ?_
    refine WL.u rfl rfl (Wt.plain rfl) (Ex.not rfl) ?_
    refine WL.call callable32 rfl (Wt.plain rfl) rfl rfl (iha _ qa k f (!o) hk (hTa.kept hH.keep)) ?_
    rintro _ wn ⟨rfl, hC⟩; replace hH := hH.call hC; clear hC
    refine WL.u rfl rfl (Wt.plain rfl) (Ex.assign rfl) ?_
    refine WL.next ?_
    refine WC.ret ?_
    refine WN.retBlock ?_
    refine WN.retThen ?_
    refine WN.body1 rfl rfl ?_
    exact ⟨by rw [tidyS, if_neg hs1, if_neg hs2], hH.keep⟩
  exfalso
  have hs3 : s ≠ 42 := ubF 42 (by decide) hc4
  rcases isU_lt hU with h | h | h
  · exact hs1 h
  · exact hs2 h
  · exact hs3 h

set_option maxHeartbeats 1000000 in
theorem stidyBin (lo b cap nn mm : Nat) (s : UInt8) (a c : Tm) (qa qc : Qd) (k : Nat) (f o : Bool) (w : World) (iha : ∀ (w2 : World) (q : Qd) (k : Nat) (f o : Bool), k < 4 → TQ lo w2 a q → Fn Try.prog 32 [rQd.val q, vint k, .bool f, .bool o] w2 (fun v w3 => v = vstr (tidyS a k f o) ∧ Keep [] w2 w3)) (ihc : ∀ (w2 : World) (q : Qd) (k : Nat) (f o : Bool), k < 4 → TQ lo w2 c q → Fn Try.prog 32 [rQd.val q, vint k, .bool f, .bool o] w2 (fun v w3 => v = vstr (tidyS c k f o) ∧ Keep [] w2 w3)) (hB : s = 124 ∨ s = 45) (hk : k < 4) (hs : Sl rQd w (some ⟨b, 0, none⟩) [qa, qc]) (hTa : TQ lo w a qa) (hTc : TQ lo w c qc) (hla : lenT a ≤ 100000) (hlc : lenT c ≤ 100000) : Fn Try.prog 32 [.agg #[.int .u8 s.toNat, vint nn, vint mm, .slice (some ⟨b, 0, none⟩) 2 cap], vint k, .bool f, .bool o] w (fun v w1 => v = vstr (tidyS (.bin s a c) k f o) ∧ Keep [] w w1) := by
  refine Fn.enter (n := 130) Try.func32 rfl rfl rfl ?_
  show WC _ _ _ _ [(0, .agg #[.int .u8 s.toNat, vint nn, vint mm, .slice (some ⟨b, 0, none⟩) 2 cap]), (1, vint k), (2, .bool f), (3, .bool o)] _
  have hH := Hp.start [] w
  obtain ⟨hn62, hn94, hn42⟩ := bin_ne hB
  have hl1 := tidyS_len (t := a) k f o
  have hl2 := tidyS_len (t := c) k f o
  refine WC.seq ?_
  refine WC.region ?_
  refine WL.box rfl rfl rfl (Wt.plain rfl) hH (fun b4 wn hb4 hk4 hH => ?_)
  refine WL.u rfl rfl (Wt.plain rfl) (Ex.assign rfl) ?_
  refine WL.next ?_
  refine WC.seq ?_
  refine WC.seq ?_
  refine WC.region ?_
  refine WL.u rfl rfl (Wt.plain rfl) (Ex.fieldAddr fd53_0 rfl) ?_
  refine WL.u rfl rfl (Wt.plain rfl) (Ex.loadHp flat5 rfl hH rfl) ?_
  refine WL.next ?_
  refine WC.block ?_
  refine WC.seq ?_
  refine WC.region ?_
  refine WL.u rfl rfl (Wt.plain rfl) (Ex.eql rfl rfl) ?_
  refine WL.u rfl rfl (Wt.plain rfl) (Ex.assign rfl) ?_
  refine WL.next ?_
  refine WC.condF rfl (decide_eq_false (fun h => hn62 ((u8eq s 62 (by decide)).1 h))) ?_
  refine WC.seq ?_
  refine WC.region ?_
  refine WL.u rfl rfl (Wt.plain rfl) (Ex.eql rfl rfl) ?_
  refine WL.u rfl rfl (Wt.plain rfl) (Ex.assign rfl) ?_
  refine WL.next ?_
  refine WC.condF rfl (decide_eq_false (fun h => hn94 ((u8eq s 94 (by decide)).1 h))) ?_
  refine WC.seq ?_
  refine WC.region ?_
  refine WL.u rfl rfl (Wt.plain rfl) (Ex.eql rfl rfl) ?_
  refine WL.u rfl rfl (Wt.plain rfl) (Ex.assign rfl) ?_
  refine WL.next ?_
  refine WC.condF rfl (decide_eq_false (fun h => hn42 ((u8eq s 42 (by decide)).1 h))) ?_
  refine WC.seq ?_
  refine WC.seq ?_
  refine WC.region ?_
  refine WL.u rfl rfl (Wt.plain rfl) (Ex.eql rfl rfl) ?_
  refine WL.u rfl rfl (Wt.plain rfl) (Ex.assign rfl) ?_
  refine WL.next ?_
  refine WC.cond rfl (fun hc5 => ?_) (fun hc5 => ?_)
  · have hc5' := hc5; try simp only [decide_eq_true_eq, decide_eq_false_iff_not, Bool.not_eq_true', Bool.not_eq_false', Bool.not_eq_true, Bool.not_eq_false] at hc5'
    refine WC.skip ?_
    refine WN.next ?_
    refine WC.condT rfl hc5 ?_
    refine WC.seq ?_
    refine WC.region ?_
    refine WL.u rfl rfl (Wt.plain rfl) (Ex.fieldAddr fd53_0 rfl) ?_
    refine WL.u rfl rfl (Wt.plain rfl) (Ex.loadHp flat5 rfl hH rfl) ?_
    refine WL.u rfl rfl (Wt.plain rfl) (Ex.assign rfl) ?_
    refine WL.next ?_
    refine WC.seq ?_
    refine WC.region ?_
    refine WL.u rfl rfl (Wt.plain rfl) (Ex.fieldAddr fd53_3 rfl) ?_
    refine WL.u rfl rfl (Wt.plain rfl) (Ex.loadHp flat51 rfl hH rfl) ?_
    refine WL.u rfl rfl (Wt.plain rfl) (Ex.indexAddr Try.underlying51 ty53 rfl rfl (by omega)) ?_
    refine WL.u rfl rfl (Wt.plain rfl) (Ex.loadSlS Try.underlying53 ty53 (hs.kept hH.keep) rfl (rfl) rfl) ?_
    refine WL.u rfl rfl (Wt.plain rfl) (Ex.move rfl) ?_
    refine WL.u rfl rfl (Wt.plain rfl) (Ex.move rfl) ?_
    refine WL.u rfl rfl (Wt.plain rfl) (Ex.move rfl) ?_
    refine WL.call callable32 rfl (Wt.plain rfl) rfl rfl (iha _ qa k f o hk (hTa.kept hH.keep)) ?_
    rintro _ wn ⟨rfl, hC⟩; replace hH := hH.call hC; clear hC
    refine WL.u rfl rfl (Wt.plain rfl) (Ex.assign rfl) ?_
    refine WL.next ?_
    refine WC.seq ?_
    refine WC.region ?_
    refine WL.u rfl rfl (Wt.plain rfl) (Ex.fieldAddr fd53_3 rfl) ?_
    refine WL.u rfl rfl (Wt.plain rfl) (Ex.loadHp flat51 rfl hH rfl) ?_
    refine WL.u rfl rfl (Wt.plain rfl) (Ex.indexAddr Try.underlying51 ty53 rfl rfl (by omega)) ?_
    refine WL.u rfl rfl (Wt.plain rfl) (Ex.loadSlS Try.underlying53 ty53 (hs.kept hH.keep) rfl (rfl) rfl) ?_
    refine WL.u rfl rfl (Wt.plain rfl) (Ex.move rfl) ?_
    refine WL.u rfl rfl (Wt.plain rfl) (Ex.move rfl) ?_
    refine WL.u rfl rfl (Wt.plain rfl) (Ex.move rfl) ?_
    refine WL.call callable32 rfl (Wt.plain rfl) rfl rfl (ihc _ qc k f o hk (hTc.kept hH.keep)) ?_
    rintro _ wn ⟨rfl, hC⟩; replace hH := hH.call hC; clear hC
    refine WL.u rfl rfl (Wt.plain rfl) (Ex.assign rfl) ?_
    refine WL.next ?_
    refine WC.seq ?_
    refine WC.region ?_
    refine WL.u rfl rfl (Wt.plain rfl) (Ex.move rfl) ?_
    refine WL.u rfl rfl (Wt.plain rfl) (Ex.move rfl) ?_
    refine WL.split (t := 84) rfl (fun hg15_1 => ?_) (fun hg15_1 => ?_)
    · have hx0 : decide ((s.toNat : Int) = 124) = (f && decide (s = 124)) := by rw [hg15_1, Bool.true_and, Bool.eq_iff_iff, decide_eq_true_eq, decide_eq_true_eq]; exact u8eq s 124 (by decide)
      refine WL.u rfl rfl (Wt.guard' rfl rfl rfl hg15_1 rfl) (Ex.move rfl) ?_
      refine WL.u rfl rfl (Wt.guard' rfl rfl rfl hg15_1 rfl) (Ex.eql rfl rfl) ?_
      refine WL.u rfl rfl (Wt.plain rfl) (Ex.pickT rfl hg15_1 rfl) ?_
      refine WL.u rfl rfl (Wt.plain rfl) (Ex.assign rfl) ?_
      refine WL.next ?_
      refine WC.seq ?_
      refine WC.seq ?_
      refine WC.region ?_
      refine WL.u rfl rfl (Wt.plain rfl) (Ex.assign rfl) ?_
      refine WL.next ?_
      refine WC.block ?_
      refine WC.loop (ι := Nat) (fun i => [(1, vint k), (9, .int .u8 (stepsS i (s, f && decide (s = 124))).1.toNat), (10, vstr (tidyS a k f o)), (11, vstr (tidyS c k f o)), (12, .bool (stepsS i (s, f && decide (s = 124))).2), (13, vint i)]) (fun i wn => Hp [] w wn [] ∧ i ≤ k) (fun i => k - i) (0) (by exact ⟨rfl, rfl, rfl, rfl, congrArg (fun x : Bool => some (Value.bool x)) hx0, rfl, trivial⟩) ?_ ?_
      · exact ⟨hH.first0, Nat.zero_le _⟩
      rintro i wn ⟨hH, hi⟩
      intro mu0 hmu; try dsimp only at hmu
      show WC _ _ _ _ [(1, vint k), (9, .int .u8 (stepsS i (s, f && decide (s = 124))).1.toNat), (10, vstr (tidyS a k f o)), (11, vstr (tidyS c k f o)), (12, .bool (stepsS i (s, f && decide (s = 124))).2), (13, vint i)] _
      refine WC.seq ?_
      refine WC.seq ?_
      refine WC.region ?_
      refine WL.u rfl rfl (Wt.plain rfl) (Ex.move rfl) ?_
      refine WL.u rfl rfl (Wt.plain rfl) (Ex.move rfl) ?_
      refine WL.u rfl rfl (Wt.plain rfl) (Ex.lss rfl rfl) ?_
      refine WL.next ?_
      refine WC.cond rfl (fun hc7 => ?_) (fun hc7 => ?_)
      · have hc7' := hc7; try simp only [decide_eq_true_eq, decide_eq_false_iff_not, Bool.not_eq_true', Bool.not_eq_false', Bool.not_eq_true, Bool.not_eq_false] at hc7'
        refine WC.skip ?_
        refine WN.next ?_
        refine WC.seq ?_
        refine WC.block ?_
        refine WC.seq ?_
        refine WC.region ?_
        refine WL.u rfl rfl (Wt.plain rfl) (Ex.move rfl) ?_
        refine WL.u rfl rfl (Wt.plain rfl) (Ex.eql rfl rfl) ?_
        refine WL.next ?_
        refine WC.cond rfl (fun hc8 => ?_) (fun hc8 => ?_)
        · have h124 : (stepsS i (s, f && decide (s = 124))).1 = 124 := ubT 124 (by decide) hc8
          refine WC.region ?_
          refine WL.u rfl rfl (Wt.plain rfl) (Ex.assign rfl) ?_
          refine WL.last ?_
          refine WN.normalBlock ?_
          refine WN.next ?_
          refine WC.region ?_
          refine WL.u rfl rfl (Wt.plain rfl) (Ex.move rfl) ?_
          refine WL.u rfl rfl (Wt.plain rfl) (Ex.add rfl rfl (by omega)) ?_
          refine WL.u rfl rfl (Wt.plain rfl) (Ex.assign rfl) ?_
          refine WL.last ?_
          refine WN.round (i + 1) (by rw [stepsS_T h124]; exact ⟨rfl, rfl, rfl, rfl, rfl, rfl, trivial⟩) ?_ ?_
          · exact ⟨hH, by omega⟩
          · (try dsimp only); omega
        have hn124 : (stepsS i (s, f && decide (s = 124))).1 ≠ 124 := ubF 124 (by decide) hc8
        refine WC.seq ?_
        refine WC.region ?_
        refine WL.u rfl rfl (Wt.plain rfl) (Ex.assign rfl) ?_
        refine WL.next ?_
        refine WC.region ?_
        refine WL.u rfl rfl (Wt.plain rfl) (Ex.move rfl) ?_
        refine WL.u rfl rfl (Wt.plain rfl) (Ex.not rfl) ?_
        refine WL.u rfl rfl (Wt.plain rfl) (Ex.assign rfl) ?_
        refine WL.last ?_
        refine WN.normalBlock ?_
        refine WN.next ?_
        refine WC.region ?_
        refine WL.u rfl rfl (Wt.plain rfl) (Ex.move rfl) ?_
        refine WL.u rfl rfl (Wt.plain rfl) (Ex.add rfl rfl (by omega)) ?_
        refine WL.u rfl rfl (Wt.plain rfl) (Ex.assign rfl) ?_
        refine WL.last ?_
        refine WN.round (i + 1) (by rw [stepsS_F hn124]; exact ⟨rfl, rfl, rfl, rfl, rfl, rfl, trivial⟩) ?_ ?_
        · exact ⟨hH, by omega⟩
        · (try dsimp only); omega
      have hc7' := hc7; try simp only [decide_eq_true_eq, decide_eq_false_iff_not, Bool.not_eq_true', Bool.not_eq_false', Bool.not_eq_true, Bool.not_eq_false] at hc7'
      obtain rfl : i = k := by omega
      refine WC.exit ?_
      refine WN.exitThen ?_
      refine WN.exitThen ?_
      refine WN.exitHere ?_
      refine WN.next ?_
      refine WC.seq ?_
      refine WC.seq ?_
      refine WC.region ?_
      refine WL.u rfl rfl (Wt.plain rfl) (Ex.move rfl) ?_
      refine WL.next ?_
      refine WC.cond rfl (fun hc9 => ?_) (fun hc9 => ?_)
      · have hc9' := hc9; try simp only [decide_eq_true_eq, decide_eq_false_iff_not, Bool.not_eq_true', Bool.not_eq_false', Bool.not_eq_true, Bool.not_eq_false] at hc9'
        refine WC.seq ?_
        refine WC.region ?_
        refine WL.u rfl rfl (Wt.plain rfl) (Ex.move rfl) ?_
        refine WL.u rfl rfl (Wt.plain rfl) (Ex.concat rfl rfl (by (try simp only [List.length_append, List.length_cons, List.length_nil]); omega)) ?_
        refine WL.u rfl rfl (Wt.plain rfl) (Ex.move rfl) ?_
        refine WL.lit Try.underlying30 ty5 rfl rfl rfl rfl rfl rfl rfl (Wt.plain rfl) hH (fun b101 wn hb101 hk101 hH => ?_)
        have ho101 := Own.bt1 (stepsS i (s, f && decide (s = 124))).1
        refine WL.u rfl rfl (Wt.plain rfl) (Ex.bytesStr Try.underlying30 Try.underlying5 Try.underlying9 rfl (ho101.slAt hH 0 rfl)) ?_
        refine WL.u rfl rfl (Wt.plain rfl) (Ex.concat rfl rfl (by (try simp only [List.length_append, List.length_cons, List.length_nil]); omega)) ?_
        refine WL.u rfl rfl (Wt.plain rfl) (Ex.move rfl) ?_
        refine WL.u rfl rfl (Wt.plain rfl) (Ex.concat rfl rfl (by (try simp only [List.length_append, List.length_cons, List.length_nil]); omega)) ?_
        refine WL.u rfl rfl (Wt.plain rfl) (Ex.concat rfl rfl (by (try simp only [List.length_append, List.length_cons, List.length_nil]); omega)) ?_
        refine WL.u rfl rfl (Wt.plain rfl) (Ex.assign rfl) ?_
        refine WL.next ?_
        refine WC.ret ?_
        refine WN.retThen ?_
        refine WN.retBlock ?_
        refine WN.retThen ?_
        refine WN.body1 rfl rfl ?_
        exact ⟨by rw [tidyS, if_pos hc9] <;> rfl, hH.keep⟩
      have hc9' := hc9; try simp only [decide_eq_true_eq, decide_eq_false_iff_not, Bool.not_eq_true', Bool.not_eq_false', Bool.not_eq_true, Bool.not_eq_false] at hc9'
      refine WC.skip ?_
      refine WN.next ?_
      refine WC.seq ?_
      refine WC.region ?_
      refine WL.u rfl rfl (Wt.plain rfl) (Ex.move rfl) ?_
      refine WL.u rfl rfl (Wt.plain rfl) (Ex.concat rfl rfl (by (try simp only [List.length_append, List.length_cons, List.length_nil]); omega)) ?_
      refine WL.u rfl rfl (Wt.plain rfl) (Ex.move rfl) ?_
      refine WL.lit Try.underlying30 ty5 rfl rfl rfl rfl rfl rfl rfl (Wt.plain rfl) hH (fun b110 wn hb110 hk110 hH => ?_)
      have ho110 := Own.bt1 (stepsS i (s, f && decide (s = 124))).1
      refine WL.u rfl rfl (Wt.plain rfl) (Ex.bytesStr Try.underlying30 Try.underlying5 Try.underlying9 rfl (ho110.slAt hH 0 rfl)) ?_
      refine WL.u rfl rfl (Wt.plain rfl) (Ex.concat rfl rfl (by (try simp only [List.length_append, List.length_cons, List.length_nil]); omega)) ?_
      refine WL.u rfl rfl (Wt.plain rfl) (Ex.move rfl) ?_
      refine WL.u rfl rfl (Wt.plain rfl) (Ex.concat rfl rfl (by (try simp only [List.length_append, List.length_cons, List.length_nil]); omega)) ?_
      refine WL.u rfl rfl (Wt.plain rfl) (Ex.concat rfl rfl (by (try simp only [List.length_append, List.length_cons, List.length_nil]); omega)) ?_
      refine WL.u rfl rfl (Wt.plain rfl) (Ex.assign rfl) ?_
      refine WL.next ?_
      refine WC.ret ?_
      refine WN.retBlock ?_
      refine WN.retThen ?_
      refine WN.body1 rfl rfl ?_
      exact ⟨by rw [tidyS, if_neg (by rw [hc9]; decide)] <;> rfl, hH.keep⟩
    have hx0 : false = (f && decide (s = 124)) := by rw [hg15_1]; rfl
    refine WL.pass rfl rfl (Wt.guard' rfl rfl rfl hg15_1 rfl) ?_
    refine WL.pass rfl rfl (Wt.guard' rfl rfl rfl hg15_1 rfl) ?_
    refine WL.u rfl rfl (Wt.plain rfl) (Ex.pickF rfl hg15_1 rfl) ?_
    refine WL.u rfl rfl (Wt.plain rfl) (Ex.assign rfl) ?_
    refine WL.next ?_
    refine WC.seq ?_
    refine WC.seq ?_
    refine WC.region ?_
    refine WL.u rfl rfl (Wt.plain rfl) (Ex.assign rfl) ?_
    refine WL.next ?_
    refine WC.block ?_
    refine WC.loop (ι := Nat) (fun i => [(1, vint k), (9, .int .u8 (stepsS i (s, f && decide (s = 124))).1.toNat), (10, vstr (tidyS a k f o)), (11, vstr (tidyS c k f o)), (12, .bool (stepsS i (s, f && decide (s = 124))).2), (13, vint i)]) (fun i wn => Hp [] w wn [] ∧ i ≤ k) (fun i => k - i) (0) (by exact ⟨rfl, rfl, rfl, rfl, congrArg (fun x : Bool => some (Value.bool x)) hx0, rfl, trivial⟩) ?_ ?_
    · exact ⟨hH.first0, Nat.zero_le _⟩
    rintro i wn ⟨hH, hi⟩
    intro mu0 hmu; try dsimp only at hmu
    show WC _ _ _ _ [(1, vint k), (9, .int .u8 (stepsS i (s, f && decide (s = 124))).1.toNat), (10, vstr (tidyS a k f o)), (11, vstr (tidyS c k f o)), (12, .bool (stepsS i (s, f && decide (s = 124))).2), (13, vint i)] _
    refine WC.seq ?_
    refine WC.seq ?_
    refine WC.region ?_
    refine WL.u rfl rfl (Wt.plain rfl) (Ex.move rfl) ?_
    refine WL.u rfl rfl (Wt.plain rfl) (Ex.move rfl) ?_
    refine WL.u rfl rfl (Wt.plain rfl) (Ex.lss rfl rfl) ?_
    refine WL.next ?_
    refine WC.cond rfl (fun hc7 => ?_) (fun hc7 => ?_)
    · have hc7' := hc7; try simp only [decide_eq_true_eq, decide_eq_false_iff_not, Bool.not_eq_true', Bool.not_eq_false', Bool.not_eq_true, Bool.not_eq_false] at hc7'
      refine WC.skip ?_
      refine WN.next ?_
      refine WC.seq ?_
      refine WC.block ?_
      refine WC.seq ?_
      refine WC.region ?_
      refine WL.u rfl rfl (Wt.plain rfl) (Ex.move rfl) ?_
      refine WL.u rfl rfl (Wt.plain rfl) (Ex.eql rfl rfl) ?_
      refine WL.next ?_
      refine WC.cond rfl (fun hc8 => ?_) (fun hc8 => ?_)
      · have h124 : (stepsS i (s, f && decide (s = 124))).1 = 124 := ubT 124 (by decide) hc8
        refine WC.region ?_
        refine WL.u rfl rfl (Wt.plain rfl) (Ex.assign rfl) ?_
        refine WL.last ?_
        refine WN.normalBlock ?_
        refine WN.next ?_
        refine WC.region ?_
        refine WL.u rfl rfl (Wt.plain rfl) (Ex.move rfl) ?_
        refine WL.u rfl rfl (Wt.plain rfl) (Ex.add rfl rfl (by omega)) ?_
        refine WL.u rfl rfl (Wt.plain rfl) (Ex.assign rfl) ?_
        refine WL.last ?_
        refine WN.round (i + 1) (by rw [stepsS_T h124]; exact ⟨rfl, rfl, rfl, rfl, rfl, rfl, trivial⟩) ?_ ?_
        · exact ⟨hH, by omega⟩
        · (try dsimp only); omega
      have hn124 : (stepsS i (s, f && decide (s = 124))).1 ≠ 124 := ubF 124 (by decide) hc8
      refine WC.seq ?_
      refine WC.region ?_
      refine WL.u rfl rfl (Wt.plain rfl) (Ex.assign rfl) ?_
      refine WL.next ?_
      refine WC.region ?_
      refine WL.u rfl rfl (Wt.plain rfl) (Ex.move rfl) ?_
      refine WL.u rfl rfl (Wt.plain rfl) (Ex.not rfl) ?_
      refine WL.u rfl rfl (Wt.plain rfl) (Ex.assign rfl) ?_
      refine WL.last ?_
      refine WN.normalBlock ?_
      refine WN.next ?_
      refine WC.region ?_
      refine WL.u rfl rfl (Wt.plain rfl) (Ex.move rfl) ?_
      refine WL.u rfl rfl (Wt.plain rfl) (Ex.add rfl rfl (by omega)) ?_
      refine WL.u rfl rfl (Wt.plain rfl) (Ex.assign rfl) ?_
      refine WL.last ?_
      refine WN.round (i + 1) (by rw [stepsS_F hn124]; exact ⟨rfl, rfl, rfl, rfl, rfl, rfl, trivial⟩) ?_ ?_
      · exact ⟨hH, by omega⟩
      · (try dsimp only); omega
    have hc7' := hc7; try simp only [decide_eq_true_eq, decide_eq_false_iff_not, Bool.not_eq_true', Bool.not_eq_false', Bool.not_eq_true, Bool.not_eq_false] at hc7'
    obtain rfl : i = k := by omega
    refine WC.exit ?_
    refine WN.exitThen ?_
    refine WN.exitThen ?_
    refine WN.exitHere ?_
    refine WN.next ?_
    refine WC.seq ?_
    refine WC.seq ?_
    refine WC.region ?_
    refine WL.u rfl rfl (Wt.plain rfl) (Ex.move rfl) ?_
    refine WL.next ?_
    refine WC.cond rfl (fun hc9 => ?_) (fun hc9 => ?_)
    · have hc9' := hc9; try simp only [decide_eq_true_eq, decide_eq_false_iff_not, Bool.not_eq_true', Bool.not_eq_false', Bool.not_eq_true, Bool.not_eq_false] at hc9'
      refine WC.seq ?_
      refine WC.region ?_
      refine WL.u rfl rfl (Wt.plain rfl) (Ex.move rfl) ?_
      refine WL.u rfl rfl (Wt.plain rfl) (Ex.concat rfl rfl (by (try simp only [List.length_append, List.length_cons, List.length_nil]); omega)) ?_
      refine WL.u rfl rfl (Wt.plain rfl) (Ex.move rfl) ?_
      refine WL.lit Try.underlying30 ty5 rfl rfl rfl rfl rfl rfl rfl (Wt.plain rfl) hH (fun b101 wn hb101 hk101 hH => ?_)
      have ho101 := Own.bt1 (stepsS i (s, f && decide (s = 124))).1
      refine WL.u rfl rfl (Wt.plain rfl) (Ex.bytesStr Try.underlying30 Try.underlying5 Try.underlying9 rfl (ho101.slAt hH 0 rfl)) ?_
      refine WL.u rfl rfl (Wt.plain rfl) (Ex.concat rfl rfl (by (try simp only [List.length_append, List.length_cons, List.length_nil]); omega)) ?_
      refine WL.u rfl rfl (Wt.plain rfl) (Ex.move rfl) ?_
      refine WL.u rfl rfl (Wt.plain rfl) (Ex.concat rfl rfl (by (try simp only [List.length_append, List.length_cons, List.length_nil]); omega)) ?_
      refine WL.u rfl rfl (Wt.plain rfl) (Ex.concat rfl rfl (by (try simp only [List.length_append, List.length_cons, List.length_nil]); omega)) ?_
      refine WL.u rfl rfl (Wt.plain rfl) (Ex.assign rfl) ?_
      refine WL.next ?_
      refine WC.ret ?_
      refine WN.retThen ?_
      refine WN.retBlock ?_
      refine WN.retThen ?_
      refine WN.body1 rfl rfl ?_
      exact ⟨by rw [tidyS, if_pos hc9] <;> rfl, hH.keep⟩
    have hc9' := hc9; try simp only [decide_eq_true_eq, decide_eq_false_iff_not, Bool.not_eq_true', Bool.not_eq_false', Bool.not_eq_true, Bool.not_eq_false] at hc9'
    refine WC.skip ?_
    refine WN.next ?_
    refine WC.seq ?_
    refine WC.region ?_
    refine WL.u rfl rfl (Wt.plain rfl) (Ex.move rfl) ?_
    refine WL.u rfl rfl (Wt.plain rfl) (Ex.concat rfl rfl (by (try simp only [List.length_append, List.length_cons, List.length_nil]); omega)) ?_
    refine WL.u rfl rfl (Wt.plain rfl) (Ex.move rfl) ?_
    refine WL.lit Try.underlying30 ty5 rfl rfl rfl rfl rfl rfl rfl (Wt.plain rfl) hH (fun b110 wn hb110 hk110 hH => ?_)
    have ho110 := Own.bt1 (stepsS i (s, f && decide (s = 124))).1
    refine WL.u rfl rfl (Wt.plain rfl) (Ex.bytesStr Try.underlying30 Try.underlying5 Try.underlying9 rfl (ho110.slAt hH 0 rfl)) ?_
    refine WL.u rfl rfl (Wt.plain rfl) (Ex.concat rfl rfl (by (try simp only [List.length_append, List.length_cons, List.length_nil]); omega)) ?_
    refine WL.u rfl rfl (Wt.plain rfl) (Ex.move rfl) ?_
    refine WL.u rfl rfl (Wt.plain rfl) (Ex.concat rfl rfl (by (try simp only [List.length_append, List.length_cons, List.length_nil]); omega)) ?_
    refine WL.u rfl rfl (Wt.plain rfl) (Ex.concat rfl rfl (by (try simp only [List.length_append, List.length_cons, List.length_nil]); omega)) ?_
    refine WL.u rfl rfl (Wt.plain rfl) (Ex.assign rfl) ?_
    refine WL.next ?_
    refine WC.ret ?_
    refine WN.retBlock ?_
    refine WN.retThen ?_
    refine WN.body1 rfl rfl ?_
    exact ⟨by rw [tidyS, if_neg (by rw [hc9]; decide)] <;> rfl, hH.keep⟩
  have hc5' := hc5; try simp only [decide_eq_true_eq, decide_eq_false_iff_not, Bool.not_eq_true', Bool.not_eq_false', Bool.not_eq_true, Bool.not_eq_false] at hc5'
  refine WC.region ?_
  refine WL.u rfl rfl (Wt.plain rfl) (Ex.eql rfl rfl) ?_
  refine WL.u rfl rfl (Wt.plain rfl) (Ex.assign rfl) ?_
  refine WL.next ?_
  refine WC.cond rfl (fun hc6 => ?_) (fun hc6 => ?_)
  · have hc6' := hc6; try simp only [decide_eq_true_eq, decide_eq_false_iff_not, Bool.not_eq_true', Bool.not_eq_false', Bool.not_eq_true, Bool.not_eq_false] at hc6'
    refine WC.seq ?_
    refine WC.region ?_
    refine WL.u rfl rfl (Wt.plain rfl) (Ex.fieldAddr fd53_0 rfl) ?_
    refine WL.u rfl rfl (Wt.plain rfl) (Ex.loadHp flat5 rfl hH rfl) ?_
    refine WL.u rfl rfl (Wt.plain rfl) (Ex.assign rfl) ?_
    refine WL.next ?_
    refine WC.seq ?_
    refine WC.region ?_
    refine WL.u rfl rfl (Wt.plain rfl) (Ex.fieldAddr fd53_3 rfl) ?_
    refine WL.u rfl rfl (Wt.plain rfl) (Ex.loadHp flat51 rfl hH rfl) ?_
    refine WL.u rfl rfl (Wt.plain rfl) (Ex.indexAddr Try.underlying51 ty53 rfl rfl (by omega)) ?_
    refine WL.u rfl rfl (Wt.plain rfl) (Ex.loadSlS Try.underlying53 ty53 (hs.kept hH.keep) rfl (rfl) rfl) ?_
    refine WL.u rfl rfl (Wt.plain rfl) (Ex.move rfl) ?_
    refine WL.u rfl rfl (Wt.plain rfl) (Ex.move rfl) ?_
    refine WL.u rfl rfl (Wt.plain rfl) (Ex.move rfl) ?_
    refine WL.call callable32 rfl (Wt.plain rfl) rfl rfl (iha _ qa k f o hk (hTa.kept hH.keep)) ?_
    rintro _ wn ⟨rfl, hC⟩; replace hH := hH.call hC; clear hC
    refine WL.u rfl rfl (Wt.plain rfl) (Ex.assign rfl) ?_
    refine WL.next ?_
    refine WC.seq ?_
    refine WC.region ?_
    refine WL.u rfl rfl (Wt.plain rfl) (Ex.fieldAddr fd53_3 rfl) ?_
    refine WL.u rfl rfl (Wt.plain rfl) (Ex.loadHp flat51 rfl hH rfl) ?_
    refine WL.u rfl rfl (Wt.plain rfl) (Ex.indexAddr Try.underlying51 ty53 rfl rfl (by omega)) ?_
    refine WL.u rfl rfl (Wt.plain rfl) (Ex.loadSlS Try.underlying53 ty53 (hs.kept hH.keep) rfl (rfl) rfl) ?_
    refine WL.u rfl rfl (Wt.plain rfl) (Ex.move rfl) ?_
    refine WL.u rfl rfl (Wt.plain rfl) (Ex.move rfl) ?_
    refine WL.u rfl rfl (Wt.plain rfl) (Ex.move rfl) ?_
    refine WL.call callable32 rfl (Wt.plain rfl) rfl rfl (ihc _ qc k f o hk (hTc.kept hH.keep)) ?_
    rintro _ wn ⟨rfl, hC⟩; replace hH := hH.call hC; clear hC
    refine WL.u rfl rfl (Wt.plain rfl) (Ex.assign rfl) ?_
    refine WL.next ?_
    refine WC.seq ?_
    refine WC.region ?_
    refine WL.u rfl rfl (Wt.plain rfl) (Ex.move rfl) ?_
    refine WL.u rfl rfl (Wt.plain rfl) (Ex.move rfl) ?_
    refine WL.split (t := 84) rfl (fun hg15_1 => ?_) (fun hg15_1 => ?_)
    · have hx0 : decide ((s.toNat : Int) = 124) = (f && decide (s = 124)) := by rw [hg15_1, Bool.true_and, Bool.eq_iff_iff, decide_eq_true_eq, decide_eq_true_eq]; exact u8eq s 124 (by decide)
      refine WL.u rfl rfl (Wt.guard' rfl rfl rfl hg15_1 rfl) (Ex.move rfl) ?_
      refine WL.u rfl rfl (Wt.guard' rfl rfl rfl hg15_1 rfl) (Ex.eql rfl rfl) ?_
      refine WL.u rfl rfl (Wt.plain rfl) (Ex.pickT rfl hg15_1 rfl) ?_
      refine WL.u rfl rfl (Wt.plain rfl) (Ex.assign rfl) ?_
      refine WL.next ?_
      refine WC.seq ?_
      refine WC.seq ?_
      refine WC.region ?_
      refine WL.u rfl rfl (Wt.plain rfl) (Ex.assign rfl) ?_
      refine WL.next ?_
      refine WC.block ?_
      refine WC.loop (ι := Nat) (fun i => [(1, vint k), (9, .int .u8 (stepsS i (s, f && decide (s = 124))).1.toNat), (10, vstr (tidyS a k f o)), (11, vstr (tidyS c k f o)), (12, .bool (stepsS i (s, f && decide (s = 124))).2), (13, vint i)]) (fun i wn => Hp [] w wn [] ∧ i ≤ k) (fun i => k - i) (0) (by exact ⟨rfl, rfl, rfl, rfl, congrArg (fun x : Bool => some (Value.bool x)) hx0, rfl, trivial⟩) ?_ ?_
      · exact ⟨hH.first0, Nat.zero_le _⟩
      rintro i wn ⟨hH, hi⟩
      intro mu0 hmu; try dsimp only at hmu
      show WC _ _ _ _ [(1, vint k), (9, .int .u8 (stepsS i (s, f && decide (s = 124))).1.toNat), (10, vstr (tidyS a k f o)), (11, vstr (tidyS c k f o)), (12, .bool (stepsS i (s, f && decide (s = 124))).2), (13, vint i)] _
      refine WC.seq ?_
      refine WC.seq ?_
      refine WC.region ?_
      refine WL.u rfl rfl (Wt.plain rfl) (Ex.move rfl) ?_
      refine WL.u rfl rfl (Wt.plain rfl) (Ex.move rfl) ?_
      refine WL.u rfl rfl (Wt.plain rfl) (Ex.lss rfl rfl) ?_
      refine WL.next ?_
      refine WC.cond rfl (fun hc7 => ?_) (fun hc7 => ?_)
      · have hc7' := hc7; try simp only [decide_eq_true_eq, decide_eq_false_iff_not, Bool.not_eq_true', Bool.not_eq_false', Bool.not_eq_true, Bool.not_eq_false] at hc7'
        refine WC.skip ?_
        refine WN.next ?_
        refine WC.seq ?_
        refine WC.block ?_
        refine WC.seq ?_
        refine WC.region ?_
        refine WL.u rfl rfl (Wt.plain rfl) (Ex.move rfl) ?_
        refine WL.u rfl rfl (Wt.plain rfl) (Ex.eql rfl rfl) ?_
        refine WL.next ?_
        refine WC.cond rfl (fun hc8 => ?_) (fun hc8 => ?_)
        · have h124 : (stepsS i (s, f && decide (s = 124))).1 = 124 := ubT 124 (by decide) hc8
          refine WC.region ?_
          refine WL.u rfl rfl (Wt.plain rfl) (Ex.assign rfl) ?_
          refine WL.last ?_
          refine WN.normalBlock ?_
          refine WN.next ?_
          refine WC.region ?_
          refine WL.u rfl rfl (Wt.plain rfl) (Ex.move rfl) ?_
          refine WL.u rfl rfl (Wt.plain rfl) (Ex.add rfl rfl (by omega)) ?_
          refine WL.u rfl rfl (Wt.plain rfl) (Ex.assign rfl) ?_
          refine WL.last ?_
          refine WN.round (i + 1) (by rw [stepsS_T h124]; exact ⟨rfl, rfl, rfl, rfl, rfl, rfl, trivial⟩) ?_ ?_
          · exact ⟨hH, by omega⟩
          · (try dsimp only); omega
        have hn124 : (stepsS i (s, f && decide (s = 124))).1 ≠ 124 := ubF 124 (by decide) hc8
        refine WC.seq ?_
        refine WC.region ?_
        refine WL.u rfl rfl (Wt.plain rfl) (Ex.assign rfl) ?_
        refine WL.next ?_
        refine WC.region ?_
        refine WL.u rfl rfl (Wt.plain rfl) (Ex.move rfl) ?_
        refine WL.u rfl rfl (Wt.plain rfl) (Ex.not rfl) ?_
        refine WL.u rfl rfl (Wt.plain rfl) (Ex.assign rfl) ?_
        refine WL.last ?_
        refine WN.normalBlock ?_
        refine WN.next ?_
        refine WC.region ?_
        refine WL.u rfl rfl (Wt.plain rfl) (Ex.move rfl) ?_
        refine WL.u rfl rfl (Wt.plain rfl) (Ex.add rfl rfl (by omega)) ?_
        refine WL.u rfl rfl (Wt.plain rfl) (Ex.assign rfl) ?_
        refine WL.last ?_
        refine WN.round (i + 1) (by rw [stepsS_F hn124]; exact ⟨rfl, rfl, rfl, rfl, rfl, rfl, trivial⟩) ?_ ?_
        · exact ⟨hH, by omega⟩
        · (try dsimp only); omega
      have hc7' := hc7; try simp only [decide_eq_true_eq, decide_eq_false_iff_not, Bool.not_eq_true', Bool.not_eq_false', Bool.not_eq_true, Bool.not_eq_false] at hc7'
      obtain rfl : i = k := by omega
      refine WC.exit ?_
      refine WN.exitThen ?_
      refine WN.exitThen ?_
      refine WN.exitHere ?_
      refine WN.next ?_
      refine WC.seq ?_
      refine WC.seq ?_
      refine WC.region ?_
      refine WL.u rfl rfl (Wt.plain rfl) (Ex.move rfl) ?_
      refine WL.next ?_
      refine WC.cond rfl (fun hc9 => ?_) (fun hc9 => ?_)
      · have hc9' := hc9; try simp only [decide_eq_true_eq, decide_eq_false_iff_not, Bool.not_eq_true', Bool.not_eq_false', Bool.not_eq_true, Bool.not_eq_false] at hc9'
        refine WC.seq ?_
        refine WC.region ?_
        refine WL.u rfl rfl (Wt.plain rfl) (Ex.move rfl) ?_
        refine WL.u rfl rfl (Wt.plain rfl) (Ex.concat rfl rfl (by (try simp only [List.length_append, List.length_cons, List.length_nil]); omega)) ?_
        refine WL.u rfl rfl (Wt.plain rfl) (Ex.move rfl) ?_
        refine WL.lit Try.underlying30 ty5 rfl rfl rfl rfl rfl rfl rfl (Wt.plain rfl) hH (fun b101 wn hb101 hk101 hH => ?_)
        have ho101 := Own.bt1 (stepsS i (s, f && decide (s = 124))).1
        refine WL.u rfl rfl (Wt.plain rfl) (Ex.bytesStr Try.underlying30 Try.underlying5 Try.underlying9 rfl (ho101.slAt hH 0 rfl)) ?_
        refine WL.u rfl rfl (Wt.plain rfl) (Ex.concat rfl rfl (by (try simp only [List.length_append, List.length_cons, List.length_nil]); omega)) ?_
        refine WL.u rfl rfl (Wt.plain rfl) (Ex.move rfl) ?_
        refine WL.u rfl rfl (Wt.plain rfl) (Ex.concat rfl rfl (by (try simp only [List.length_append, List.length_cons, List.length_nil]); omega)) ?_
        refine WL.u rfl rfl (Wt.plain rfl) (Ex.concat rfl rfl (by (try simp only [List.length_append, List.length_cons, List.length_nil]); omega)) ?_
        refine WL.u rfl rfl (Wt.plain rfl) (Ex.assign rfl) ?_
        refine WL.next ?_
        refine WC.ret ?_
        refine WN.retThen ?_
        refine WN.retBlock ?_
        refine WN.retThen ?_
        refine WN.body1 rfl rfl ?_
        exact ⟨by rw [tidyS, if_pos hc9] <;> rfl, hH.keep⟩
      have hc9' := hc9; try simp only [decide_eq_true_eq, decide_eq_false_iff_not, Bool.not_eq_true', Bool.not_eq_false', Bool.not_eq_true, Bool.not_eq_false] at hc9'
      refine WC.skip ?_
      refine WN.next ?_
      refine WC.seq ?_
      refine WC.region ?_
      refine WL.u rfl rfl (Wt.plain rfl) (Ex.move rfl) ?_
      refine WL.u rfl rfl (Wt.plain rfl) (Ex.concat rfl rfl (by (try simp only [List.length_append, List.length_cons, List.length_nil]); omega)) ?_
      refine WL.u rfl rfl (Wt.plain rfl) (Ex.move rfl) ?_
      refine WL.lit Try.underlying30 ty5 rfl rfl rfl rfl rfl rfl rfl (Wt.plain rfl) hH (fun b110 wn hb110 hk110 hH => ?_)
      have ho110 := Own.bt1 (stepsS i (s, f && decide (s = 124))).1
      refine WL.u rfl rfl (Wt.plain rfl) (Ex.bytesStr Try.underlying30 Try.underlying5 Try.underlying9 rfl (ho110.slAt hH 0 rfl)) ?_
      refine WL.u rfl rfl (Wt.plain rfl) (Ex.concat rfl rfl (by (try simp only [List.length_append, List.length_cons, List.length_nil]); omega)) ?_
      refine WL.u rfl rfl (Wt.plain rfl) (Ex.move rfl) ?_
      refine WL.u rfl rfl (Wt.plain rfl) (Ex.concat rfl rfl (by (try simp only [List.length_append, List.length_cons, List.length_nil]); omega)) ?_
      refine WL.u rfl rfl (Wt.plain rfl) (Ex.concat rfl rfl (by (try simp only [List.length_append, List.length_cons, List.length_nil]); omega)) ?_
      refine WL.u rfl rfl (Wt.plain rfl) (Ex.assign rfl) ?_
      refine WL.next ?_
      refine WC.ret ?_
      refine WN.retBlock ?_
      refine WN.retThen ?_
      refine WN.body1 rfl rfl ?_
      exact ⟨by rw [tidyS, if_neg (by rw [hc9]; decide)] <;> rfl, hH.keep⟩
    have hx0 : false = (f && decide (s = 124)) := by rw [hg15_1]; rfl
    refine WL.pass rfl rfl (Wt.guard' rfl rfl rfl hg15_1 rfl) ?_
    refine WL.pass rfl rfl (Wt.guard' rfl rfl rfl hg15_1 rfl) ?_
    refine WL.u rfl rfl (Wt.plain rfl) (Ex.pickF rfl hg15_1 rfl) ?_
    refine WL.u rfl rfl (Wt.plain rfl) (Ex.assign rfl) ?_
    refine WL.next ?_
    refine WC.seq ?_
    refine WC.seq ?_
    refine WC.region ?_
    refine WL.u rfl rfl (Wt.plain rfl) (Ex.assign rfl) ?_
    refine WL.next ?_
    refine WC.block ?_
    refine WC.loop (ι := Nat) (fun i => [(1, vint k), (9, .int .u8 (stepsS i (s, f && decide (s = 124))).1.toNat), (10, vstr (tidyS a k f o)), (11, vstr (tidyS c k f o)), (12, .bool (stepsS i (s, f && decide (s = 124))).2), (13, vint i)]) (fun i wn => Hp [] w wn [] ∧ i ≤ k) (fun i => k - i) (0) (by exact ⟨rfl, rfl, rfl, rfl, congrArg (fun x : Bool => some (Value.bool x)) hx0, rfl, trivial⟩) ?_ ?_
    · exact ⟨hH.first0, Nat.zero_le _⟩
    rintro i wn ⟨hH, hi⟩
    intro mu0 hmu; try dsimp only at hmu
    show WC _ _ _ _ [(1, vint k), (9, .int .u8 (stepsS i (s, f && decide (s = 124))).1.toNat), (10, vstr (tidyS a k f o)), (11, vstr (tidyS c k f o)), (12, .bool (stepsS i (s, f && decide (s = 124))).2), (13, vint i)] _
    refine WC.seq ?_
    refine WC.seq ?_
    refine WC.region ?_
    refine WL.u rfl rfl (Wt.plain rfl) (Ex.move rfl) ?_
    refine WL.u rfl rfl (Wt.plain rfl) (Ex.move rfl) ?_
    refine WL.u rfl rfl (Wt.plain rfl) (Ex.lss rfl rfl) ?_
    refine WL.next ?_
    refine WC.cond rfl (fun hc7 => ?_) (fun hc7 => ?_)
    · have hc7' := hc7; try simp only [decide_eq_true_eq, decide_eq_false_iff_not, Bool.not_eq_true', Bool.not_eq_false', Bool.not_eq_true, Bool.not_eq_false] at hc7'
      refine WC.skip ?_
      refine WN.next ?_
      refine WC.seq ?_
      refine WC.block ?_
      refine WC.seq ?_
      refine WC.region ?_
      refine WL.u rfl rfl (Wt.plain rfl) (Ex.move rfl) ?_
      refine WL.u rfl rfl (Wt.plain rfl) (Ex.eql rfl rfl) ?_
      refine WL.next ?_
      refine WC.cond rfl (fun hc8 => ?_) (fun hc8 => ?_)
      · have h124 : (stepsS i (s, f && decide (s = 124))).1 = 124 := ubT 124 (by decide) hc8
        refine WC.region ?_
        refine WL.u rfl rfl (Wt.plain rfl) (Ex.assign rfl) ?_
        refine WL.last ?_
        refine WN.normalBlock ?_
        refine WN.next ?_
        refine WC.region ?_
        refine WL.u rfl rfl (Wt.plain rfl) (Ex.move rfl) ?_
        refine WL.u rfl rfl (Wt.plain rfl) (Ex.add rfl rfl (by omega)) ?_
        refine WL.u rfl rfl (Wt.plain rfl) (Ex.assign rfl) ?_
        refine WL.last ?_
        refine WN.round (i + 1) (by rw [stepsS_T h124]; exact ⟨rfl, rfl, rfl, rfl, rfl, rfl, trivial⟩) ?_ ?_
        · exact ⟨hH, by omega⟩
        · (try dsimp only); omega
      have hn124 : (stepsS i (s, f && decide (s = 124))).1 ≠ 124 := ubF 124 (by decide) hc8
      refine WC.seq ?_
      refine WC.region ?_
      refine WL.u rfl rfl (Wt.plain rfl) (Ex.assign rfl) ?_
      refine WL.next ?_
      refine WC.region ?_
      refine WL.u rfl rfl (Wt.plain rfl) (Ex.move rfl) ?_
      refine WL.u rfl rfl (Wt.plain rfl) (Ex.not rfl) ?_
      refine WL.u rfl rfl (Wt.plain rfl) (Ex.assign rfl) ?_
      refine WL.last ?_
      refine WN.normalBlock ?_
      refine WN.next ?_
      refine WC.region ?_
      refine WL.u rfl rfl (Wt.plain rfl) (Ex.move rfl) ?_
      refine WL.u rfl rfl (Wt.plain rfl) (Ex.add rfl rfl (by omega)) ?_
      refine WL.u rfl rfl (Wt.plain rfl) (Ex.assign rfl) ?_
      refine WL.last ?_
      refine WN.round (i + 1) (by rw [stepsS_F hn124]; exact ⟨rfl, rfl, rfl, rfl, rfl, rfl, trivial⟩) ?_ ?_
      · exact ⟨hH, by omega⟩
      · (try dsimp only); omega
    have hc7' := hc7; try simp only [decide_eq_true_eq, decide_eq_false_iff_not, Bool.not_eq_true', Bool.not_eq_false', Bool.not_eq_true, Bool.not_eq_false] at hc7'
    obtain rfl : i = k := by omega
    refine WC.exit ?_
    refine WN.exitThen ?_
    refine WN.exitThen ?_
    refine WN.exitHere ?_
    refine WN.next ?_
    refine WC.seq ?_
    refine WC.seq ?_
    refine WC.region ?_
    refine WL.u rfl rfl (Wt.plain rfl) (Ex.move rfl) ?_
    refine WL.next ?_
    refine WC.cond rfl (fun hc9 => ?_) (fun hc9 => ?_)
    · have hc9' := hc9; try simp only [decide_eq_true_eq, decide_eq_false_iff_not, Bool.not_eq_true', Bool.not_eq_false', Bool.not_eq_true, Bool.not_eq_false] at hc9'
      refine WC.seq ?_
      refine WC.region ?_
      refine WL.u rfl rfl (Wt.plain rfl) (Ex.move rfl) ?_
      refine WL.u rfl rfl (Wt.plain rfl) (Ex.concat rfl rfl (by (try simp only [List.length_append, List.length_cons, List.length_nil]); omega)) ?_
      refine WL.u rfl rfl (Wt.plain rfl) (Ex.move rfl) ?_
      refine WL.lit Try.underlying30 ty5 rfl rfl rfl rfl rfl rfl rfl (Wt.plain rfl) hH (fun b101 wn hb101 hk101 hH => ?_)
      have ho101 := Own.bt1 (stepsS i (s, f && decide (s = 124))).1
      refine WL.u rfl rfl (Wt.plain rfl) (Ex.bytesStr Try.underlying30 Try.underlying5 Try.underlying9 rfl (ho101.slAt hH 0 rfl)) ?_
      refine WL.u rfl rfl (Wt.plain rfl) (Ex.concat rfl rfl (by (try simp only [List.length_append, List.length_cons, List.length_nil]); omega)) ?_
      refine WL.u rfl rfl (Wt.plain rfl) (Ex.move rfl) ?_
      refine WL.u rfl rfl (Wt.plain rfl) (Ex.concat rfl rfl (by (try simp only [List.length_append, List.length_cons, List.length_nil]); omega)) ?_
      refine WL.u rfl rfl (Wt.plain rfl) (Ex.concat rfl rfl (by (try simp only [List.length_append, List.length_cons, List.length_nil]); omega)) ?_
      refine WL.u rfl rfl (Wt.plain rfl) (Ex.assign rfl) ?_
      refine WL.next ?_
      refine WC.ret ?_
      refine WN.retThen ?_
      refine WN.retBlock ?_
      refine WN.retThen ?_
      refine WN.body1 rfl rfl ?_
      exact ⟨by rw [tidyS, if_pos hc9] <;> rfl, hH.keep⟩
    have hc9' := hc9; try simp only [decide_eq_true_eq, decide_eq_false_iff_not, Bool.not_eq_true', Bool.not_eq_false', Bool.not_eq_true, Bool.not_eq_false] at hc9'
    refine WC.skip ?_
    refine WN.next ?_
    refine WC.seq ?_
    refine WC.region ?_
    refine WL.u rfl rfl (Wt.plain rfl) (Ex.move rfl) ?_
    refine WL.u rfl rfl (Wt.plain rfl) (Ex.concat rfl rfl (by (try simp only [List.length_append, List.length_cons, List.length_nil]); omega)) ?_
    refine WL.u rfl rfl (Wt.plain rfl) (Ex.move rfl) ?_
    refine WL.lit Try.underlying30 ty5 rfl rfl rfl rfl rfl rfl rfl (Wt.plain rfl) hH (fun b110 wn hb110 hk110 hH => ?_)
    have ho110 := Own.bt1 (stepsS i (s, f && decide (s = 124))).1
    refine WL.u rfl rfl (Wt.plain rfl) (Ex.bytesStr Try.underlying30 Try.underlying5 Try.underlying9 rfl (ho110.slAt hH 0 rfl)) ?_
    refine WL.u rfl rfl (Wt.plain rfl) (Ex.concat rfl rfl (by (try simp only [List.length_append, List.length_cons, List.length_nil]); omega)) ?_
    refine WL.u rfl rfl (Wt.plain rfl) (Ex.move rfl) ?_
    refine WL.u rfl rfl (Wt.plain rfl) (Ex.concat rfl rfl (by (try simp only [List.length_append, List.length_cons, List.length_nil]); omega)) ?_
    refine WL.u rfl rfl (Wt.plain rfl) (Ex.concat rfl rfl (by (try simp only [List.length_append, List.length_cons, List.length_nil]); omega)) ?_
    refine WL.u rfl rfl (Wt.plain rfl) (Ex.assign rfl) ?_
    refine WL.next ?_
    refine WC.ret ?_
    refine WN.retBlock ?_
    refine WN.retThen ?_
    refine WN.body1 rfl rfl ?_
    exact ⟨by rw [tidyS, if_neg (by rw [hc9]; decide)] <;> rfl, hH.keep⟩
  exfalso
  rcases hB with h | h
  · exact (show s ≠ 124 from ubF 124 (by decide) hc5) h
  · exact (show s ≠ 45 from ubF 45 (by decide) hc6) h


theorem stidyT (lo : Nat) : ∀ (t : Tm), Wf t → lenT t ≤ 100000 → ∀ (w : World) (q : Qd) (k : Nat) (f o : Bool), k < 4 → TQ lo w t q → Fn Try.prog 32 [rQd.val q, vint k, .bool f, .bool o] w (fun v w3 => v = vstr (tidyS t k f o) ∧ Keep [] w w3)
  | .leaf c, h, _, w, q, k, f, o, hk, ⟨hd, e⟩ => by
    cases h with
    | leaf hc => subst e; exact stidyLeaf c hd k f o w hc hk
  | .una s a, h, hl, w, q, k, f, o, hk, hT => by
    cases h with
    | una hs ha =>
      obtain ⟨b, cap, qa, e, hlo, hsl, hTa⟩ := hT
      subst e
      simp only [lenT] at hl
      exact stidyUna lo b cap _ _ s a qa k f o w (fun w2 q2 k2 f2 o2 hk2 h => stidyT lo a ha (by omega) w2 q2 k2 f2 o2 hk2 h) hs hk hsl hTa
  | .bin s a c, h, hl, w, q, k, f, o, hk, hT => by
    cases h with
    | bin hs ha hc =>
      obtain ⟨b, cap, qa, qc, e, hlo, hsl, hTa, hTc⟩ := hT
      subst e
      simp only [lenT] at hl
      exact stidyBin lo b cap _ _ s a c qa qc k f o w (fun w2 q2 k2 f2 o2 hk2 h => stidyT lo a ha (by omega) w2 q2 k2 f2 o2 hk2 h) (fun w2 q2 k2 f2 o2 hk2 h => stidyT lo c hc (by omega) w2 q2 k2 f2 o2 hk2 h) (isB_or hs) hk hsl hTa hTc (by omega) (by omega)

end Go.Proofs.Ytamkbmhgclpidaa

/- The laws: tidy terms, terms of grids, the same terms. -/
namespace Go.Proofs.Ytamkbmhgclpidaa
set_option maxRecDepth 100000
set_option linter.unusedSimpArgs false
set_option linter.unusedVariables false
open Go Go.RowKit
def rowTm : Str → Tm
  | [] => .leaf 46
  | [c] => .leaf c
  | c :: d :: r => .bin 124 (.leaf c) (rowTm (d :: r))
def gridTm : Grid → Tm
  | [] => .leaf 46
  | [r] => rowTm r
  | r :: s :: g => .bin 45 (rowTm r) (gridTm (s :: g))
theorem rowTm_ok : ∀ (r : Str), 0 < r.length → (∀ c ∈ r, okL c = true) → Td (rowTm r) ∧ textT (rowTm r) = rowT r ∧ sz (rowTm r) = (1, r.length) ∧ gridT (rowTm r) = [r] ∧ (r.length ≤ 5 → valid (rowTm r) = true)
  | [], h, _ => by simp at h
  | [c], _, h => ⟨.leaf (h c (by simp)), rfl, rfl, rfl, fun _ => rfl⟩
  | c :: d :: r, _, h => by
    obtain ⟨k1, k2, k3, k4, k5⟩ := rowTm_ok (d :: r) (by simp) (fun x hx => h x (List.mem_cons_of_mem _ hx))
    refine ⟨.bin (.inl rfl) (.leaf (h c (by simp))) k1, by rw [rowTm, textT, k2]; rfl, ?_, ?_, fun h5 => ?_⟩
    · rw [rowTm, sz_b, k3]; simp [sz]; omega
    · rw [rowTm, g_b, k4]; rfl
    · have h5' : (d :: r).length ≤ 5 := by simp only [List.length_cons] at h5 ⊢; omega
      rw [rowTm]
      exact valid_mkb rfl (k5 h5') (by rw [k3]; rfl) (by rw [k3]; simp only [List.length_cons, sz] at h5 ⊢; omega)
theorem gridTm_ok {m : Nat} : ∀ (g : Grid), 0 < g.length → (∀ r ∈ g, r.length = m ∧ ∀ c ∈ r, okL c = true) → 1 ≤ m → m ≤ 5 → Td (gridTm g) ∧ textT (gridTm g) = writeT g ∧ sz (gridTm g) = (g.length, m) ∧ gridT (gridTm g) = g ∧ (g.length ≤ 5 → valid (gridTm g) = true)
  | [], h, _, _, _ => by simp at h
  | [r], _, h, h1, h5 => by
    obtain ⟨hl, hc⟩ := h r (by simp)
    obtain ⟨k1, k2, k3, k4, k5⟩ := rowTm_ok r (by omega) hc
    exact ⟨k1, k2, by rw [gridTm, k3, hl]; rfl, k4, fun _ => k5 (by omega)⟩
  | r :: s :: g, _, h, h1, h5 => by
    obtain ⟨hl, hc⟩ := h r (by simp)
    obtain ⟨k1, k2, k3, k4, k5⟩ := rowTm_ok r (by omega) hc
    obtain ⟨j1, j2, j3, j4, j5⟩ := gridTm_ok (m := m) (s :: g) (by simp) (fun x hx => h x (List.mem_cons_of_mem _ hx)) h1 h5
    refine ⟨.bin (.inr rfl) k1 j1, by rw [gridTm, textT, k2, j2]; rfl, ?_, ?_, fun h6 => ?_⟩
    · rw [gridTm, sz_u, k3, j3, hl]; simp only [List.length_cons]; exact Prod.ext (by omega) rfl
    · rw [gridTm, g_u, k4, j4]; rfl
    · rw [gridTm]
      exact valid_mku (k5 (by omega)) (j5 (by simp only [List.length_cons] at h6 ⊢; omega)) (by rw [k3, j3, hl]) (by rw [k3, j3]; simp only [List.length_cons] at h6 ⊢; omega)
theorem GridOk.cells {g : Grid} (h : GridOk g) : ∀ r ∈ g, r.length = nC g ∧ ∀ c ∈ r, okL c = true := fun r hr => by
  obtain ⟨i, hi, rfl⟩ := List.getElem_of_mem hr
  have e : g.getD i [] = g[i] := by rw [List.getD_eq_getElem?_getD, List.getElem?_eq_getElem hi, Option.getD_some]
  have h1 := h.row i hi
  rw [e] at h1
  refine ⟨h1, fun c hc => ?_⟩
  obtain ⟨j, hj, rfl⟩ := List.getElem_of_mem hc
  have h2 := h.ok i hi j (by rw [← h1]; exact hj)
  rw [e, List.getD_eq_getElem?_getD, List.getElem?_eq_getElem hj, Option.getD_some] at h2
  exact h2
theorem termOf_ex {g : Grid} (h : (termOf g).2 = true) : GridOk g ∧ (writeT g).length ≤ 60 ∧ termOf g = (writeT g, true) := by
  by_cases hc : gridIn g = true ∧ (writeT g).length ≤ 60
  · exact ⟨(gridOk_iff g).1 hc.1, hc.2, termOf_at hc.1 hc.2⟩
  · rw [termOf_not hc] at h; cases h
theorem writeT_term {g : Grid} (hG : GridOk g) (hl : (writeT g).length ≤ 60) : termGrid (writeT g) = (g, true) ∧ termTidy (writeT g) = (writeT g, true) := by
  obtain ⟨k1, k2, k3, k4, k5⟩ := gridTm_ok (m := nC g) g hG.n1 hG.cells hG.m1 hG.m5
  have ht := termT_text k1 (k5 hG.n5) (by rw [k2]; exact hl)
  rw [k2] at ht
  exact ⟨by rw [termGrid_at ht, k4], by rw [termTidy_at ht, tidy_td k1, k2]⟩

end Go.Proofs.Ytamkbmhgclpidaa
