/- The law: the same terms have the same pairs and rounds. -/
import Derived.Test.YtamkbmhgclpidaaTmF
import Derived.Test.YtamkbmhgclpidaaAsk
import Derived.Test.YtamkbmhgclpidaaJnRn
namespace Go.Proofs.Ytamkbmhgclpidaa
set_option maxRecDepth 100000
set_option linter.unusedSimpArgs false
set_option linter.unusedVariables false
open Go Go.RowKit
def termPairs (s : Str) : List Int × Bool := match termT s with
  | some t => (pairsI (gridT t), true)
  | none => ([], false)
def termRounds (s : Str) : Int × Bool := match termT s with
  | some t => (((rounds (gridT t)).length : Int), true)
  | none => (0, false)
theorem termPairs_at {s : Str} {t : Tm} (h : termT s = some t) : termPairs s = (pairsI (gridT t), true) := by rw [termPairs, h]
theorem termPairs_not {s : Str} (h : termT s = none) : termPairs s = ([], false) := by rw [termPairs, h]
theorem termRounds_at {s : Str} {t : Tm} (h : termT s = some t) : termRounds s = (((rounds (gridT t)).length : Int), true) := by rw [termRounds, h]
theorem termRounds_not {s : Str} (h : termT s = none) : termRounds s = (0, false) := by rw [termRounds, h]

theorem iTermPairs (s : Str) (w : World) (hs : s.length ≤ 1048577) : Fn Try.prog 8 [vstr s] w (fun v w1 => ∃ x, v = .tuple #[x, .bool (termPairs s).2] ∧ Keep [] w w1 ∧ New rInt 3 w w1 x (termPairs s).1) := by
  refine Fn.enter (n := 18) Try.func8 rfl rfl rfl ?_
  show WC _ _ _ _ [(0, vstr s)] _
  have hH := Hp.start [] w
  refine WC.seq ?_
  refine WC.region ?_
  refine WL.u rfl rfl (Wt.plain rfl) (Ex.assign rfl) ?_
  refine WL.u rfl rfl (Wt.plain rfl) (Ex.assign rfl) ?_
  refine WL.next ?_
  refine WC.seq ?_
  refine WC.region ?_
  refine WL.u rfl rfl (Wt.plain rfl) (Ex.move rfl) ?_
  refine WL.call callable21 rfl (Wt.plain rfl) rfl rfl (itermOf _ _ (by omega)) ?_
  rintro _ wn ⟨p9, x9, rfl, hC, hT9⟩; have hHa9 := hH; have hCa9 := hC; replace hH := hH.call hC
  refine WL.u rfl rfl (Wt.plain rfl) (Ex.move rfl) ?_
  refine WL.u rfl rfl (Wt.plain rfl) (Ex.extract rfl rfl) ?_
  refine WL.u rfl rfl (Wt.plain rfl) (Ex.extract rfl rfl) ?_
  refine WL.u rfl rfl (Wt.plain rfl) (Ex.extract rfl rfl) ?_
  refine WL.u rfl rfl (Wt.plain rfl) (Ex.assign rfl) ?_
  refine WL.u rfl rfl (Wt.plain rfl) (Ex.assign rfl) ?_
  refine WL.u rfl rfl (Wt.plain rfl) (Ex.assign rfl) ?_
  refine WL.next ?_
  refine WC.seq ?_
  refine WC.seq ?_
  refine WC.region ?_
  refine WL.u rfl rfl (Wt.plain rfl) (Ex.move rfl) ?_
  refine WL.u rfl rfl (Wt.plain rfl) (Ex.not rfl) ?_
  refine WL.next ?_
  refine WC.cond rfl (fun hc1 => ?_) (fun hc1 => ?_)
  · have htn : termT s = none := by simpa using hc1
    refine WC.seq ?_
    refine WC.region ?_
    refine WL.lit0 Try.underlying22 ty3 rfl (Wt.plain rfl) hH (fun b15 wn hb15 hk15 hH => ?_)
    have ho15 := Own.nil rInt
    refine WL.u rfl rfl (Wt.plain rfl) (Ex.assign rfl) ?_
    refine WL.u rfl rfl (Wt.plain rfl) (Ex.assign rfl) ?_
    refine WL.next ?_
    refine WC.ret ?_
    refine WN.retThen ?_
    refine WN.body2 rfl rfl rfl ?_
    have e := termPairs_not htn
    exact ⟨_, by rw [e] <;> rfl, hH.keep, by rw [e]; exact New.of hH ho15 (hH.base 0 rfl)⟩
  have hts : (termT s).isSome = true := by simpa using hc1
  obtain ⟨t, ht⟩ := Option.isSome_iff_exists.1 hts
  obtain ⟨hW, hv, hN, _⟩ := hT9 t ht
  obtain ⟨hG, _, _⟩ := gridT_ok hW hv
  obtain ⟨b9, cap9, cur9, rfl, hge9, hbb9, ho9⟩ := hN.own
  have hsl := ho9.sl0 hbb9
  refine WC.skip ?_
  refine WN.next ?_
  refine WC.seq ?_
  refine WC.region ?_
  refine WL.u rfl rfl (Wt.plain rfl) (Ex.move rfl) ?_
  refine WL.call callable22 rfl (Wt.plain rfl) rfl rfl (ipairsOf (gridT t) _ _ _ hsl hG) ?_
  rintro _ wn ⟨hC, hN⟩; obtain ⟨b17, cap17, cur17, rfl, hge17, hbb17, ho17⟩ := hN.own; replace hH := hH.push hC hge17 hbb17; clear hC hN
  refine WL.u rfl rfl (Wt.plain rfl) (Ex.assign rfl) ?_
  refine WL.u rfl rfl (Wt.plain rfl) (Ex.assign rfl) ?_
  refine WL.next ?_
  refine WC.ret ?_
  refine WN.body2 rfl rfl rfl ?_
  have e := termPairs_at ht
  exact ⟨_, by rw [e] <;> rfl, hH.keep, by rw [e]; exact New.of hH ho17 (hH.base 0 rfl)⟩

theorem iTermRounds (s : Str) (w : World) (hs : s.length ≤ 1048577) : Fn Try.prog 13 [vstr s] w (fun v w1 => v = .tuple #[vint (termRounds s).1, .bool (termRounds s).2] ∧ Keep [] w w1) := by
  refine Fn.enter (n := 17) Try.func13 rfl rfl rfl ?_
  show WC _ _ _ _ [(0, vstr s)] _
  have hH := Hp.start [] w
  refine WC.seq ?_
  refine WC.region ?_
  refine WL.u rfl rfl (Wt.plain rfl) (Ex.assign rfl) ?_
  refine WL.u rfl rfl (Wt.plain rfl) (Ex.assign rfl) ?_
  refine WL.next ?_
  refine WC.seq ?_
  refine WC.region ?_
  refine WL.u rfl rfl (Wt.plain rfl) (Ex.move rfl) ?_
  refine WL.call callable21 rfl (Wt.plain rfl) rfl rfl (itermOf _ _ (by omega)) ?_
  rintro _ wn ⟨p9, x9, rfl, hC, hT9⟩; have hHa9 := hH; have hCa9 := hC; replace hH := hH.call hC
  refine WL.u rfl rfl (Wt.plain rfl) (Ex.move rfl) ?_
  refine WL.u rfl rfl (Wt.plain rfl) (Ex.extract rfl rfl) ?_
  refine WL.u rfl rfl (Wt.plain rfl) (Ex.extract rfl rfl) ?_
  refine WL.u rfl rfl (Wt.plain rfl) (Ex.extract rfl rfl) ?_
  refine WL.u rfl rfl (Wt.plain rfl) (Ex.assign rfl) ?_
  refine WL.u rfl rfl (Wt.plain rfl) (Ex.assign rfl) ?_
  refine WL.u rfl rfl (Wt.plain rfl) (Ex.assign rfl) ?_
  refine WL.next ?_
  refine WC.seq ?_
  refine WC.seq ?_
  refine WC.region ?_
  refine WL.u rfl rfl (Wt.plain rfl) (Ex.move rfl) ?_
  refine WL.u rfl rfl (Wt.plain rfl) (Ex.not rfl) ?_
  refine WL.next ?_
  refine WC.cond rfl (fun hc1 => ?_) (fun hc1 => ?_)
  · have htn : termT s = none := by simpa using hc1
    refine WC.seq ?_
    refine WC.region ?_
    refine WL.u rfl rfl (Wt.plain rfl) (Ex.assign rfl) ?_
    refine WL.u rfl rfl (Wt.plain rfl) (Ex.assign rfl) ?_
    refine WL.next ?_
    refine WC.ret ?_
    refine WN.retThen ?_
    refine WN.body2 rfl rfl rfl ?_
    exact ⟨by rw [termRounds_not htn] <;> rfl, hH.keep⟩
  have hts : (termT s).isSome = true := by simpa using hc1
  obtain ⟨t, ht⟩ := Option.isSome_iff_exists.1 hts
  obtain ⟨hW, hv, hN, _⟩ := hT9 t ht
  obtain ⟨hG, _, _⟩ := gridT_ok hW hv
  obtain ⟨b9, cap9, cur9, rfl, hge9, hbb9, ho9⟩ := hN.own
  have hsl := ho9.sl0 hbb9
  refine WC.skip ?_
  refine WN.next ?_
  refine WC.seq ?_
  refine WC.region ?_
  refine WL.u rfl rfl (Wt.plain rfl) (Ex.move rfl) ?_
  refine WL.call callable23 rfl (Wt.plain rfl) rfl rfl (iroundMany (gridT t) _ _ _ hsl hG) ?_
  rintro _ wn ⟨rfl, hC⟩; replace hH := hH.call hC; clear hC
  refine WL.u rfl rfl (Wt.plain rfl) (Ex.assign rfl) ?_
  refine WL.u rfl rfl (Wt.plain rfl) (Ex.assign rfl) ?_
  refine WL.next ?_
  refine WC.ret ?_
  refine WN.body2 rfl rfl rfl ?_
  exact ⟨by rw [termRounds_at ht] <;> rfl, hH.keep⟩

end Go.Proofs.Ytamkbmhgclpidaa
