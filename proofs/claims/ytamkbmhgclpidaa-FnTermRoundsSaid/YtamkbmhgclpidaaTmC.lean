/- Terms of the reference: how they are read, their grids. -/
import Derived.Test.YtamkbmhgclpidaaTmB
import Derived.Test.YtamkbmhgclpidaaQ4
namespace Go.Proofs.Ytamkbmhgclpidaa
set_option maxRecDepth 100000
set_option linter.unusedSimpArgs false
set_option linter.unusedVariables false
open Go Go.RowKit

set_option maxHeartbeats 2000000 in
theorem sl11Read1 (s : Str) (f p : Nat) (w : World) (ih : ∀ (p : Nat) (w2 : World), p ≤ s.length → s.length < p + f → Fn Try.prog 31 [vstr s, vint p] w2 (fun v w3 => ∃ q e, v = .tuple #[rQd.val q, vint (e : Nat)] ∧ Keep [] w2 w3 ∧ RdQ w2.heap.size w3 (rdV s f p) q e)) (h60 : s.length ≤ 60) (hpl : p ≤ s.length) (hf : s.length < p + (f + 1)) : Fn Try.prog 31 [vstr s, vint p] w (fun v w1 => ∃ q e, v = .tuple #[rQd.val q, vint (e : Nat)] ∧ Keep [] w w1 ∧ RdQ w.heap.size w1 (rdV s (f + 1) p) q e) := by
  refine Fn.enter (n := 173) Try.func31 rfl rfl rfl ?_
  show WC _ _ _ _ [(0, vstr s), (1, vint p)] _
  have hH := Hp.start [] w
  refine WC.seq ?_
  refine WC.region ?_
  refine WL.alloc ty53 rfl rfl (Wt.plain rfl) hH (fun b4 wn hb4 hk4 hH => ?_)
  refine WL.u rfl rfl (Wt.plain rfl) (Ex.assign rfl) ?_
  refine WL.next ?_
  refine WC.seq ?_
  refine WC.region ?_
  refine WL.lit0 Try.underlying51 ty53 rfl (Wt.plain rfl) hH (fun b16 wn hb16 hk16 hH => ?_)
  refine WL.u rfl rfl (Wt.plain rfl) (Ex.buildS bd53 rfl rfl rfl rfl rfl) ?_
  refine WL.alloc ty53 rfl rfl (Wt.plain rfl) hH (fun b6 wn hb6 hk6 hH => ?_)
  refine WL.store4 ty53 rfl rfl rfl rfl rfl rfl (Wt.plain rfl) hH (fun wn hk hH => ?_)
  refine WL.next ?_
  refine WC.seq ?_
  refine WC.seq ?_
  refine WC.region ?_
  refine WL.u rfl rfl (Wt.plain rfl) (Ex.move rfl) ?_
  refine WL.u rfl rfl (Wt.plain rfl) (Ex.move rfl) ?_
  refine WL.u rfl rfl (Wt.plain rfl) (Ex.lenStr Try.underlying9 rfl) ?_
  refine WL.u rfl rfl (Wt.plain rfl) (Ex.geq rfl rfl) ?_
  refine WL.next ?_
  refine WC.cond rfl (fun hc1 => ?_) (fun hc1 => ?_)
  · have hc1' := hc1; try simp only [decide_eq_true_eq, decide_eq_false_iff_not, Bool.not_eq_true', Bool.not_eq_false', Bool.not_eq_true, Bool.not_eq_false] at hc1'
    refine WC.seq ?_
    refine WC.region ?_
    refine WL.u rfl rfl (Wt.plain rfl) (Ex.loadHp4 Try.underlying53 ty53 rfl hH) ?_
    replace hH := hH.f2
    refine WL.store4 ty53 rfl rfl rfl rfl rfl rfl (Wt.plain rfl) hH (fun wn hk hH => ?_)
    refine WL.u rfl rfl (Wt.plain rfl) (Ex.assign rfl) ?_
    refine WL.next ?_
    refine WC.ret ?_
    refine WN.retThen ?_
    refine WN.cell24 rfl rfl rfl Try.underlying53 ty53 hH ?_
    have hrn : rdV s (f + 1) p = none := rdV_no (rdI_end (by omega))
    exact ⟨(46, 1, 1, (some ⟨b16, 0, none⟩, 0, 0)), 0, rfl, hH.keep, by rw [hrn]; exact rfl⟩
  have hc1' := hc1; try simp only [decide_eq_true_eq, decide_eq_false_iff_not, Bool.not_eq_true', Bool.not_eq_false', Bool.not_eq_true, Bool.not_eq_false] at hc1'
  have hp : p < s.length := by omega
  have hcl := u8lt (s.getD p 0)
  refine WC.skip ?_
  refine WN.next ?_
  refine WC.seq ?_
  refine WC.region ?_
  refine WL.u rfl rfl (Wt.plain rfl) (Ex.move rfl) ?_
  refine WL.u rfl rfl (Wt.plain rfl) (Ex.move rfl) ?_
  refine WL.u rfl rfl (Wt.plain rfl) (Ex.indexStr Try.underlying9 rfl rfl (by omega)) ?_
  refine WL.u rfl rfl (Wt.plain rfl) (Ex.assign rfl) ?_
  refine WL.next ?_
  refine WC.seq ?_
  refine WC.seq ?_
  refine WC.region ?_
  refine WL.u rfl rfl (Wt.plain rfl) (Ex.move rfl) ?_
  refine WL.call callable42 rfl (Wt.plain rfl) rfl rfl (sl1Letter _ _) ?_
  rintro _ _ ⟨rfl, hw⟩; obtain rfl := hw.symm
  refine WL.next ?_
  refine WC.cond rfl (fun hc2 => ?_) (fun hc2 => ?_)
  · have hc2' := hc2; try simp only [decide_eq_true_eq, decide_eq_false_iff_not, Bool.not_eq_true', Bool.not_eq_false', Bool.not_eq_true, Bool.not_eq_false] at hc2'
    refine WC.seq ?_
    refine WC.region ?_
    refine WL.u rfl rfl (Wt.plain rfl) (Ex.move rfl) ?_
    refine WL.lit0 Try.underlying51 ty53 rfl (Wt.plain rfl) hH (fun b29 wn hb29 hk29 hH => ?_)
    refine WL.u rfl rfl (Wt.plain rfl) (Ex.buildS bd53 rfl rfl rfl rfl rfl) ?_
    refine WL.u rfl rfl (Wt.plain rfl) (Ex.move rfl) ?_
    refine WL.u rfl rfl (Wt.plain rfl) (Ex.add rfl rfl (by omega)) ?_
    replace hH := hH.f3
    refine WL.store4 ty53 rfl rfl rfl rfl rfl rfl (Wt.plain rfl) hH (fun wn hk hH => ?_)
    refine WL.u rfl rfl (Wt.plain rfl) (Ex.assign rfl) ?_
    refine WL.next ?_
    refine WC.ret ?_
    refine WN.retThen ?_
    refine WN.cell24 rfl rfl rfl Try.underlying53 ty53 hH ?_
    exact ⟨(s.getD p 0, 1, 1, (some ⟨b29, 0, none⟩, 0, 0)), p + 1, rfl, hH.keep, by rw [rdV_at (rdI_leaf hp hc2) rfl]; exact ⟨rfl, by omega, _, rfl⟩⟩
  have hc2' := hc2; try simp only [decide_eq_true_eq, decide_eq_false_iff_not, Bool.not_eq_true', Bool.not_eq_false', Bool.not_eq_true, Bool.not_eq_false] at hc2'
  refine WC.skip ?_
  refine WN.next ?_
  refine WC.seq ?_
  refine WC.seq ?_
  refine WC.region ?_
  refine WL.u rfl rfl (Wt.plain rfl) (Ex.move rfl) ?_
  refine WL.u rfl rfl (Wt.plain rfl) (Ex.eql rfl rfl) ?_
  refine WL.u rfl rfl (Wt.plain rfl) (Ex.move rfl) ?_
  refine WL.split (t := 35) rfl (fun hg7_2 => ?_) (fun hg7_2 => ?_)
  · have hg7_2' := hg7_2; try simp only [decide_eq_true_eq, decide_eq_false_iff_not, Bool.not_eq_true', Bool.not_eq_false', Bool.not_eq_true, Bool.not_eq_false] at hg7_2'
    have hu : isU (s.getD p 0) = true := by rw [show s.getD p 0 = 62 from ubT 62 (by decide) hg7_2]; rfl
    refine WL.pass rfl rfl (Wt.guard' rfl rfl rfl hg7_2 rfl) ?_
    refine WL.pass rfl rfl (Wt.guard' rfl rfl rfl hg7_2 rfl) ?_
    refine WL.u rfl rfl (Wt.plain rfl) (Ex.pickT rfl hg7_2 rfl) ?_
    refine WL.u rfl rfl (Wt.plain rfl) (Ex.move rfl) ?_
    refine WL.pass rfl rfl (Wt.guard' rfl rfl rfl rfl rfl) ?_
    refine WL.pass rfl rfl (Wt.guard' rfl rfl rfl rfl rfl) ?_
    refine WL.u rfl rfl (Wt.plain rfl) (Ex.pickT rfl rfl rfl) ?_
    refine WL.next ?_
    refine WC.condT rfl rfl ?_
    refine WC.seq ?_
    refine WC.region ?_
    refine WL.u rfl rfl (Wt.plain rfl) (Ex.move rfl) ?_
    refine WL.u rfl rfl (Wt.plain rfl) (Ex.move rfl) ?_
    refine WL.u rfl rfl (Wt.plain rfl) (Ex.add rfl rfl (by omega)) ?_
    have hl47 := hH.lt 2 rfl
    have hw47 := hH.keep.size
    refine WL.call callable31 rfl (Wt.plain rfl) rfl rfl (ih (p + 1) _ (by omega) (by omega)) ?_
    rintro _ wn ⟨q47, e47, rfl, hC, hR47⟩; obtain ⟨c47, n47, m47, a47, l47, k47⟩ := q47; replace hH := hH.call hC
    have hV := Keep.refl [b4] wn
    refine WL.u rfl rfl (Wt.plain rfl) (Ex.move rfl) ?_
    refine WL.u rfl rfl (Wt.plain rfl) (Ex.extract rfl rfl) ?_
    refine WL.u rfl rfl (Wt.plain rfl) (Ex.extract rfl rfl) ?_
    have hsV8 := hV.size
    refine WL.alloc ty53 rfl rfl (Wt.plain rfl) hH (fun b8 wn hb8 hk8 hH => ?_)
    replace hV := hV.trans (hk8.nil)
    refine WL.store4 ty53 rfl rfl rfl rfl rfl rfl (Wt.plain rfl) hH (fun wn hk hH => ?_)
    replace hV := hV.shr hk (by intro x hx; rw [List.mem_singleton.1 hx]; omega)
    refine WL.u rfl rfl (Wt.plain rfl) (Ex.assign rfl) ?_
    refine WL.next ?_
    refine WC.seq ?_
    refine WC.region ?_
    refine WL.u rfl rfl (Wt.plain rfl) (Ex.move rfl) ?_
    refine WL.u rfl rfl (Wt.plain rfl) (Ex.fieldAddr fd53_1 rfl) ?_
    refine WL.u rfl rfl (Wt.plain rfl) (Ex.loadHp flat3 rfl hH rfl) ?_
    refine WL.u rfl rfl (Wt.plain rfl) (Ex.fieldAddr fd53_2 rfl) ?_
    refine WL.u rfl rfl (Wt.plain rfl) (Ex.loadHp flat3 rfl hH rfl) ?_
    refine WL.u rfl rfl (Wt.plain rfl) (Ex.loadHp4 Try.underlying53 ty53 rfl hH) ?_
    refine WL.buildSlice (pv := [(0, rQd.val (c47, n47, m47, (a47, l47, k47)))]) Try.underlying51 ty53 rfl rfl rfl (fill_rep rQd (by decide) (c47, n47, m47, (a47, l47, k47))) rfl (Wt.plain rfl) hH (fun b56 wn hb56 hk56 hH => ?_)
    have ho56 := Own.q1 (c47, n47, m47, (a47, l47, k47))
    replace hV := hV.trans hk56.nil
    refine WL.u rfl rfl (Wt.plain rfl) (Ex.buildS bd53 rfl rfl rfl rfl rfl) ?_
    have hsV10 := hV.size
    refine WL.alloc ty53 rfl rfl (Wt.plain rfl) hH (fun b10 wn hb10 hk10 hH => ?_)
    replace hV := hV.trans (hk10.nil)
    refine WL.store4 ty53 rfl rfl rfl rfl rfl rfl (Wt.plain rfl) hH (fun wn hk hH => ?_)
    replace hV := hV.shr hk (by intro x hx; rw [List.mem_singleton.1 hx]; omega)
    refine WL.next ?_
    refine WC.seq ?_
    refine WC.seq ?_
    refine WC.region ?_
    refine WL.u rfl rfl (Wt.plain rfl) (Ex.move rfl) ?_
    refine WL.u rfl rfl (Wt.plain rfl) (Ex.eql rfl rfl) ?_
    refine WL.next ?_
    refine WC.cond rfl (fun hc4 => ?_) (fun hc4 => ?_)
    · have h62 : s.getD p 0 = 62 := ubT 62 (by decide) hc4
      refine WC.seq ?_
      refine WC.region ?_
      refine WL.u rfl rfl (Wt.plain rfl) (Ex.fieldAddr fd53_2 rfl) ?_
      replace hH := hH.f2
      refine WL.u rfl rfl (Wt.plain rfl) (Ex.loadHp flat3 rfl hH rfl) ?_
      refine WL.u rfl rfl (Wt.plain rfl) (Ex.fieldAddr fd53_1 rfl) ?_
      replace hH := hH.f1
      refine WL.store1 ty3 rfl rfl rfl (Wt.plain rfl) hH (by first | decide | simp) rfl (fun wn hk hH => ?_)
      replace hV := hV.shr hk (by intro x hx; rw [List.mem_singleton.1 hx]; omega)
      refine WL.next ?_
      refine WC.region ?_
      refine WL.u rfl rfl (Wt.plain rfl) (Ex.fieldAddr fd53_1 rfl) ?_
      replace hH := hH.f1
      refine WL.u rfl rfl (Wt.plain rfl) (Ex.loadHp flat3 rfl hH rfl) ?_
      refine WL.u rfl rfl (Wt.plain rfl) (Ex.fieldAddr fd53_2 rfl) ?_
      replace hH := hH.f1
      refine WL.store1 ty3 rfl rfl rfl (Wt.plain rfl) hH (by first | decide | simp) rfl (fun wn hk hH => ?_)
      replace hV := hV.shr hk (by intro x hx; rw [List.mem_singleton.1 hx]; omega)
      refine WL.next ?_
      refine WC.seq ?_
      refine WC.region ?_
      refine WL.u rfl rfl (Wt.plain rfl) (Ex.loadHp4 Try.underlying53 ty53 rfl hH) ?_
      refine WL.u rfl rfl (Wt.plain rfl) (Ex.move rfl) ?_
      replace hH := hH.f5
      refine WL.store4 ty53 rfl rfl rfl rfl rfl rfl (Wt.plain rfl) hH (fun wn hk hH => ?_)
      replace hV := hV.trans (hk.mono (by simp))
      refine WL.u rfl rfl (Wt.plain rfl) (Ex.assign rfl) ?_
      refine WL.next ?_
      refine WC.ret ?_
      refine WN.retThen ?_
      refine WN.cell24 rfl rfl rfl Try.underlying53 ty53 hH ?_
      exact ⟨(s.getD p 0, m47, n47, (some ⟨b56, 0, none⟩, 1, 1)), e47, rfl, hH.keep, by
        rw [rdV_una hp hc2 hu rfl]
        have h := (hR47.keep hV (by intro x hx; rw [List.mem_singleton.1 hx]; exact hl47)).una hw47 (c := s.getD p 0) (cap := 1) (hH.base 3 rfl) (ho56.slAt hH 3 rfl)
        rw [if_pos h62, if_pos h62] at h
        exact h⟩
    have h62 : s.getD p 0 ≠ 62 := ubF 62 (by decide) hc4
    refine WC.skip ?_
    refine WN.next ?_
    refine WC.seq ?_
    refine WC.region ?_
    refine WL.u rfl rfl (Wt.plain rfl) (Ex.loadHp4 Try.underlying53 ty53 rfl hH) ?_
    refine WL.u rfl rfl (Wt.plain rfl) (Ex.move rfl) ?_
    replace hH := hH.f5
    refine WL.store4 ty53 rfl rfl rfl rfl rfl rfl (Wt.plain rfl) hH (fun wn hk hH => ?_)
    replace hV := hV.trans (hk.mono (by simp))
    refine WL.u rfl rfl (Wt.plain rfl) (Ex.assign rfl) ?_
    refine WL.next ?_
    refine WC.ret ?_
    refine WN.retThen ?_
    refine WN.cell24 rfl rfl rfl Try.underlying53 ty53 hH ?_
    exact ⟨(s.getD p 0, n47, m47, (some ⟨b56, 0, none⟩, 1, 1)), e47, rfl, hH.keep, by
      rw [rdV_una hp hc2 hu rfl]
      have h := (hR47.keep hV (by intro x hx; rw [List.mem_singleton.1 hx]; exact hl47)).una hw47 (c := s.getD p 0) (cap := 1) (hH.base 2 rfl) (ho56.slAt hH 2 rfl)
      rw [if_neg h62, if_neg h62] at h
      exact h⟩
  have hg7_2' := hg7_2; try simp only [decide_eq_true_eq, decide_eq_false_iff_not, Bool.not_eq_true', Bool.not_eq_false', Bool.not_eq_true, Bool.not_eq_false] at hg7_2'
  refine WL.u rfl rfl (Wt.guard' rfl rfl rfl hg7_2 rfl) (Ex.move rfl) ?_
  refine WL.u rfl rfl (Wt.guard' rfl rfl rfl hg7_2 rfl) (Ex.eql rfl rfl) ?_
  refine WL.u rfl rfl (Wt.plain rfl) (Ex.pickF rfl hg7_2 rfl) ?_
  refine WL.u rfl rfl (Wt.plain rfl) (Ex.move rfl) ?_
  refine WL.split (t := 39) rfl (fun hg7_6 => ?_) (fun hg7_6 => ?_)
  · have hg7_6' := hg7_6; try simp only [decide_eq_true_eq, decide_eq_false_iff_not, Bool.not_eq_true', Bool.not_eq_false', Bool.not_eq_true, Bool.not_eq_false] at hg7_6'
    have hu : isU (s.getD p 0) = true := by rw [show s.getD p 0 = 94 from ubT 94 (by decide) hg7_6]; rfl
    refine WL.pass rfl rfl (Wt.guard' rfl rfl rfl hg7_6 rfl) ?_
    refine WL.pass rfl rfl (Wt.guard' rfl rfl rfl hg7_6 rfl) ?_
    refine WL.u rfl rfl (Wt.plain rfl) (Ex.pickT rfl hg7_6 rfl) ?_
    refine WL.next ?_
    refine WC.condT rfl rfl ?_
    refine WC.seq ?_
    refine WC.region ?_
    refine WL.u rfl rfl (Wt.plain rfl) (Ex.move rfl) ?_
    refine WL.u rfl rfl (Wt.plain rfl) (Ex.move rfl) ?_
    refine WL.u rfl rfl (Wt.plain rfl) (Ex.add rfl rfl (by omega)) ?_
    have hl47 := hH.lt 2 rfl
    have hw47 := hH.keep.size
    refine WL.call callable31 rfl (Wt.plain rfl) rfl rfl (ih (p + 1) _ (by omega) (by omega)) ?_
    rintro _ wn ⟨q47, e47, rfl, hC, hR47⟩; obtain ⟨c47, n47, m47, a47, l47, k47⟩ := q47; replace hH := hH.call hC
    have hV := Keep.refl [b4] wn
    refine WL.u rfl rfl (Wt.plain rfl) (Ex.move rfl) ?_
    refine WL.u rfl rfl (Wt.plain rfl) (Ex.extract rfl rfl) ?_
    refine WL.u rfl rfl (Wt.plain rfl) (Ex.extract rfl rfl) ?_
    have hsV8 := hV.size
    refine WL.alloc ty53 rfl rfl (Wt.plain rfl) hH (fun b8 wn hb8 hk8 hH => ?_)
    replace hV := hV.trans (hk8.nil)
    refine WL.store4 ty53 rfl rfl rfl rfl rfl rfl (Wt.plain rfl) hH (fun wn hk hH => ?_)
    replace hV := hV.shr hk (by intro x hx; rw [List.mem_singleton.1 hx]; omega)
    refine WL.u rfl rfl (Wt.plain rfl) (Ex.assign rfl) ?_
    refine WL.next ?_
    refine WC.seq ?_
    refine WC.region ?_
    refine WL.u rfl rfl (Wt.plain rfl) (Ex.move rfl) ?_
    refine WL.u rfl rfl (Wt.plain rfl) (Ex.fieldAddr fd53_1 rfl) ?_
    refine WL.u rfl rfl (Wt.plain rfl) (Ex.loadHp flat3 rfl hH rfl) ?_
    refine WL.u rfl rfl (Wt.plain rfl) (Ex.fieldAddr fd53_2 rfl) ?_
    refine WL.u rfl rfl (Wt.plain rfl) (Ex.loadHp flat3 rfl hH rfl) ?_
    refine WL.u rfl rfl (Wt.plain rfl) (Ex.loadHp4 Try.underlying53 ty53 rfl hH) ?_
    refine WL.buildSlice (pv := [(0, rQd.val (c47, n47, m47, (a47, l47, k47)))]) Try.underlying51 ty53 rfl rfl rfl (fill_rep rQd (by decide) (c47, n47, m47, (a47, l47, k47))) rfl (Wt.plain rfl) hH (fun b56 wn hb56 hk56 hH => ?_)
    have ho56 := Own.q1 (c47, n47, m47, (a47, l47, k47))
    replace hV := hV.trans hk56.nil
    refine WL.u rfl rfl (Wt.plain rfl) (Ex.buildS bd53 rfl rfl rfl rfl rfl) ?_
    have hsV10 := hV.size
    refine WL.alloc ty53 rfl rfl (Wt.plain rfl) hH (fun b10 wn hb10 hk10 hH => ?_)
    replace hV := hV.trans (hk10.nil)
    refine WL.store4 ty53 rfl rfl rfl rfl rfl rfl (Wt.plain rfl) hH (fun wn hk hH => ?_)
    replace hV := hV.shr hk (by intro x hx; rw [List.mem_singleton.1 hx]; omega)
    refine WL.next ?_
    refine WC.seq ?_
    refine WC.seq ?_
    refine WC.region ?_
    refine WL.u rfl rfl (Wt.plain rfl) (Ex.move rfl) ?_
    refine WL.u rfl rfl (Wt.plain rfl) (Ex.eql rfl rfl) ?_
    refine WL.next ?_
    refine WC.cond rfl (fun hc4 => ?_) (fun hc4 => ?_)
    · have h62 : s.getD p 0 = 62 := ubT 62 (by decide) hc4
      refine WC.seq ?_
      refine WC.region ?_
      refine WL.u rfl rfl (Wt.plain rfl) (Ex.fieldAddr fd53_2 rfl) ?_
      replace hH := hH.f2
      refine WL.u rfl rfl (Wt.plain rfl) (Ex.loadHp flat3 rfl hH rfl) ?_
      refine WL.u rfl rfl (Wt.plain rfl) (Ex.fieldAddr fd53_1 rfl) ?_
      replace hH := hH.f1
      refine WL.store1 ty3 rfl rfl rfl (Wt.plain rfl) hH (by first | decide | simp) rfl (fun wn hk hH => ?_)
      replace hV := hV.shr hk (by intro x hx; rw [List.mem_singleton.1 hx]; omega)
      refine WL.next ?_
      refine WC.region ?_
      refine WL.u rfl rfl (Wt.plain rfl) (Ex.fieldAddr fd53_1 rfl) ?_
      replace hH := hH.f1
      refine WL.u rfl rfl (Wt.plain rfl) (Ex.loadHp flat3 rfl hH rfl) ?_
      refine WL.u rfl rfl (Wt.plain rfl) (Ex.fieldAddr fd53_2 rfl) ?_
      replace hH := hH.f1
      refine WL.store1 ty3 rfl rfl rfl (Wt.plain rfl) hH (by first | decide | simp) rfl (fun wn hk hH => ?_)
      replace hV := hV.shr hk (by intro x hx; rw [List.mem_singleton.1 hx]; omega)
      refine WL.next ?_
      refine WC.seq ?_
      refine WC.region ?_
      refine WL.u rfl rfl (Wt.plain rfl) (Ex.loadHp4 Try.underlying53 ty53 rfl hH) ?_
      refine WL.u rfl rfl (Wt.plain rfl) (Ex.move rfl) ?_
      replace hH := hH.f5
      refine WL.store4 ty53 rfl rfl rfl rfl rfl rfl (Wt.plain rfl) hH (fun wn hk hH => ?_)
      replace hV := hV.trans (hk.mono (by simp))
      refine WL.u rfl rfl (Wt.plain rfl) (Ex.assign rfl) ?_
      refine WL.next ?_
      refine WC.ret ?_
      refine WN.retThen ?_
      refine WN.cell24 rfl rfl rfl Try.underlying53 ty53 hH ?_
      exact ⟨(s.getD p 0, m47, n47, (some ⟨b56, 0, none⟩, 1, 1)), e47, rfl, hH.keep, by
        rw [rdV_una hp hc2 hu rfl]
        have h := (hR47.keep hV (by intro x hx; rw [List.mem_singleton.1 hx]; exact hl47)).una hw47 (c := s.getD p 0) (cap := 1) (hH.base 3 rfl) (ho56.slAt hH 3 rfl)
        rw [if_pos h62, if_pos h62] at h
        exact h⟩
    have h62 : s.getD p 0 ≠ 62 := ubF 62 (by decide) hc4
    refine WC.skip ?_
    refine WN.next ?_
    refine WC.seq ?_
    refine WC.region ?_
    refine WL.u rfl rfl (Wt.plain rfl) (Ex.loadHp4 Try.underlying53 ty53 rfl hH) ?_
    refine WL.u rfl rfl (Wt.plain rfl) (Ex.move rfl) ?_
    replace hH := hH.f5
    refine WL.store4 ty53 rfl rfl rfl rfl rfl rfl (Wt.plain rfl) hH (fun wn hk hH => ?_)
    replace hV := hV.trans (hk.mono (by simp))
    refine WL.u rfl rfl (Wt.plain rfl) (Ex.assign rfl) ?_
    refine WL.next ?_
    refine WC.ret ?_
    refine WN.retThen ?_
    refine WN.cell24 rfl rfl rfl Try.underlying53 ty53 hH ?_
    exact ⟨(s.getD p 0, n47, m47, (some ⟨b56, 0, none⟩, 1, 1)), e47, rfl, hH.keep, by
      rw [rdV_una hp hc2 hu rfl]
      have h := (hR47.keep hV (by intro x hx; rw [List.mem_singleton.1 hx]; exact hl47)).una hw47 (c := s.getD p 0) (cap := 1) (hH.base 2 rfl) (ho56.slAt hH 2 rfl)
      rw [if_neg h62, if_neg h62] at h
      exact h⟩
  have hg7_6' := hg7_6; try simp only [decide_eq_true_eq, decide_eq_false_iff_not, Bool.not_eq_true', Bool.not_eq_false', Bool.not_eq_true, Bool.not_eq_false] at hg7_6'
  refine WL.u rfl rfl (Wt.guard' rfl rfl rfl hg7_6 rfl) (Ex.move rfl) ?_
  refine WL.u rfl rfl (Wt.guard' rfl rfl rfl hg7_6 rfl) (Ex.eql rfl rfl) ?_
  refine WL.u rfl rfl (Wt.plain rfl) (Ex.pickF rfl hg7_6 rfl) ?_
  refine WL.next ?_
  refine WC.cond rfl (fun hc3 => ?_) (fun hc3 => ?_)
  · have hc3' := hc3; try simp only [decide_eq_true_eq, decide_eq_false_iff_not, Bool.not_eq_true', Bool.not_eq_false', Bool.not_eq_true, Bool.not_eq_false] at hc3'
    have hu : isU (s.getD p 0) = true := by rw [show s.getD p 0 = 42 from ubT 42 (by decide) hc3]; rfl
    refine WC.seq ?_
    refine WC.region ?_
    refine WL.u rfl rfl (Wt.plain rfl) (Ex.move rfl) ?_
    refine WL.u rfl rfl (Wt.plain rfl) (Ex.move rfl) ?_
    refine WL.u rfl rfl (Wt.plain rfl) (Ex.add rfl rfl (by omega)) ?_
    have hl47 := hH.lt 2 rfl
    have hw47 := hH.keep.size
    refine WL.call callable31 rfl (Wt.plain rfl) rfl rfl (ih (p + 1) _ (by omega) (by omega)) ?_
    rintro _ wn ⟨q47, e47, rfl, hC, hR47⟩; obtain ⟨c47, n47, m47, a47, l47, k47⟩ := q47; replace hH := hH.call hC
    have hV := Keep.refl [b4] wn
    refine WL.u rfl rfl (Wt.plain rfl) (Ex.move rfl) ?_
    refine WL.u rfl rfl (Wt.plain rfl) (Ex.extract rfl rfl) ?_
    refine WL.u rfl rfl (Wt.plain rfl) (Ex.extract rfl rfl) ?_
    have hsV8 := hV.size
    refine WL.alloc ty53 rfl rfl (Wt.plain rfl) hH (fun b8 wn hb8 hk8 hH => ?_)
    replace hV := hV.trans (hk8.nil)
    refine WL.store4 ty53 rfl rfl rfl rfl rfl rfl (Wt.plain rfl) hH (fun wn hk hH => ?_)
    replace hV := hV.shr hk (by intro x hx; rw [List.mem_singleton.1 hx]; omega)
    refine WL.u rfl rfl (Wt.plain rfl) (Ex.assign rfl) ?_
    refine WL.next ?_
    refine WC.seq ?_
    refine WC.region ?_
    refine WL.u rfl rfl (Wt.plain rfl) (Ex.move rfl) ?_
    refine WL.u rfl rfl (Wt.plain rfl) (Ex.fieldAddr fd53_1 rfl) ?_
    refine WL.u rfl rfl (Wt.plain rfl) (Ex.loadHp flat3 rfl hH rfl) ?_
    refine WL.u rfl rfl (Wt.plain rfl) (Ex.fieldAddr fd53_2 rfl) ?_
    refine WL.u rfl rfl (Wt.plain rfl) (Ex.loadHp flat3 rfl hH rfl) ?_
    refine WL.u rfl rfl (Wt.plain rfl) (Ex.loadHp4 Try.underlying53 ty53 rfl hH) ?_
    refine WL.buildSlice (pv := [(0, rQd.val (c47, n47, m47, (a47, l47, k47)))]) Try.underlying51 ty53 rfl rfl rfl (fill_rep rQd (by decide) (c47, n47, m47, (a47, l47, k47))) rfl (Wt.plain rfl) hH (fun b56 wn hb56 hk56 hH => ?_)
    have ho56 := Own.q1 (c47, n47, m47, (a47, l47, k47))
    replace hV := hV.trans hk56.nil
    refine WL.u rfl rfl (Wt.plain rfl) (Ex.buildS bd53 rfl rfl rfl rfl rfl) ?_
    have hsV10 := hV.size
    refine WL.alloc ty53 rfl rfl (Wt.plain rfl) hH (fun b10 wn hb10 hk10 hH => ?_)
    replace hV := hV.trans (hk10.nil)
    refine WL.store4 ty53 rfl rfl rfl rfl rfl rfl (Wt.plain rfl) hH (fun wn hk hH => ?_)
    replace hV := hV.shr hk (by intro x hx; rw [List.mem_singleton.1 hx]; omega)
    refine WL.next ?_
    refine WC.seq ?_
    refine WC.seq ?_
    refine WC.region ?_
    refine WL.u rfl rfl (Wt.plain rfl) (Ex.move rfl) ?_
    refine WL.u rfl rfl (Wt.plain rfl) (Ex.eql rfl rfl) ?_
    refine WL.next ?_
    refine WC.cond rfl (fun hc4 => ?_) (fun hc4 => ?_)
    · have h62 : s.getD p 0 = 62 := ubT 62 (by decide) hc4
      refine WC.seq ?_
      refine WC.region ?_
      refine WL.u rfl rfl (Wt.plain rfl) (Ex.fieldAddr fd53_2 rfl) ?_
      replace hH := hH.f2
      refine WL.u rfl rfl (Wt.plain rfl) (Ex.loadHp flat3 rfl hH rfl) ?_
      refine WL.u rfl rfl (Wt.plain rfl) (Ex.fieldAddr fd53_1 rfl) ?_
      replace hH := hH.f1
      refine WL.store1 ty3 rfl rfl rfl (Wt.plain rfl) hH (by first | decide | simp) rfl (fun wn hk hH => ?_)
      replace hV := hV.shr hk (by intro x hx; rw [List.mem_singleton.1 hx]; omega)
      refine WL.next ?_
      refine WC.region ?_
      refine WL.u rfl rfl (Wt.plain rfl) (Ex.fieldAddr fd53_1 rfl) ?_
      replace hH := hH.f1
      refine WL.u rfl rfl (Wt.plain rfl) (Ex.loadHp flat3 rfl hH rfl) ?_
      refine WL.u rfl rfl (Wt.plain rfl) (Ex.fieldAddr fd53_2 rfl) ?_
      replace hH := hH.f1
      refine WL.store1 ty3 rfl rfl rfl (Wt.plain rfl) hH (by first | decide | simp) rfl (fun wn hk hH => ?_)
      replace hV := hV.shr hk (by intro x hx; rw [List.mem_singleton.1 hx]; omega)
      refine WL.next ?_
      refine WC.seq ?_
      refine WC.region ?_
      refine WL.u rfl rfl (Wt.plain rfl) (Ex.loadHp4 Try.underlying53 ty53 rfl hH) ?_
      refine WL.u rfl rfl (Wt.plain rfl) (Ex.move rfl) ?_
      replace hH := hH.f5
      refine WL.store4 ty53 rfl rfl rfl rfl rfl rfl (Wt.plain rfl) hH (fun wn hk hH => ?_)
      replace hV := hV.trans (hk.mono (by simp))
      refine WL.u rfl rfl (Wt.plain rfl) (Ex.assign rfl) ?_
      refine WL.next ?_
      refine WC.ret ?_
      refine WN.retThen ?_
      refine WN.cell24 rfl rfl rfl Try.underlying53 ty53 hH ?_
      exact ⟨(s.getD p 0, m47, n47, (some ⟨b56, 0, none⟩, 1, 1)), e47, rfl, hH.keep, by
        rw [rdV_una hp hc2 hu rfl]
        have h := (hR47.keep hV (by intro x hx; rw [List.mem_singleton.1 hx]; exact hl47)).una hw47 (c := s.getD p 0) (cap := 1) (hH.base 3 rfl) (ho56.slAt hH 3 rfl)
        rw [if_pos h62, if_pos h62] at h
        exact h⟩
    have h62 : s.getD p 0 ≠ 62 := ubF 62 (by decide) hc4
    refine WC.skip ?_
    refine WN.next ?_
    refine WC.seq ?_
    refine WC.region ?_
    refine WL.u rfl rfl (Wt.plain rfl) (Ex.loadHp4 Try.underlying53 ty53 rfl hH) ?_
    refine WL.u rfl rfl (Wt.plain rfl) (Ex.move rfl) ?_
    replace hH := hH.f5
    refine WL.store4 ty53 rfl rfl rfl rfl rfl rfl (Wt.plain rfl) hH (fun wn hk hH => ?_)
    replace hV := hV.trans (hk.mono (by simp))
    refine WL.u rfl rfl (Wt.plain rfl) (Ex.assign rfl) ?_
    refine WL.next ?_
    refine WC.ret ?_
    refine WN.retThen ?_
    refine WN.cell24 rfl rfl rfl Try.underlying53 ty53 hH ?_
    exact ⟨(s.getD p 0, n47, m47, (some ⟨b56, 0, none⟩, 1, 1)), e47, rfl, hH.keep, by
      rw [rdV_una hp hc2 hu rfl]
      have h := (hR47.keep hV (by intro x hx; rw [List.mem_singleton.1 hx]; exact hl47)).una hw47 (c := s.getD p 0) (cap := 1) (hH.base 2 rfl) (ho56.slAt hH 2 rfl)
      rw [if_neg h62, if_neg h62] at h
      exact h⟩
  have hc3' := hc3; try simp only [decide_eq_true_eq, decide_eq_false_iff_not, Bool.not_eq_true', Bool.not_eq_false', Bool.not_eq_true, Bool.not_eq_false] at hc3'
  have hu : isU (s.getD p 0) = false := by
    unfold isU
    rw [decide_eq_false (show s.getD p 0 ≠ 62 from ubF 62 (by decide) hg7_2), decide_eq_false (show s.getD p 0 ≠ 94 from ubF 94 (by decide) hg7_6), decide_eq_false (show s.getD p 0 ≠ 42 from ubF 42 (by decide) hc3)]; rfl
  refine WC.skip ?_
  refine WN.next ?_
  refine WC.seq ?_
  refine WC.seq ?_
  refine WC.region ?_
  refine WL.u rfl rfl (Wt.plain rfl) (Ex.move rfl) ?_
  refine WL.u rfl rfl (Wt.plain rfl) (Ex.neq rfl rfl) ?_
  refine WL.next ?_
  refine WC.cond rfl (fun hc5 => ?_) (fun hc5 => ?_)
  · have hc5' := hc5; try simp only [decide_eq_true_eq, decide_eq_false_iff_not, Bool.not_eq_true', Bool.not_eq_false', Bool.not_eq_true, Bool.not_eq_false] at hc5'
    have hrn : rdV s (f + 1) p = none := rdV_no (rdI_bad hp hc2 hu (nbT 40 (by decide) hc5))
    refine WC.seq ?_
    refine WC.region ?_
    refine WL.u rfl rfl (Wt.plain rfl) (Ex.loadHp4 Try.underlying53 ty53 rfl hH) ?_
    replace hH := hH.f2
    refine WL.store4 ty53 rfl rfl rfl rfl rfl rfl (Wt.plain rfl) hH (fun wn hk hH => ?_)
    refine WL.u rfl rfl (Wt.plain rfl) (Ex.assign rfl) ?_
    refine WL.next ?_
    refine WC.ret ?_
    refine WN.retThen ?_
    refine WN.cell24 rfl rfl rfl Try.underlying53 ty53 hH ?_
    exact ⟨(46, 1, 1, (some ⟨b16, 0, none⟩, 0, 0)), 0, rfl, hH.keep, by rw [hrn]; exact rfl⟩
  have hc5' := hc5; try simp only [decide_eq_true_eq, decide_eq_false_iff_not, Bool.not_eq_true', Bool.not_eq_false', Bool.not_eq_true, Bool.not_eq_false] at hc5'
  have h40 : s.getD p 0 = 40 := nbF 40 (by decide) hc5
  refine WC.skip ?_
  refine WN.next ?_
  refine WC.seq ?_
  refine WC.region ?_
  refine WL.u rfl rfl (Wt.plain rfl) (Ex.move rfl) ?_
  refine WL.u rfl rfl (Wt.plain rfl) (Ex.move rfl) ?_
  refine WL.u rfl rfl (Wt.plain rfl) (Ex.add rfl rfl (by omega)) ?_
  have hl75 := hH.lt 2 rfl
  have hw75 := hH.keep.size
  refine WL.call callable31 rfl (Wt.plain rfl) rfl rfl (ih (p + 1) _ (by omega) (by omega)) ?_
  rintro _ wn ⟨q75, e75, rfl, hC, hR75⟩; obtain ⟨c75, n75, m75, a75, l75, k75⟩ := q75; replace hH := hH.call hC
  have hV := Keep.refl [b4] wn
  refine WL.u rfl rfl (Wt.plain rfl) (Ex.move rfl) ?_
  refine WL.u rfl rfl (Wt.plain rfl) (Ex.extract rfl rfl) ?_
  refine WL.u rfl rfl (Wt.plain rfl) (Ex.extract rfl rfl) ?_
  have hsV11 := hV.size
  refine WL.alloc ty53 rfl rfl (Wt.plain rfl) hH (fun b11 wn hb11 hk11 hH => ?_)
  replace hV := hV.trans (hk11.nil)
  refine WL.store4 ty53 rfl rfl rfl rfl rfl rfl (Wt.plain rfl) hH (fun wn hk hH => ?_)
  replace hV := hV.shr hk (by intro x hx; rw [List.mem_singleton.1 hx]; omega)
  refine WL.u rfl rfl (Wt.plain rfl) (Ex.assign rfl) ?_
  refine WL.next ?_
  refine WC.seq ?_
  refine WC.seq ?_
  refine WC.region ?_
  refine WL.u rfl rfl (Wt.plain rfl) (Ex.move rfl) ?_
  refine WL.u rfl rfl (Wt.plain rfl) (Ex.eql rfl rfl) ?_
  refine WL.u rfl rfl (Wt.plain rfl) (Ex.move rfl) ?_
  refine WL.split (t := 80) rfl (fun hg17_2 => ?_) (fun hg17_2 => ?_)
  · have hg17_2' := hg17_2; try simp only [decide_eq_true_eq, decide_eq_false_iff_not, Bool.not_eq_true', Bool.not_eq_false', Bool.not_eq_true, Bool.not_eq_false] at hg17_2'
    have hrn : rdV s (f + 1) p = none := rdV_bin0 hp h40 (hR75.none (by omega))
    refine WL.pass rfl rfl (Wt.guard' rfl rfl rfl hg17_2 rfl) ?_
    refine WL.pass rfl rfl (Wt.guard' rfl rfl rfl hg17_2 rfl) ?_
    refine WL.pass rfl rfl (Wt.guard' rfl rfl rfl hg17_2 rfl) ?_
    refine WL.pass rfl rfl (Wt.guard' rfl rfl rfl hg17_2 rfl) ?_
    refine WL.u rfl rfl (Wt.plain rfl) (Ex.pickT rfl hg17_2 rfl) ?_
    refine WL.u rfl rfl (Wt.plain rfl) (Ex.move rfl) ?_
    refine WL.pass rfl rfl (Wt.guard' rfl rfl rfl rfl rfl) ?_
    refine WL.pass rfl rfl (Wt.guard' rfl rfl rfl rfl rfl) ?_
    refine WL.pass rfl rfl (Wt.guard' rfl rfl rfl rfl rfl) ?_
    refine WL.pass rfl rfl (Wt.guard' rfl rfl rfl rfl rfl) ?_
    refine WL.pass rfl rfl (Wt.guard' rfl rfl rfl rfl rfl) ?_
    refine WL.pass rfl rfl (Wt.undef rfl rfl rfl) ?_
    refine WL.pass rfl rfl (Wt.undef rfl rfl rfl) ?_
    refine WL.pass rfl rfl (Wt.undef rfl rfl rfl) ?_
    refine WL.pass rfl rfl (Wt.undef rfl rfl rfl) ?_
    refine WL.pass rfl rfl (Wt.guard' rfl rfl rfl rfl rfl) ?_
    refine WL.u rfl rfl (Wt.plain rfl) (Ex.pickT rfl rfl rfl) ?_
    refine WL.next ?_
    refine WC.condT rfl rfl ?_
    refine WC.seq ?_
    refine WC.region ?_
    replace hH := hH.f1
    refine WL.u rfl rfl (Wt.plain rfl) (Ex.loadHp4 Try.underlying53 ty53 rfl hH) ?_
    replace hH := hH.f3
    refine WL.store4 ty53 rfl rfl rfl rfl rfl rfl (Wt.plain rfl) hH (fun wn hk hH => ?_)
    replace hV := hV.trans (hk.mono (by simp))
    refine WL.u rfl rfl (Wt.plain rfl) (Ex.assign rfl) ?_
    refine WL.next ?_
    refine WC.ret ?_
    refine WN.retThen ?_
    refine WN.cell24 rfl rfl rfl Try.underlying53 ty53 hH ?_
    exact ⟨(46, 1, 1, (some ⟨b16, 0, none⟩, 0, 0)), 0, rfl, hH.keep, by rw [hrn]; exact rfl⟩
  have hg17_2' := hg17_2; try simp only [decide_eq_true_eq, decide_eq_false_iff_not, Bool.not_eq_true', Bool.not_eq_false', Bool.not_eq_true, Bool.not_eq_false] at hg17_2'
  obtain ⟨t1, hr1, hT1⟩ := hR75.some (by omega)
  obtain ⟨hri1, hv1⟩ := rdV_some hr1
  obtain ⟨hW1, hpe, hel⟩ := rdI_ok hri1
  refine WL.u rfl rfl (Wt.guard' rfl rfl rfl hg17_2 rfl) (Ex.move rfl) ?_
  refine WL.u rfl rfl (Wt.guard' rfl rfl rfl hg17_2 rfl) (Ex.move rfl) ?_
  refine WL.u rfl rfl (Wt.guard' rfl rfl rfl hg17_2 rfl) (Ex.lenStr Try.underlying9 rfl) ?_
  refine WL.u rfl rfl (Wt.guard' rfl rfl rfl hg17_2 rfl) (Ex.geq rfl rfl) ?_
  refine WL.u rfl rfl (Wt.plain rfl) (Ex.pickF rfl hg17_2 rfl) ?_
  refine WL.u rfl rfl (Wt.plain rfl) (Ex.move rfl) ?_
  refine WL.split (t := 86) rfl (fun hg17_8 => ?_) (fun hg17_8 => ?_)
  · have hg17_8' := hg17_8; try simp only [decide_eq_true_eq, decide_eq_false_iff_not, Bool.not_eq_true', Bool.not_eq_false', Bool.not_eq_true, Bool.not_eq_false] at hg17_8'
    have hrn : rdV s (f + 1) p = none := rdV_bin1 hp h40 hr1 (.inl (by omega))
    refine WL.pass rfl rfl (Wt.guard' rfl rfl rfl hg17_8 rfl) ?_
    refine WL.pass rfl rfl (Wt.guard' rfl rfl rfl hg17_8 rfl) ?_
    refine WL.pass rfl rfl (Wt.guard' rfl rfl rfl hg17_8 rfl) ?_
    refine WL.pass rfl rfl (Wt.guard' rfl rfl rfl hg17_8 rfl) ?_
    refine WL.pass rfl rfl (Wt.guard' rfl rfl rfl hg17_8 rfl) ?_
    refine WL.pass rfl rfl (Wt.undef rfl rfl rfl) ?_
    refine WL.pass rfl rfl (Wt.undef rfl rfl rfl) ?_
    refine WL.pass rfl rfl (Wt.undef rfl rfl rfl) ?_
    refine WL.pass rfl rfl (Wt.undef rfl rfl rfl) ?_
    refine WL.pass rfl rfl (Wt.guard' rfl rfl rfl hg17_8 rfl) ?_
    refine WL.u rfl rfl (Wt.plain rfl) (Ex.pickT rfl hg17_8 rfl) ?_
    refine WL.next ?_
    refine WC.condT rfl rfl ?_
    refine WC.seq ?_
    refine WC.region ?_
    replace hH := hH.f1
    refine WL.u rfl rfl (Wt.plain rfl) (Ex.loadHp4 Try.underlying53 ty53 rfl hH) ?_
    replace hH := hH.f3
    refine WL.store4 ty53 rfl rfl rfl rfl rfl rfl (Wt.plain rfl) hH (fun wn hk hH => ?_)
    replace hV := hV.trans (hk.mono (by simp))
    refine WL.u rfl rfl (Wt.plain rfl) (Ex.assign rfl) ?_
    refine WL.next ?_
    refine WC.ret ?_
    refine WN.retThen ?_
    refine WN.cell24 rfl rfl rfl Try.underlying53 ty53 hH ?_
    exact ⟨(46, 1, 1, (some ⟨b16, 0, none⟩, 0, 0)), 0, rfl, hH.keep, by rw [hrn]; exact rfl⟩
  have hg17_8' := hg17_8; try simp only [decide_eq_true_eq, decide_eq_false_iff_not, Bool.not_eq_true', Bool.not_eq_false', Bool.not_eq_true, Bool.not_eq_false] at hg17_8'
  have hcl2 := u8lt (s.getD e75 0)
  refine WL.u rfl rfl (Wt.guard' rfl rfl rfl hg17_8 rfl) (Ex.move rfl) ?_
  refine WL.u rfl rfl (Wt.guard' rfl rfl rfl hg17_8 rfl) (Ex.move rfl) ?_
  refine WL.u rfl rfl (Wt.guard' rfl rfl rfl hg17_8 rfl) (Ex.indexStr Try.underlying9 rfl rfl (by omega)) ?_
  refine WL.u rfl rfl (Wt.guard' rfl rfl rfl hg17_8 rfl) (Ex.neq rfl rfl) ?_
  refine WL.u rfl rfl (Wt.guard' rfl rfl rfl hg17_8 rfl) (Ex.move rfl) ?_
  refine WL.split (t := 91) rfl (fun hg17_13 => ?_) (fun hg17_13 => ?_)
  · have hg17_13' := hg17_13; try simp only [decide_eq_true_eq, decide_eq_false_iff_not, Bool.not_eq_true', Bool.not_eq_false', Bool.not_eq_true, Bool.not_eq_false] at hg17_13'
    refine WL.u rfl rfl (Wt.guard' rfl rfl rfl hg17_13 rfl) (Ex.move rfl) ?_
    refine WL.u rfl rfl (Wt.guard' rfl rfl rfl hg17_13 rfl) (Ex.move rfl) ?_
    refine WL.u rfl rfl (Wt.guard' rfl rfl rfl hg17_13 rfl) (Ex.indexStr Try.underlying9 rfl rfl (by omega)) ?_
    refine WL.u rfl rfl (Wt.guard' rfl rfl rfl hg17_13 rfl) (Ex.neq rfl rfl) ?_
    refine WL.u rfl rfl (Wt.guard' rfl rfl rfl hg17_8 rfl) (Ex.pickT rfl hg17_13 rfl) ?_
    refine WL.u rfl rfl (Wt.plain rfl) (Ex.pickF rfl hg17_8 rfl) ?_
    refine WL.next ?_
    refine WC.cond rfl (fun hc6 => ?_) (fun hc6 => ?_)
    · have hc6' := hc6; try simp only [decide_eq_true_eq, decide_eq_false_iff_not, Bool.not_eq_true', Bool.not_eq_false', Bool.not_eq_true, Bool.not_eq_false] at hc6'
      have hB : isB (s.getD e75 0) = false := by unfold isB; rw [decide_eq_false (show s.getD e75 0 ≠ 124 from nbT 124 (by decide) hg17_13), decide_eq_false (show s.getD e75 0 ≠ 45 from nbT 45 (by decide) hc6)]; rfl
      have hrn : rdV s (f + 1) p = none := rdV_bin1 hp h40 hr1 (.inr hB)
      refine WC.seq ?_
      refine WC.region ?_
      replace hH := hH.f1
      refine WL.u rfl rfl (Wt.plain rfl) (Ex.loadHp4 Try.underlying53 ty53 rfl hH) ?_
      replace hH := hH.f3
      refine WL.store4 ty53 rfl rfl rfl rfl rfl rfl (Wt.plain rfl) hH (fun wn hk hH => ?_)
      replace hV := hV.trans (hk.mono (by simp))
      refine WL.u rfl rfl (Wt.plain rfl) (Ex.assign rfl) ?_
      refine WL.next ?_
      refine WC.ret ?_
      refine WN.retThen ?_
      refine WN.cell24 rfl rfl rfl Try.underlying53 ty53 hH ?_
      exact ⟨(46, 1, 1, (some ⟨b16, 0, none⟩, 0, 0)), 0, rfl, hH.keep, by rw [hrn]; exact rfl⟩
    have hc6' := hc6; try simp only [decide_eq_true_eq, decide_eq_false_iff_not, Bool.not_eq_true', Bool.not_eq_false', Bool.not_eq_true, Bool.not_eq_false] at hc6'
    have hB : isB (s.getD e75 0) = true := by rw [show s.getD e75 0 = 45 from nbF 45 (by decide) hc6]; rfl
    have hqB : ¬ (s.length ≤ e75 ∨ isB (s.getD e75 0) = false) := by rw [hB]; simp; omega
    refine WC.skip ?_
    refine WN.next ?_
    refine WC.seq ?_
    refine WC.region ?_
    refine WL.u rfl rfl (Wt.plain rfl) (Ex.move rfl) ?_
    refine WL.u rfl rfl (Wt.plain rfl) (Ex.move rfl) ?_
    refine WL.u rfl rfl (Wt.plain rfl) (Ex.add rfl rfl (by omega)) ?_
    have hl103 := hH.lt 3 rfl
    have hw103 := hH.keep.size
    refine WL.call callable31 rfl (Wt.plain rfl) rfl rfl (ih (e75 + 1) _ (by omega) (by omega)) ?_
    rintro _ wn ⟨q103, e103, rfl, hC, hR103⟩; obtain ⟨c103, n103, m103, a103, l103, k103⟩ := q103; replace hH := hH.call hC; replace hV := hV.trans hC.nil; replace hT1 := TQ.keep hV (by intro x hx; rw [List.mem_singleton.1 hx]; exact hl75) hT1
    have hV := Keep.refl [b4] wn
    refine WL.u rfl rfl (Wt.plain rfl) (Ex.move rfl) ?_
    refine WL.u rfl rfl (Wt.plain rfl) (Ex.extract rfl rfl) ?_
    refine WL.u rfl rfl (Wt.plain rfl) (Ex.extract rfl rfl) ?_
    have hsV13 := hV.size
    refine WL.alloc ty53 rfl rfl (Wt.plain rfl) hH (fun b13 wn hb13 hk13 hH => ?_)
    replace hV := hV.trans (hk13.nil)
    refine WL.store4 ty53 rfl rfl rfl rfl rfl rfl (Wt.plain rfl) hH (fun wn hk hH => ?_)
    replace hV := hV.shr hk (by intro x hx; rw [List.mem_singleton.1 hx]; omega)
    refine WL.u rfl rfl (Wt.plain rfl) (Ex.assign rfl) ?_
    refine WL.next ?_
    refine WC.seq ?_
    refine WC.seq ?_
    refine WC.region ?_
    refine WL.u rfl rfl (Wt.plain rfl) (Ex.move rfl) ?_
    refine WL.u rfl rfl (Wt.plain rfl) (Ex.eql rfl rfl) ?_
    refine WL.u rfl rfl (Wt.plain rfl) (Ex.move rfl) ?_
    refine WL.split (t := 108) rfl (fun hg20_2 => ?_) (fun hg20_2 => ?_)
    · have hg20_2' := hg20_2; try simp only [decide_eq_true_eq, decide_eq_false_iff_not, Bool.not_eq_true', Bool.not_eq_false', Bool.not_eq_true, Bool.not_eq_false] at hg20_2'
      have hrn : rdV s (f + 1) p = none := rdV_bin2 hp h40 hr1 hqB (hR103.none (by omega))
      refine WL.pass rfl rfl (Wt.guard' rfl rfl rfl hg20_2 rfl) ?_
      refine WL.pass rfl rfl (Wt.guard' rfl rfl rfl hg20_2 rfl) ?_
      refine WL.pass rfl rfl (Wt.guard' rfl rfl rfl hg20_2 rfl) ?_
      refine WL.pass rfl rfl (Wt.guard' rfl rfl rfl hg20_2 rfl) ?_
      refine WL.u rfl rfl (Wt.plain rfl) (Ex.pickT rfl hg20_2 rfl) ?_
      refine WL.u rfl rfl (Wt.plain rfl) (Ex.move rfl) ?_
      refine WL.pass rfl rfl (Wt.guard' rfl rfl rfl rfl rfl) ?_
      refine WL.pass rfl rfl (Wt.guard' rfl rfl rfl rfl rfl) ?_
      refine WL.pass rfl rfl (Wt.guard' rfl rfl rfl rfl rfl) ?_
      refine WL.pass rfl rfl (Wt.guard' rfl rfl rfl rfl rfl) ?_
      refine WL.u rfl rfl (Wt.plain rfl) (Ex.pickT rfl rfl rfl) ?_
      refine WL.next ?_
      refine WC.condT rfl rfl ?_
      refine WC.seq ?_
      refine WC.region ?_
      replace hH := hH.f2
      refine WL.u rfl rfl (Wt.plain rfl) (Ex.loadHp4 Try.underlying53 ty53 rfl hH) ?_
      replace hH := hH.f4
      refine WL.store4 ty53 rfl rfl rfl rfl rfl rfl (Wt.plain rfl) hH (fun wn hk hH => ?_)
      replace hV := hV.trans (hk.mono (by simp))
      refine WL.u rfl rfl (Wt.plain rfl) (Ex.assign rfl) ?_
      refine WL.next ?_
      refine WC.ret ?_
      refine WN.retThen ?_
      refine WN.cell24 rfl rfl rfl Try.underlying53 ty53 hH ?_
      exact ⟨(46, 1, 1, (some ⟨b16, 0, none⟩, 0, 0)), 0, rfl, hH.keep, by rw [hrn]; exact rfl⟩
    have hg20_2' := hg20_2; try simp only [decide_eq_true_eq, decide_eq_false_iff_not, Bool.not_eq_true', Bool.not_eq_false', Bool.not_eq_true, Bool.not_eq_false] at hg20_2'
    obtain ⟨t2, hr2, hT2⟩ := hR103.some (by omega)
    obtain ⟨hri2, hv2⟩ := rdV_some hr2
    obtain ⟨hW2, hpe2, hel2⟩ := rdI_ok hri2
    refine WL.u rfl rfl (Wt.guard' rfl rfl rfl hg20_2 rfl) (Ex.move rfl) ?_
    refine WL.u rfl rfl (Wt.guard' rfl rfl rfl hg20_2 rfl) (Ex.move rfl) ?_
    refine WL.u rfl rfl (Wt.guard' rfl rfl rfl hg20_2 rfl) (Ex.lenStr Try.underlying9 rfl) ?_
    refine WL.u rfl rfl (Wt.guard' rfl rfl rfl hg20_2 rfl) (Ex.geq rfl rfl) ?_
    refine WL.u rfl rfl (Wt.plain rfl) (Ex.pickF rfl hg20_2 rfl) ?_
    refine WL.u rfl rfl (Wt.plain rfl) (Ex.move rfl) ?_
    refine WL.split (t := 114) rfl (fun hg20_8 => ?_) (fun hg20_8 => ?_)
    · have hg20_8' := hg20_8; try simp only [decide_eq_true_eq, decide_eq_false_iff_not, Bool.not_eq_true', Bool.not_eq_false', Bool.not_eq_true, Bool.not_eq_false] at hg20_8'
      have hrn : rdV s (f + 1) p = none := rdV_bin3 hp h40 hr1 hqB hr2 (.inl (by omega))
      refine WL.pass rfl rfl (Wt.guard' rfl rfl rfl hg20_8 rfl) ?_
      refine WL.pass rfl rfl (Wt.guard' rfl rfl rfl hg20_8 rfl) ?_
      refine WL.pass rfl rfl (Wt.guard' rfl rfl rfl hg20_8 rfl) ?_
      refine WL.pass rfl rfl (Wt.guard' rfl rfl rfl hg20_8 rfl) ?_
      refine WL.u rfl rfl (Wt.plain rfl) (Ex.pickT rfl hg20_8 rfl) ?_
      refine WL.next ?_
      refine WC.condT rfl rfl ?_
      refine WC.seq ?_
      refine WC.region ?_
      replace hH := hH.f2
      refine WL.u rfl rfl (Wt.plain rfl) (Ex.loadHp4 Try.underlying53 ty53 rfl hH) ?_
      replace hH := hH.f4
      refine WL.store4 ty53 rfl rfl rfl rfl rfl rfl (Wt.plain rfl) hH (fun wn hk hH => ?_)
      replace hV := hV.trans (hk.mono (by simp))
      refine WL.u rfl rfl (Wt.plain rfl) (Ex.assign rfl) ?_
      refine WL.next ?_
      refine WC.ret ?_
      refine WN.retThen ?_
      refine WN.cell24 rfl rfl rfl Try.underlying53 ty53 hH ?_
      exact ⟨(46, 1, 1, (some ⟨b16, 0, none⟩, 0, 0)), 0, rfl, hH.keep, by rw [hrn]; exact rfl⟩
    have hg20_8' := hg20_8; try simp only [decide_eq_true_eq, decide_eq_false_iff_not, Bool.not_eq_true', Bool.not_eq_false', Bool.not_eq_true, Bool.not_eq_false] at hg20_8'
    refine WL.u rfl rfl (Wt.guard' rfl rfl rfl hg20_8 rfl) (Ex.move rfl) ?_
    refine WL.u rfl rfl (Wt.guard' rfl rfl rfl hg20_8 rfl) (Ex.move rfl) ?_
    refine WL.u rfl rfl (Wt.guard' rfl rfl rfl hg20_8 rfl) (Ex.indexStr Try.underlying9 rfl rfl (by omega)) ?_
    refine WL.u rfl rfl (Wt.guard' rfl rfl rfl hg20_8 rfl) (Ex.neq rfl rfl) ?_
    refine WL.u rfl rfl (Wt.plain rfl) (Ex.pickF rfl hg20_8 rfl) ?_
    refine WL.next ?_
    refine WC.cond rfl (fun hc7 => ?_) (fun hc7 => ?_)
    · have hc7' := hc7; try simp only [decide_eq_true_eq, decide_eq_false_iff_not, Bool.not_eq_true', Bool.not_eq_false', Bool.not_eq_true, Bool.not_eq_false] at hc7'
      have hrn : rdV s (f + 1) p = none := rdV_bin3 hp h40 hr1 hqB hr2 (.inr (nbT 41 (by decide) hc7))
      refine WC.seq ?_
      refine WC.region ?_
      replace hH := hH.f2
      refine WL.u rfl rfl (Wt.plain rfl) (Ex.loadHp4 Try.underlying53 ty53 rfl hH) ?_
      replace hH := hH.f4
      refine WL.store4 ty53 rfl rfl rfl rfl rfl rfl (Wt.plain rfl) hH (fun wn hk hH => ?_)
      replace hV := hV.trans (hk.mono (by simp))
      refine WL.u rfl rfl (Wt.plain rfl) (Ex.assign rfl) ?_
      refine WL.next ?_
      refine WC.ret ?_
      refine WN.retThen ?_
      refine WN.cell24 rfl rfl rfl Try.underlying53 ty53 hH ?_
      exact ⟨(46, 1, 1, (some ⟨b16, 0, none⟩, 0, 0)), 0, rfl, hH.keep, by rw [hrn]; exact rfl⟩
    have hc7' := hc7; try simp only [decide_eq_true_eq, decide_eq_false_iff_not, Bool.not_eq_true', Bool.not_eq_false', Bool.not_eq_true, Bool.not_eq_false] at hc7'
    have h41 : s.getD e103 0 = 41 := nbF 41 (by decide) hc7
    have hqC : ¬ (s.length ≤ e103 ∨ s.getD e103 0 ≠ 41) := by rw [h41]; simp; omega
    obtain ⟨hG1, hRR1, hCC1⟩ := gridT_ok hW1 hv1
    obtain ⟨hG2, hRR2, hCC2⟩ := gridT_ok hW2 hv2
    have hz1 := hG1.n5
    have hz2 := hG1.m5
    have hz3 := hG2.n5
    have hz4 := hG2.m5
    dsimp only [nR, nC] at hRR1 hCC1 hRR2 hCC2
    obtain ⟨k11, k12, _⟩ := hT1.size
    obtain ⟨k21, k22, _⟩ := hT2.size
    dsimp only at k11 k12 k21 k22
    have hbb1 : n75 ≤ 5 ∧ m75 ≤ 5 := by rw [k11, k12, ← hRR1, ← hCC1]; exact ⟨hz1, hz2⟩
    have hbb2 : n103 ≤ 5 ∧ m103 ≤ 5 := by rw [k21, k22, ← hRR2, ← hCC2]; exact ⟨hz3, hz4⟩
    refine WC.skip ?_
    refine WN.next ?_
    refine WC.seq ?_
    have hQ := hH
    refine WC.ptree (Keep [] _) (.q 0 (.q 1 (.q 2 (.q 3 (.q 4 (.q 5 (.q 6 (.q 7 (.q 8 (.alt 9 11 (.q 10 (.f 11 (.f 12 .nil))) (.f 9 (.q 10 (.f 12 .nil))))))))))))) rfl (by kernel_rfl) (Keep.drew _ _) (fun hR => ?_)
    replace hH := hH.drew
    replace hV := hV.trans (Keep.drew _ _)
    refine WPt.q rfl rfl rfl (Wt.plain rfl) (fun w hC => Ex.move rfl) ?_
    refine WPt.q rfl rfl rfl (Wt.plain rfl) (fun w hC => Ex.move rfl) ?_
    refine WPt.q rfl rfl rfl (Wt.plain rfl) (fun w hC => Ex.indexStr Try.underlying9 rfl rfl (by omega)) ?_
    refine WPt.q rfl rfl rfl (Wt.plain rfl) (fun w hC => Ex.fieldAddr fd53_1 rfl) ?_
    refine WPt.q rfl rfl rfl (Wt.plain rfl) (fun w hC => Ex.loadK flat3 rfl (hQ.at 1 rfl) hC (by simp) rfl) ?_
    refine WPt.q rfl rfl rfl (Wt.plain rfl) (fun w hC => Ex.fieldAddr fd53_2 rfl) ?_
    refine WPt.q rfl rfl rfl (Wt.plain rfl) (fun w hC => Ex.loadK flat3 rfl (hQ.at 1 rfl) hC (by simp) rfl) ?_
    refine WPt.q rfl rfl rfl (Wt.plain rfl) (fun w hC => Ex.loadK4 Try.underlying53 ty53 rfl (hQ.at 1 rfl) hC (by simp)) ?_
    refine WPt.q rfl rfl rfl (Wt.plain rfl) (fun w hC => Ex.loadK4 Try.underlying53 ty53 rfl (hQ.at 0 rfl) hC (by simp)) ?_
    refine WPt.alt rfl rfl ?_ ?_
    · refine WL.buildSlice (pv := [(0, rQd.val (c75, n75, m75, (a75, l75, k75))), (1, rQd.val (c103, n103, m103, (a103, l103, k103)))]) Try.underlying51 ty53 rfl rfl rfl (fill_q2 (by simp) (c75, n75, m75, (a75, l75, k75)) (c103, n103, m103, (a103, l103, k103))) rfl (Wt.plain rfl) hH (fun b130 wn hb130 hk130 hH => ?_)
      have ho130 := Own.q2 (c75, n75, m75, (a75, l75, k75)) (c103, n103, m103, (a103, l103, k103))
      replace hV := hV.trans hk130.nil
      replace hR := hR.trans hk130.nil
      refine WPt.b hR ?_
      refine WPt.q rfl rfl rfl (Wt.plain rfl) (fun w hC => Ex.buildS bd53 rfl rfl rfl rfl rfl) ?_
      refine WPt.f rfl ?_
      have hsV15 := hV.size
      have hsR15 := hR.size
      refine WL.alloc ty53 rfl rfl (Wt.plain rfl) hH (fun b15 wn hb15 hk15 hH => ?_)
      replace hV := hV.trans (hk15.nil)
      replace hR := hR.trans (hk15.nil)
      refine WPt.b hR ?_
      refine WPt.f rfl ?_
      refine WL.store4 ty53 rfl rfl rfl rfl rfl rfl (Wt.plain rfl) hH (fun wn hk hH => ?_)
      replace hV := hV.shr hk (by intro x hx; rw [List.mem_singleton.1 hx]; omega)
      replace hR := hR.shrink hk (by intro x hx; rw [List.mem_singleton.1 hx]; omega)
      refine WPt.b hR ?_
      refine WPt.nil (fun hC => ?_); clear hC
      refine WN.next ?_
      refine WC.seq ?_
      refine WC.seq ?_
      refine WC.region ?_
      refine WL.u rfl rfl (Wt.plain rfl) (Ex.move rfl) ?_
      refine WL.u rfl rfl (Wt.plain rfl) (Ex.move rfl) ?_
      refine WL.u rfl rfl (Wt.plain rfl) (Ex.indexStr Try.underlying9 rfl rfl (by omega)) ?_
      refine WL.u rfl rfl (Wt.plain rfl) (Ex.eql rfl rfl) ?_
      refine WL.next ?_
      refine WC.cond rfl (fun hc8 => ?_) (fun hc8 => ?_)
      · have h124 : s.getD e75 0 = 124 := ubT 124 (by decide) hc8
        refine WC.seq ?_
        refine WC.region ?_
        refine WL.u rfl rfl (Wt.plain rfl) (Ex.fieldAddr fd53_2 rfl) ?_
        replace hH := hH.f3
        refine WL.u rfl rfl (Wt.plain rfl) (Ex.loadHp flat3 rfl hH rfl) ?_
        refine WL.u rfl rfl (Wt.plain rfl) (Ex.fieldAddr fd53_2 rfl) ?_
        replace hH := hH.f3
        refine WL.u rfl rfl (Wt.plain rfl) (Ex.loadHp flat3 rfl hH rfl) ?_
        refine WL.u rfl rfl (Wt.plain rfl) ((Ex.add rfl rfl (by show I64 ((m75 : Int) + (m103 : Int)); omega)).to (show _ = vint ((m75 + m103 : Nat) : Int) by simp)) ?_
        refine WL.u rfl rfl (Wt.plain rfl) (Ex.fieldAddr fd53_2 rfl) ?_
        replace hH := hH.f2
        refine WL.store1 ty3 rfl rfl rfl (Wt.plain rfl) hH (by first | decide | simp) rfl (fun wn hk hH => ?_)
        replace hV := hV.shr hk (by intro x hx; rw [List.mem_singleton.1 hx]; omega)
        refine WL.next ?_
        refine WC.seq ?_
        refine WC.region ?_
        refine WL.u rfl rfl (Wt.plain rfl) (Ex.fieldAddr fd53_1 rfl) ?_
        replace hH := hH.f2
        refine WL.u rfl rfl (Wt.plain rfl) (Ex.loadHp flat3 rfl hH rfl) ?_
        refine WL.u rfl rfl (Wt.plain rfl) (Ex.fieldAddr fd53_1 rfl) ?_
        replace hH := hH.f2
        refine WL.u rfl rfl (Wt.plain rfl) (Ex.loadHp flat3 rfl hH rfl) ?_
        refine WL.u rfl rfl (Wt.plain rfl) (Ex.neq rfl rfl) ?_
        refine WL.u rfl rfl (Wt.plain rfl) (Ex.move rfl) ?_
        refine WL.split (t := 147) rfl (fun hg25_5 => ?_) (fun hg25_5 => ?_)
        · have hg25_5' := hg25_5; try simp only [decide_eq_true_eq, decide_eq_false_iff_not, Bool.not_eq_true', Bool.not_eq_false', Bool.not_eq_true, Bool.not_eq_false] at hg25_5'
          have hrn : rdV s (f + 1) p = none := by rw [rdV_bin4 hp h40 hr1 hqB hr2 hqC, if_neg]; rw [if_pos h124]; intro h; have h := of_decide_eq_true h; omega
          refine WL.pass rfl rfl (Wt.guard' rfl rfl rfl hg25_5 rfl) ?_
          refine WL.pass rfl rfl (Wt.guard' rfl rfl rfl hg25_5 rfl) ?_
          refine WL.pass rfl rfl (Wt.guard' rfl rfl rfl hg25_5 rfl) ?_
          refine WL.u rfl rfl (Wt.plain rfl) (Ex.pickT rfl hg25_5 rfl) ?_
          refine WL.next ?_
          refine WC.condT rfl rfl ?_
          refine WC.seq ?_
          refine WC.region ?_
          replace hH := hH.f4
          refine WL.u rfl rfl (Wt.plain rfl) (Ex.loadHp4 Try.underlying53 ty53 rfl hH) ?_
          replace hH := hH.f6
          refine WL.store4 ty53 rfl rfl rfl rfl rfl rfl (Wt.plain rfl) hH (fun wn hk hH => ?_)
          replace hV := hV.trans (hk.mono (by simp))
          refine WL.u rfl rfl (Wt.plain rfl) (Ex.assign rfl) ?_
          refine WL.next ?_
          refine WC.ret ?_
          refine WN.retThen ?_
          refine WN.cell24 rfl rfl rfl Try.underlying53 ty53 hH ?_
          exact ⟨(46, 1, 1, (some ⟨b16, 0, none⟩, 0, 0)), 0, rfl, hH.keep, by rw [hrn]; exact rfl⟩
        have hg25_5' := hg25_5; try simp only [decide_eq_true_eq, decide_eq_false_iff_not, Bool.not_eq_true', Bool.not_eq_false', Bool.not_eq_true, Bool.not_eq_false] at hg25_5'
        refine WL.u rfl rfl (Wt.guard' rfl rfl rfl hg25_5 rfl) (Ex.fieldAddr fd53_2 rfl) ?_
        replace hH := hH.f2
        refine WL.u rfl rfl (Wt.guard' rfl rfl rfl hg25_5 rfl) (Ex.loadHp flat3 rfl hH rfl) ?_
        refine WL.u rfl rfl (Wt.guard' rfl rfl rfl hg25_5 rfl) (Ex.gtr rfl rfl) ?_
        refine WL.u rfl rfl (Wt.plain rfl) (Ex.pickF rfl hg25_5 rfl) ?_
        refine WL.next ?_
        refine WC.cond rfl (fun hc9 => ?_) (fun hc9 => ?_)
        · have hc9' := hc9; try simp only [decide_eq_true_eq, decide_eq_false_iff_not, Bool.not_eq_true', Bool.not_eq_false', Bool.not_eq_true, Bool.not_eq_false] at hc9'
          have hrn : rdV s (f + 1) p = none := by rw [rdV_bin4 hp h40 hr1 hqB hr2 hqC, if_neg]; rw [if_pos h124]; intro h; have h := of_decide_eq_true h; omega
          refine WC.seq ?_
          refine WC.region ?_
          replace hH := hH.f4
          refine WL.u rfl rfl (Wt.plain rfl) (Ex.loadHp4 Try.underlying53 ty53 rfl hH) ?_
          replace hH := hH.f6
          refine WL.store4 ty53 rfl rfl rfl rfl rfl rfl (Wt.plain rfl) hH (fun wn hk hH => ?_)
          replace hV := hV.trans (hk.mono (by simp))
          refine WL.u rfl rfl (Wt.plain rfl) (Ex.assign rfl) ?_
          refine WL.next ?_
          refine WC.ret ?_
          refine WN.retThen ?_
          refine WN.cell24 rfl rfl rfl Try.underlying53 ty53 hH ?_
          exact ⟨(46, 1, 1, (some ⟨b16, 0, none⟩, 0, 0)), 0, rfl, hH.keep, by rw [hrn]; exact rfl⟩
        have hc9' := hc9; try simp only [decide_eq_true_eq, decide_eq_false_iff_not, Bool.not_eq_true', Bool.not_eq_false', Bool.not_eq_true, Bool.not_eq_false] at hc9'
        refine WC.skip ?_
        refine WN.next ?_
        refine WC.seq ?_
        refine WC.region ?_
        refine WL.u rfl rfl (Wt.plain rfl) (Ex.loadHp4 Try.underlying53 ty53 rfl hH) ?_
        refine WL.u rfl rfl (Wt.plain rfl) (Ex.move rfl) ?_
        refine WL.u rfl rfl (Wt.plain rfl) (Ex.add rfl rfl (by omega)) ?_
        replace hH := hH.f6
        refine WL.store4 ty53 rfl rfl rfl rfl rfl rfl (Wt.plain rfl) hH (fun wn hk hH => ?_)
        replace hV := hV.trans (hk.mono (by simp))
        refine WL.u rfl rfl (Wt.plain rfl) (Ex.assign rfl) ?_
        refine WL.next ?_
        refine WC.ret ?_
        refine WN.cell24 rfl rfl rfl Try.underlying53 ty53 hH ?_
        exact ⟨(s.getD e75 0, n75, m75 + m103, (some ⟨b130, 0, none⟩, 2, 2)), e103 + 1, rfl, hH.keep, by
          rw [rdV_bin4 hp h40 hr1 hqB hr2 hqC, if_pos (by rw [if_pos h124]; exact decide_eq_true ⟨by omega, by omega⟩)]
          refine ⟨rfl, by omega, b130, 2, _, _, ?_, hH.base 4 rfl, ho130.slAt hH 4 rfl, TQ.low hw75 (TQ.keep hV (by intro x hx; rw [List.mem_singleton.1 hx]; exact hl75) hT1), TQ.low hw103 (TQ.keep hV (by intro x hx; rw [List.mem_singleton.1 hx]; exact hl103) hT2)⟩
          unfold sz
          rw [if_pos h124]
          simp only [k11, k12, k21, k22]⟩
      have h124 : s.getD e75 0 ≠ 124 := ubF 124 (by decide) hc8
      refine WC.seq ?_
      refine WC.region ?_
      refine WL.u rfl rfl (Wt.plain rfl) (Ex.fieldAddr fd53_1 rfl) ?_
      replace hH := hH.f3
      refine WL.u rfl rfl (Wt.plain rfl) (Ex.loadHp flat3 rfl hH rfl) ?_
      refine WL.u rfl rfl (Wt.plain rfl) (Ex.fieldAddr fd53_1 rfl) ?_
      replace hH := hH.f3
      refine WL.u rfl rfl (Wt.plain rfl) (Ex.loadHp flat3 rfl hH rfl) ?_
      refine WL.u rfl rfl (Wt.plain rfl) ((Ex.add rfl rfl (by show I64 ((n75 : Int) + (n103 : Int)); omega)).to (show _ = vint ((n75 + n103 : Nat) : Int) by simp)) ?_
      refine WL.u rfl rfl (Wt.plain rfl) (Ex.fieldAddr fd53_1 rfl) ?_
      replace hH := hH.f2
      refine WL.store1 ty3 rfl rfl rfl (Wt.plain rfl) hH (by first | decide | simp) rfl (fun wn hk hH => ?_)
      replace hV := hV.shr hk (by intro x hx; rw [List.mem_singleton.1 hx]; omega)
      refine WL.next ?_
      refine WC.seq ?_
      refine WC.region ?_
      refine WL.u rfl rfl (Wt.plain rfl) (Ex.fieldAddr fd53_2 rfl) ?_
      replace hH := hH.f2
      refine WL.u rfl rfl (Wt.plain rfl) (Ex.loadHp flat3 rfl hH rfl) ?_
      refine WL.u rfl rfl (Wt.plain rfl) (Ex.fieldAddr fd53_2 rfl) ?_
      replace hH := hH.f2
      refine WL.u rfl rfl (Wt.plain rfl) (Ex.loadHp flat3 rfl hH rfl) ?_
      refine WL.u rfl rfl (Wt.plain rfl) (Ex.neq rfl rfl) ?_
      refine WL.u rfl rfl (Wt.plain rfl) (Ex.move rfl) ?_
      refine WL.split (t := 164) rfl (fun hg28_5 => ?_) (fun hg28_5 => ?_)
      · have hg28_5' := hg28_5; try simp only [decide_eq_true_eq, decide_eq_false_iff_not, Bool.not_eq_true', Bool.not_eq_false', Bool.not_eq_true, Bool.not_eq_false] at hg28_5'
        have hrn : rdV s (f + 1) p = none := by rw [rdV_bin4 hp h40 hr1 hqB hr2 hqC, if_neg]; rw [if_neg h124]; intro h; have h := of_decide_eq_true h; omega
        refine WL.pass rfl rfl (Wt.guard' rfl rfl rfl hg28_5 rfl) ?_
        refine WL.pass rfl rfl (Wt.guard' rfl rfl rfl hg28_5 rfl) ?_
        refine WL.pass rfl rfl (Wt.guard' rfl rfl rfl hg28_5 rfl) ?_
        refine WL.u rfl rfl (Wt.plain rfl) (Ex.pickT rfl hg28_5 rfl) ?_
        refine WL.next ?_
        refine WC.condT rfl rfl ?_
        refine WC.seq ?_
        refine WC.region ?_
        replace hH := hH.f4
        refine WL.u rfl rfl (Wt.plain rfl) (Ex.loadHp4 Try.underlying53 ty53 rfl hH) ?_
        replace hH := hH.f6
        refine WL.store4 ty53 rfl rfl rfl rfl rfl rfl (Wt.plain rfl) hH (fun wn hk hH => ?_)
        replace hV := hV.trans (hk.mono (by simp))
        refine WL.u rfl rfl (Wt.plain rfl) (Ex.assign rfl) ?_
        refine WL.next ?_
        refine WC.ret ?_
        refine WN.retThen ?_
        refine WN.cell24 rfl rfl rfl Try.underlying53 ty53 hH ?_
        exact ⟨(46, 1, 1, (some ⟨b16, 0, none⟩, 0, 0)), 0, rfl, hH.keep, by rw [hrn]; exact rfl⟩
      have hg28_5' := hg28_5; try simp only [decide_eq_true_eq, decide_eq_false_iff_not, Bool.not_eq_true', Bool.not_eq_false', Bool.not_eq_true, Bool.not_eq_false] at hg28_5'
      refine WL.u rfl rfl (Wt.guard' rfl rfl rfl hg28_5 rfl) (Ex.fieldAddr fd53_1 rfl) ?_
      replace hH := hH.f2
      refine WL.u rfl rfl (Wt.guard' rfl rfl rfl hg28_5 rfl) (Ex.loadHp flat3 rfl hH rfl) ?_
      refine WL.u rfl rfl (Wt.guard' rfl rfl rfl hg28_5 rfl) (Ex.gtr rfl rfl) ?_
      refine WL.u rfl rfl (Wt.plain rfl) (Ex.pickF rfl hg28_5 rfl) ?_
      refine WL.next ?_
      refine WC.cond rfl (fun hc10 => ?_) (fun hc10 => ?_)
      · have hc10' := hc10; try simp only [decide_eq_true_eq, decide_eq_false_iff_not, Bool.not_eq_true', Bool.not_eq_false', Bool.not_eq_true, Bool.not_eq_false] at hc10'
        have hrn : rdV s (f + 1) p = none := by rw [rdV_bin4 hp h40 hr1 hqB hr2 hqC, if_neg]; rw [if_neg h124]; intro h; have h := of_decide_eq_true h; omega
        refine WC.seq ?_
        refine WC.region ?_
        replace hH := hH.f4
        refine WL.u rfl rfl (Wt.plain rfl) (Ex.loadHp4 Try.underlying53 ty53 rfl hH) ?_
        replace hH := hH.f6
        refine WL.store4 ty53 rfl rfl rfl rfl rfl rfl (Wt.plain rfl) hH (fun wn hk hH => ?_)
        replace hV := hV.trans (hk.mono (by simp))
        refine WL.u rfl rfl (Wt.plain rfl) (Ex.assign rfl) ?_
        refine WL.next ?_
        refine WC.ret ?_
        refine WN.retThen ?_
        refine WN.cell24 rfl rfl rfl Try.underlying53 ty53 hH ?_
        exact ⟨(46, 1, 1, (some ⟨b16, 0, none⟩, 0, 0)), 0, rfl, hH.keep, by rw [hrn]; exact rfl⟩
      have hc10' := hc10; try simp only [decide_eq_true_eq, decide_eq_false_iff_not, Bool.not_eq_true', Bool.not_eq_false', Bool.not_eq_true, Bool.not_eq_false] at hc10'
      refine WC.skip ?_
      refine WN.next ?_
      refine WC.seq ?_
      refine WC.region ?_
      refine WL.u rfl rfl (Wt.plain rfl) (Ex.loadHp4 Try.underlying53 ty53 rfl hH) ?_
      refine WL.u rfl rfl (Wt.plain rfl) (Ex.move rfl) ?_
      refine WL.u rfl rfl (Wt.plain rfl) (Ex.add rfl rfl (by omega)) ?_
      replace hH := hH.f6
      refine WL.store4 ty53 rfl rfl rfl rfl rfl rfl (Wt.plain rfl) hH (fun wn hk hH => ?_)
      replace hV := hV.trans (hk.mono (by simp))
      refine WL.u rfl rfl (Wt.plain rfl) (Ex.assign rfl) ?_
      refine WL.next ?_
      refine WC.ret ?_
      refine WN.cell24 rfl rfl rfl Try.underlying53 ty53 hH ?_
      exact ⟨(s.getD e75 0, n75 + n103, m75, (some ⟨b130, 0, none⟩, 2, 2)), e103 + 1, rfl, hH.keep, by
        rw [rdV_bin4 hp h40 hr1 hqB hr2 hqC, if_pos (by rw [if_neg h124]; exact decide_eq_true ⟨by omega, by omega⟩)]
        refine ⟨rfl, by omega, b130, 2, _, _, ?_, hH.base 4 rfl, ho130.slAt hH 4 rfl, TQ.low hw75 (TQ.keep hV (by intro x hx; rw [List.mem_singleton.1 hx]; exact hl75) hT1), TQ.low hw103 (TQ.keep hV (by intro x hx; rw [List.mem_singleton.1 hx]; exact hl103) hT2)⟩
        unfold sz
        rw [if_neg h124]
        simp only [k11, k12, k21, k22]⟩
    have hsV15 := hV.size
    have hsR15 := hR.size
    refine WL.alloc ty53 rfl rfl (Wt.plain rfl) hH (fun b15 wn hb15 hk15 hH => ?_)
    replace hV := hV.trans (hk15.nil)
    replace hR := hR.trans (hk15.nil)
    refine WPt.b hR ?_
    refine WPt.f rfl ?_
    refine WL.buildSlice (pv := [(0, rQd.val (c75, n75, m75, (a75, l75, k75))), (1, rQd.val (c103, n103, m103, (a103, l103, k103)))]) Try.underlying51 ty53 rfl rfl rfl (fill_q2 (by simp) (c75, n75, m75, (a75, l75, k75)) (c103, n103, m103, (a103, l103, k103))) rfl (Wt.plain rfl) hH (fun b130 wn hb130 hk130 hH => ?_)
    have ho130 := Own.q2 (c75, n75, m75, (a75, l75, k75)) (c103, n103, m103, (a103, l103, k103))
    replace hV := hV.trans hk130.nil
    replace hR := hR.trans hk130.nil
    refine WPt.b hR ?_
    refine WPt.q rfl rfl rfl (Wt.plain rfl) (fun w hC => Ex.buildS bd53 rfl rfl rfl rfl rfl) ?_
    refine WPt.f rfl ?_
    replace hH := hH.f1
    refine WL.store4 ty53 rfl rfl rfl rfl rfl rfl (Wt.plain rfl) hH (fun wn hk hH => ?_)
    replace hV := hV.shr hk (by intro x hx; rw [List.mem_singleton.1 hx]; omega)
    replace hR := hR.shrink hk (by intro x hx; rw [List.mem_singleton.1 hx]; omega)
    refine WPt.b hR ?_
    refine WPt.nil (fun hC => ?_); clear hC
    refine WN.next ?_
    refine WC.seq ?_
    refine WC.seq ?_
    refine WC.region ?_
    refine WL.u rfl rfl (Wt.plain rfl) (Ex.move rfl) ?_
    refine WL.u rfl rfl (Wt.plain rfl) (Ex.move rfl) ?_
    refine WL.u rfl rfl (Wt.plain rfl) (Ex.indexStr Try.underlying9 rfl rfl (by omega)) ?_
    refine WL.u rfl rfl (Wt.plain rfl) (Ex.eql rfl rfl) ?_
    refine WL.next ?_
    refine WC.cond rfl (fun hc8 => ?_) (fun hc8 => ?_)
    · have h124 : s.getD e75 0 = 124 := ubT 124 (by decide) hc8
      refine WC.seq ?_
      refine WC.region ?_
      refine WL.u rfl rfl (Wt.plain rfl) (Ex.fieldAddr fd53_2 rfl) ?_
      replace hH := hH.f3
      refine WL.u rfl rfl (Wt.plain rfl) (Ex.loadHp flat3 rfl hH rfl) ?_
      refine WL.u rfl rfl (Wt.plain rfl) (Ex.fieldAddr fd53_2 rfl) ?_
      replace hH := hH.f3
      refine WL.u rfl rfl (Wt.plain rfl) (Ex.loadHp flat3 rfl hH rfl) ?_
      refine WL.u rfl rfl (Wt.plain rfl) ((Ex.add rfl rfl (by show I64 ((m75 : Int) + (m103 : Int)); omega)).to (show _ = vint ((m75 + m103 : Nat) : Int) by simp)) ?_
      refine WL.u rfl rfl (Wt.plain rfl) (Ex.fieldAddr fd53_2 rfl) ?_
      replace hH := hH.f2
      refine WL.store1 ty3 rfl rfl rfl (Wt.plain rfl) hH (by first | decide | simp) rfl (fun wn hk hH => ?_)
      replace hV := hV.shr hk (by intro x hx; rw [List.mem_singleton.1 hx]; omega)
      refine WL.next ?_
      refine WC.seq ?_
      refine WC.region ?_
      refine WL.u rfl rfl (Wt.plain rfl) (Ex.fieldAddr fd53_1 rfl) ?_
      replace hH := hH.f2
      refine WL.u rfl rfl (Wt.plain rfl) (Ex.loadHp flat3 rfl hH rfl) ?_
      refine WL.u rfl rfl (Wt.plain rfl) (Ex.fieldAddr fd53_1 rfl) ?_
      replace hH := hH.f2
      refine WL.u rfl rfl (Wt.plain rfl) (Ex.loadHp flat3 rfl hH rfl) ?_
      refine WL.u rfl rfl (Wt.plain rfl) (Ex.neq rfl rfl) ?_
      refine WL.u rfl rfl (Wt.plain rfl) (Ex.move rfl) ?_
      refine WL.split (t := 147) rfl (fun hg25_5 => ?_) (fun hg25_5 => ?_)
      · have hg25_5' := hg25_5; try simp only [decide_eq_true_eq, decide_eq_false_iff_not, Bool.not_eq_true', Bool.not_eq_false', Bool.not_eq_true, Bool.not_eq_false] at hg25_5'
        have hrn : rdV s (f + 1) p = none := by rw [rdV_bin4 hp h40 hr1 hqB hr2 hqC, if_neg]; rw [if_pos h124]; intro h; have h := of_decide_eq_true h; omega
        refine WL.pass rfl rfl (Wt.guard' rfl rfl rfl hg25_5 rfl) ?_
        refine WL.pass rfl rfl (Wt.guard' rfl rfl rfl hg25_5 rfl) ?_
        refine WL.pass rfl rfl (Wt.guard' rfl rfl rfl hg25_5 rfl) ?_
        refine WL.u rfl rfl (Wt.plain rfl) (Ex.pickT rfl hg25_5 rfl) ?_
        refine WL.next ?_
        refine WC.condT rfl rfl ?_
        refine WC.seq ?_
        refine WC.region ?_
        replace hH := hH.f4
        refine WL.u rfl rfl (Wt.plain rfl) (Ex.loadHp4 Try.underlying53 ty53 rfl hH) ?_
        replace hH := hH.f6
        refine WL.store4 ty53 rfl rfl rfl rfl rfl rfl (Wt.plain rfl) hH (fun wn hk hH => ?_)
        replace hV := hV.trans (hk.mono (by simp))
        refine WL.u rfl rfl (Wt.plain rfl) (Ex.assign rfl) ?_
        refine WL.next ?_
        refine WC.ret ?_
        refine WN.retThen ?_
        refine WN.cell24 rfl rfl rfl Try.underlying53 ty53 hH ?_
        exact ⟨(46, 1, 1, (some ⟨b16, 0, none⟩, 0, 0)), 0, rfl, hH.keep, by rw [hrn]; exact rfl⟩
      have hg25_5' := hg25_5; try simp only [decide_eq_true_eq, decide_eq_false_iff_not, Bool.not_eq_true', Bool.not_eq_false', Bool.not_eq_true, Bool.not_eq_false] at hg25_5'
      refine WL.u rfl rfl (Wt.guard' rfl rfl rfl hg25_5 rfl) (Ex.fieldAddr fd53_2 rfl) ?_
      replace hH := hH.f2
      refine WL.u rfl rfl (Wt.guard' rfl rfl rfl hg25_5 rfl) (Ex.loadHp flat3 rfl hH rfl) ?_
      refine WL.u rfl rfl (Wt.guard' rfl rfl rfl hg25_5 rfl) (Ex.gtr rfl rfl) ?_
      refine WL.u rfl rfl (Wt.plain rfl) (Ex.pickF rfl hg25_5 rfl) ?_
      refine WL.next ?_
      refine WC.cond rfl (fun hc9 => ?_) (fun hc9 => ?_)
      · have hc9' := hc9; try simp only [decide_eq_true_eq, decide_eq_false_iff_not, Bool.not_eq_true', Bool.not_eq_false', Bool.not_eq_true, Bool.not_eq_false] at hc9'
        have hrn : rdV s (f + 1) p = none := by rw [rdV_bin4 hp h40 hr1 hqB hr2 hqC, if_neg]; rw [if_pos h124]; intro h; have h := of_decide_eq_true h; omega
        refine WC.seq ?_
        refine WC.region ?_
        replace hH := hH.f4
        refine WL.u rfl rfl (Wt.plain rfl) (Ex.loadHp4 Try.underlying53 ty53 rfl hH) ?_
        replace hH := hH.f6
        refine WL.store4 ty53 rfl rfl rfl rfl rfl rfl (Wt.plain rfl) hH (fun wn hk hH => ?_)
        replace hV := hV.trans (hk.mono (by simp))
        refine WL.u rfl rfl (Wt.plain rfl) (Ex.assign rfl) ?_
        refine WL.next ?_
        refine WC.ret ?_
        refine WN.retThen ?_
        refine WN.cell24 rfl rfl rfl Try.underlying53 ty53 hH ?_
        exact ⟨(46, 1, 1, (some ⟨b16, 0, none⟩, 0, 0)), 0, rfl, hH.keep, by rw [hrn]; exact rfl⟩
      have hc9' := hc9; try simp only [decide_eq_true_eq, decide_eq_false_iff_not, Bool.not_eq_true', Bool.not_eq_false', Bool.not_eq_true, Bool.not_eq_false] at hc9'
      refine WC.skip ?_
      refine WN.next ?_
      refine WC.seq ?_
      refine WC.region ?_
      refine WL.u rfl rfl (Wt.plain rfl) (Ex.loadHp4 Try.underlying53 ty53 rfl hH) ?_
      refine WL.u rfl rfl (Wt.plain rfl) (Ex.move rfl) ?_
      refine WL.u rfl rfl (Wt.plain rfl) (Ex.add rfl rfl (by omega)) ?_
      replace hH := hH.f6
      refine WL.store4 ty53 rfl rfl rfl rfl rfl rfl (Wt.plain rfl) hH (fun wn hk hH => ?_)
      replace hV := hV.trans (hk.mono (by simp))
      refine WL.u rfl rfl (Wt.plain rfl) (Ex.assign rfl) ?_
      refine WL.next ?_
      refine WC.ret ?_
      refine WN.cell24 rfl rfl rfl Try.underlying53 ty53 hH ?_
      exact ⟨(s.getD e75 0, n75, m75 + m103, (some ⟨b130, 0, none⟩, 2, 2)), e103 + 1, rfl, hH.keep, by
        rw [rdV_bin4 hp h40 hr1 hqB hr2 hqC, if_pos (by rw [if_pos h124]; exact decide_eq_true ⟨by omega, by omega⟩)]
        refine ⟨rfl, by omega, b130, 2, _, _, ?_, hH.base 4 rfl, ho130.slAt hH 4 rfl, TQ.low hw75 (TQ.keep hV (by intro x hx; rw [List.mem_singleton.1 hx]; exact hl75) hT1), TQ.low hw103 (TQ.keep hV (by intro x hx; rw [List.mem_singleton.1 hx]; exact hl103) hT2)⟩
        unfold sz
        rw [if_pos h124]
        simp only [k11, k12, k21, k22]⟩
    have h124 : s.getD e75 0 ≠ 124 := ubF 124 (by decide) hc8
    refine WC.seq ?_
    refine WC.region ?_
    refine WL.u rfl rfl (Wt.plain rfl) (Ex.fieldAddr fd53_1 rfl) ?_
    replace hH := hH.f3
    refine WL.u rfl rfl (Wt.plain rfl) (Ex.loadHp flat3 rfl hH rfl) ?_
    refine WL.u rfl rfl (Wt.plain rfl) (Ex.fieldAddr fd53_1 rfl) ?_
    replace hH := hH.f3
    refine WL.u rfl rfl (Wt.plain rfl) (Ex.loadHp flat3 rfl hH rfl) ?_
    refine WL.u rfl rfl (Wt.plain rfl) ((Ex.add rfl rfl (by show I64 ((n75 : Int) + (n103 : Int)); omega)).to (show _ = vint ((n75 + n103 : Nat) : Int) by simp)) ?_
    refine WL.u rfl rfl (Wt.plain rfl) (Ex.fieldAddr fd53_1 rfl) ?_
    replace hH := hH.f2
    refine WL.store1 ty3 rfl rfl rfl (Wt.plain rfl) hH (by first | decide | simp) rfl (fun wn hk hH => ?_)
    replace hV := hV.shr hk (by intro x hx; rw [List.mem_singleton.1 hx]; omega)
    refine WL.next ?_
    refine WC.seq ?_
    refine WC.region ?_
    refine WL.u rfl rfl (Wt.plain rfl) (Ex.fieldAddr fd53_2 rfl) ?_
    replace hH := hH.f2
    refine WL.u rfl rfl (Wt.plain rfl) (Ex.loadHp flat3 rfl hH rfl) ?_
    refine WL.u rfl rfl (Wt.plain rfl) (Ex.fieldAddr fd53_2 rfl) ?_
    replace hH := hH.f2
    refine WL.u rfl rfl (Wt.plain rfl) (Ex.loadHp flat3 rfl hH rfl) ?_
    refine WL.u rfl rfl (Wt.plain rfl) (Ex.neq rfl rfl) ?_
    refine WL.u rfl rfl (Wt.plain rfl) (Ex.move rfl) ?_
    refine WL.split (t := 164) rfl (fun hg28_5 => ?_) (fun hg28_5 => ?_)
    · have hg28_5' := hg28_5; try simp only [decide_eq_true_eq, decide_eq_false_iff_not, Bool.not_eq_true', Bool.not_eq_false', Bool.not_eq_true, Bool.not_eq_false] at hg28_5'
      have hrn : rdV s (f + 1) p = none := by rw [rdV_bin4 hp h40 hr1 hqB hr2 hqC, if_neg]; rw [if_neg h124]; intro h; have h := of_decide_eq_true h; omega
      refine WL.pass rfl rfl (Wt.guard' rfl rfl rfl hg28_5 rfl) ?_
      refine WL.pass rfl rfl (Wt.guard' rfl rfl rfl hg28_5 rfl) ?_
      refine WL.pass rfl rfl (Wt.guard' rfl rfl rfl hg28_5 rfl) ?_
      refine WL.u rfl rfl (Wt.plain rfl) (Ex.pickT rfl hg28_5 rfl) ?_
      refine WL.next ?_
      refine WC.condT rfl rfl ?_
      refine WC.seq ?_
      refine WC.region ?_
      replace hH := hH.f4
      refine WL.u rfl rfl (Wt.plain rfl) (Ex.loadHp4 Try.underlying53 ty53 rfl hH) ?_
      replace hH := hH.f6
      refine WL.store4 ty53 rfl rfl rfl rfl rfl rfl (Wt.plain rfl) hH (fun wn hk hH => ?_)
      replace hV := hV.trans (hk.mono (by simp))
      refine WL.u rfl rfl (Wt.plain rfl) (Ex.assign rfl) ?_
      refine WL.next ?_
      refine WC.ret ?_
      refine WN.retThen ?_
      refine WN.cell24 rfl rfl rfl Try.underlying53 ty53 hH ?_
      exact ⟨(46, 1, 1, (some ⟨b16, 0, none⟩, 0, 0)), 0, rfl, hH.keep, by rw [hrn]; exact rfl⟩
    have hg28_5' := hg28_5; try simp only [decide_eq_true_eq, decide_eq_false_iff_not, Bool.not_eq_true', Bool.not_eq_false', Bool.not_eq_true, Bool.not_eq_false] at hg28_5'
    refine WL.u rfl rfl (Wt.guard' rfl rfl rfl hg28_5 rfl) (Ex.fieldAddr fd53_1 rfl) ?_
    replace hH := hH.f2
    refine WL.u rfl rfl (Wt.guard' rfl rfl rfl hg28_5 rfl) (Ex.loadHp flat3 rfl hH rfl) ?_
    refine WL.u rfl rfl (Wt.guard' rfl rfl rfl hg28_5 rfl) (Ex.gtr rfl rfl) ?_
    refine WL.u rfl rfl (Wt.plain rfl) (Ex.pickF rfl hg28_5 rfl) ?_
    refine WL.next ?_
    refine WC.cond rfl (fun hc10 => ?_) (fun hc10 => ?_)
    · have hc10' := hc10; try simp only [decide_eq_true_eq, decide_eq_false_iff_not, Bool.not_eq_true', Bool.not_eq_false', Bool.not_eq_true, Bool.not_eq_false] at hc10'
      have hrn : rdV s (f + 1) p = none := by rw [rdV_bin4 hp h40 hr1 hqB hr2 hqC, if_neg]; rw [if_neg h124]; intro h; have h := of_decide_eq_true h; omega
      refine WC.seq ?_
      refine WC.region ?_
      replace hH := hH.f4
      refine WL.u rfl rfl (Wt.plain rfl) (Ex.loadHp4 Try.underlying53 ty53 rfl hH) ?_
      replace hH := hH.f6
      refine WL.store4 ty53 rfl rfl rfl rfl rfl rfl (Wt.plain rfl) hH (fun wn hk hH => ?_)
      replace hV := hV.trans (hk.mono (by simp))
      refine WL.u rfl rfl (Wt.plain rfl) (Ex.assign rfl) ?_
      refine WL.next ?_
      refine WC.ret ?_
      refine WN.retThen ?_
      refine WN.cell24 rfl rfl rfl Try.underlying53 ty53 hH ?_
      exact ⟨(46, 1, 1, (some ⟨b16, 0, none⟩, 0, 0)), 0, rfl, hH.keep, by rw [hrn]; exact rfl⟩
    have hc10' := hc10; try simp only [decide_eq_true_eq, decide_eq_false_iff_not, Bool.not_eq_true', Bool.not_eq_false', Bool.not_eq_true, Bool.not_eq_false] at hc10'
    refine WC.skip ?_
    refine WN.next ?_
    refine WC.seq ?_
    refine WC.region ?_
    refine WL.u rfl rfl (Wt.plain rfl) (Ex.loadHp4 Try.underlying53 ty53 rfl hH) ?_
    refine WL.u rfl rfl (Wt.plain rfl) (Ex.move rfl) ?_
    refine WL.u rfl rfl (Wt.plain rfl) (Ex.add rfl rfl (by omega)) ?_
    replace hH := hH.f6
    refine WL.store4 ty53 rfl rfl rfl rfl rfl rfl (Wt.plain rfl) hH (fun wn hk hH => ?_)
    replace hV := hV.trans (hk.mono (by simp))
    refine WL.u rfl rfl (Wt.plain rfl) (Ex.assign rfl) ?_
    refine WL.next ?_
    refine WC.ret ?_
    refine WN.cell24 rfl rfl rfl Try.underlying53 ty53 hH ?_
    exact ⟨(s.getD e75 0, n75 + n103, m75, (some ⟨b130, 0, none⟩, 2, 2)), e103 + 1, rfl, hH.keep, by
      rw [rdV_bin4 hp h40 hr1 hqB hr2 hqC, if_pos (by rw [if_neg h124]; exact decide_eq_true ⟨by omega, by omega⟩)]
      refine ⟨rfl, by omega, b130, 2, _, _, ?_, hH.base 4 rfl, ho130.slAt hH 4 rfl, TQ.low hw75 (TQ.keep hV (by intro x hx; rw [List.mem_singleton.1 hx]; exact hl75) hT1), TQ.low hw103 (TQ.keep hV (by intro x hx; rw [List.mem_singleton.1 hx]; exact hl103) hT2)⟩
      unfold sz
      rw [if_neg h124]
      simp only [k11, k12, k21, k22]⟩
  have hg17_13' := hg17_13; try simp only [decide_eq_true_eq, decide_eq_false_iff_not, Bool.not_eq_true', Bool.not_eq_false', Bool.not_eq_true, Bool.not_eq_false] at hg17_13'
  have hB : isB (s.getD e75 0) = true := by rw [show s.getD e75 0 = 124 from nbF 124 (by decide) hg17_13]; rfl
  have hqB : ¬ (s.length ≤ e75 ∨ isB (s.getD e75 0) = false) := by rw [hB]; simp; omega
  refine WL.pass rfl rfl (Wt.guard' rfl rfl rfl hg17_13 rfl) ?_
  refine WL.pass rfl rfl (Wt.guard' rfl rfl rfl hg17_13 rfl) ?_
  refine WL.pass rfl rfl (Wt.guard' rfl rfl rfl hg17_13 rfl) ?_
  refine WL.pass rfl rfl (Wt.guard' rfl rfl rfl hg17_13 rfl) ?_
  refine WL.u rfl rfl (Wt.guard' rfl rfl rfl hg17_8 rfl) (Ex.pickF rfl hg17_13 rfl) ?_
  refine WL.u rfl rfl (Wt.plain rfl) (Ex.pickF rfl hg17_8 rfl) ?_
  refine WL.next ?_
  refine WC.condF rfl rfl ?_
  refine WC.skip ?_
  refine WN.next ?_
  refine WC.seq ?_
  refine WC.region ?_
  refine WL.u rfl rfl (Wt.plain rfl) (Ex.move rfl) ?_
  refine WL.u rfl rfl (Wt.plain rfl) (Ex.move rfl) ?_
  refine WL.u rfl rfl (Wt.plain rfl) (Ex.add rfl rfl (by omega)) ?_
  have hl103 := hH.lt 3 rfl
  have hw103 := hH.keep.size
  refine WL.call callable31 rfl (Wt.plain rfl) rfl rfl (ih (e75 + 1) _ (by omega) (by omega)) ?_
  rintro _ wn ⟨q103, e103, rfl, hC, hR103⟩; obtain ⟨c103, n103, m103, a103, l103, k103⟩ := q103; replace hH := hH.call hC; replace hV := hV.trans hC.nil; replace hT1 := TQ.keep hV (by intro x hx; rw [List.mem_singleton.1 hx]; exact hl75) hT1
  have hV := Keep.refl [b4] wn
  refine WL.u rfl rfl (Wt.plain rfl) (Ex.move rfl) ?_
  refine WL.u rfl rfl (Wt.plain rfl) (Ex.extract rfl rfl) ?_
  refine WL.u rfl rfl (Wt.plain rfl) (Ex.extract rfl rfl) ?_
  have hsV13 := hV.size
  refine WL.alloc ty53 rfl rfl (Wt.plain rfl) hH (fun b13 wn hb13 hk13 hH => ?_)
  replace hV := hV.trans (hk13.nil)
  refine WL.store4 ty53 rfl rfl rfl rfl rfl rfl (Wt.plain rfl) hH (fun wn hk hH => ?_)
  replace hV := hV.shr hk (by intro x hx; rw [List.mem_singleton.1 hx]; omega)
  refine WL.u rfl rfl (Wt.plain rfl) (Ex.assign rfl) ?_
  refine WL.next ?_
  refine WC.seq ?_
  refine WC.seq ?_
  refine WC.region ?_
  refine WL.u rfl rfl (Wt.plain rfl) (Ex.move rfl) ?_
  refine WL.u rfl rfl (Wt.plain rfl) (Ex.eql rfl rfl) ?_
  refine WL.u rfl rfl (Wt.plain rfl) (Ex.move rfl) ?_
  refine WL.split (t := 108) rfl (fun hg20_2 => ?_) (fun hg20_2 => ?_)
  · have hg20_2' := hg20_2; try simp only [decide_eq_true_eq, decide_eq_false_iff_not, Bool.not_eq_true', Bool.not_eq_false', Bool.not_eq_true, Bool.not_eq_false] at hg20_2'
    have hrn : rdV s (f + 1) p = none := rdV_bin2 hp h40 hr1 hqB (hR103.none (by omega))
    refine WL.pass rfl rfl (Wt.guard' rfl rfl rfl hg20_2 rfl) ?_
    refine WL.pass rfl rfl (Wt.guard' rfl rfl rfl hg20_2 rfl) ?_
    refine WL.pass rfl rfl (Wt.guard' rfl rfl rfl hg20_2 rfl) ?_
    refine WL.pass rfl rfl (Wt.guard' rfl rfl rfl hg20_2 rfl) ?_
    refine WL.u rfl rfl (Wt.plain rfl) (Ex.pickT rfl hg20_2 rfl) ?_
    refine WL.u rfl rfl (Wt.plain rfl) (Ex.move rfl) ?_
    refine WL.pass rfl rfl (Wt.guard' rfl rfl rfl rfl rfl) ?_
    refine WL.pass rfl rfl (Wt.guard' rfl rfl rfl rfl rfl) ?_
    refine WL.pass rfl rfl (Wt.guard' rfl rfl rfl rfl rfl) ?_
    refine WL.pass rfl rfl (Wt.guard' rfl rfl rfl rfl rfl) ?_
    refine WL.u rfl rfl (Wt.plain rfl) (Ex.pickT rfl rfl rfl) ?_
    refine WL.next ?_
    refine WC.condT rfl rfl ?_
    refine WC.seq ?_
    refine WC.region ?_
    replace hH := hH.f2
    refine WL.u rfl rfl (Wt.plain rfl) (Ex.loadHp4 Try.underlying53 ty53 rfl hH) ?_
    replace hH := hH.f4
    refine WL.store4 ty53 rfl rfl rfl rfl rfl rfl (Wt.plain rfl) hH (fun wn hk hH => ?_)
    replace hV := hV.trans (hk.mono (by simp))
    refine WL.u rfl rfl (Wt.plain rfl) (Ex.assign rfl) ?_
    refine WL.next ?_
    refine WC.ret ?_
    refine WN.retThen ?_
    refine WN.cell24 rfl rfl rfl Try.underlying53 ty53 hH ?_
    exact ⟨(46, 1, 1, (some ⟨b16, 0, none⟩, 0, 0)), 0, rfl, hH.keep, by rw [hrn]; exact rfl⟩
  have hg20_2' := hg20_2; try simp only [decide_eq_true_eq, decide_eq_false_iff_not, Bool.not_eq_true', Bool.not_eq_false', Bool.not_eq_true, Bool.not_eq_false] at hg20_2'
  obtain ⟨t2, hr2, hT2⟩ := hR103.some (by omega)
  obtain ⟨hri2, hv2⟩ := rdV_some hr2
  obtain ⟨hW2, hpe2, hel2⟩ := rdI_ok hri2
  refine WL.u rfl rfl (Wt.guard' rfl rfl rfl hg20_2 rfl) (Ex.move rfl) ?_
  refine WL.u rfl rfl (Wt.guard' rfl rfl rfl hg20_2 rfl) (Ex.move rfl) ?_
  refine WL.u rfl rfl (Wt.guard' rfl rfl rfl hg20_2 rfl) (Ex.lenStr Try.underlying9 rfl) ?_
  refine WL.u rfl rfl (Wt.guard' rfl rfl rfl hg20_2 rfl) (Ex.geq rfl rfl) ?_
  refine WL.u rfl rfl (Wt.plain rfl) (Ex.pickF rfl hg20_2 rfl) ?_
  refine WL.u rfl rfl (Wt.plain rfl) (Ex.move rfl) ?_
  refine WL.split (t := 114) rfl (fun hg20_8 => ?_) (fun hg20_8 => ?_)
  · have hg20_8' := hg20_8; try simp only [decide_eq_true_eq, decide_eq_false_iff_not, Bool.not_eq_true', Bool.not_eq_false', Bool.not_eq_true, Bool.not_eq_false] at hg20_8'
    have hrn : rdV s (f + 1) p = none := rdV_bin3 hp h40 hr1 hqB hr2 (.inl (by omega))
    refine WL.pass rfl rfl (Wt.guard' rfl rfl rfl hg20_8 rfl) ?_
    refine WL.pass rfl rfl (Wt.guard' rfl rfl rfl hg20_8 rfl) ?_
    refine WL.pass rfl rfl (Wt.guard' rfl rfl rfl hg20_8 rfl) ?_
    refine WL.pass rfl rfl (Wt.guard' rfl rfl rfl hg20_8 rfl) ?_
    refine WL.u rfl rfl (Wt.plain rfl) (Ex.pickT rfl hg20_8 rfl) ?_
    refine WL.next ?_
    refine WC.condT rfl rfl ?_
    refine WC.seq ?_
    refine WC.region ?_
    replace hH := hH.f2
    refine WL.u rfl rfl (Wt.plain rfl) (Ex.loadHp4 Try.underlying53 ty53 rfl hH) ?_
    replace hH := hH.f4
    refine WL.store4 ty53 rfl rfl rfl rfl rfl rfl (Wt.plain rfl) hH (fun wn hk hH => ?_)
    replace hV := hV.trans (hk.mono (by simp))
    refine WL.u rfl rfl (Wt.plain rfl) (Ex.assign rfl) ?_
    refine WL.next ?_
    refine WC.ret ?_
    refine WN.retThen ?_
    refine WN.cell24 rfl rfl rfl Try.underlying53 ty53 hH ?_
    exact ⟨(46, 1, 1, (some ⟨b16, 0, none⟩, 0, 0)), 0, rfl, hH.keep, by rw [hrn]; exact rfl⟩
  have hg20_8' := hg20_8; try simp only [decide_eq_true_eq, decide_eq_false_iff_not, Bool.not_eq_true', Bool.not_eq_false', Bool.not_eq_true, Bool.not_eq_false] at hg20_8'
  refine WL.u rfl rfl (Wt.guard' rfl rfl rfl hg20_8 rfl) (Ex.move rfl) ?_
  refine WL.u rfl rfl (Wt.guard' rfl rfl rfl hg20_8 rfl) (Ex.move rfl) ?_
  refine WL.u rfl rfl (Wt.guard' rfl rfl rfl hg20_8 rfl) (Ex.indexStr Try.underlying9 rfl rfl (by omega)) ?_
  refine WL.u rfl rfl (Wt.guard' rfl rfl rfl hg20_8 rfl) (Ex.neq rfl rfl) ?_
  refine WL.u rfl rfl (Wt.plain rfl) (Ex.pickF rfl hg20_8 rfl) ?_
  refine WL.next ?_
  refine WC.cond rfl (fun hc7 => ?_) (fun hc7 => ?_)
  · have hc7' := hc7; try simp only [decide_eq_true_eq, decide_eq_false_iff_not, Bool.not_eq_true', Bool.not_eq_false', Bool.not_eq_true, Bool.not_eq_false] at hc7'
    have hrn : rdV s (f + 1) p = none := rdV_bin3 hp h40 hr1 hqB hr2 (.inr (nbT 41 (by decide) hc7))
    refine WC.seq ?_
    refine WC.region ?_
    replace hH := hH.f2
    refine WL.u rfl rfl (Wt.plain rfl) (Ex.loadHp4 Try.underlying53 ty53 rfl hH) ?_
    replace hH := hH.f4
    refine WL.store4 ty53 rfl rfl rfl rfl rfl rfl (Wt.plain rfl) hH (fun wn hk hH => ?_)
    replace hV := hV.trans (hk.mono (by simp))
    refine WL.u rfl rfl (Wt.plain rfl) (Ex.assign rfl) ?_
    refine WL.next ?_
    refine WC.ret ?_
    refine WN.retThen ?_
    refine WN.cell24 rfl rfl rfl Try.underlying53 ty53 hH ?_
    exact ⟨(46, 1, 1, (some ⟨b16, 0, none⟩, 0, 0)), 0, rfl, hH.keep, by rw [hrn]; exact rfl⟩
  have hc7' := hc7; try simp only [decide_eq_true_eq, decide_eq_false_iff_not, Bool.not_eq_true', Bool.not_eq_false', Bool.not_eq_true, Bool.not_eq_false] at hc7'
  have h41 : s.getD e103 0 = 41 := nbF 41 (by decide) hc7
  have hqC : ¬ (s.length ≤ e103 ∨ s.getD e103 0 ≠ 41) := by rw [h41]; simp; omega
  obtain ⟨hG1, hRR1, hCC1⟩ := gridT_ok hW1 hv1
  obtain ⟨hG2, hRR2, hCC2⟩ := gridT_ok hW2 hv2
  have hz1 := hG1.n5
  have hz2 := hG1.m5
  have hz3 := hG2.n5
  have hz4 := hG2.m5
  dsimp only [nR, nC] at hRR1 hCC1 hRR2 hCC2
  obtain ⟨k11, k12, _⟩ := hT1.size
  obtain ⟨k21, k22, _⟩ := hT2.size
  dsimp only at k11 k12 k21 k22
  have hbb1 : n75 ≤ 5 ∧ m75 ≤ 5 := by rw [k11, k12, ← hRR1, ← hCC1]; exact ⟨hz1, hz2⟩
  have hbb2 : n103 ≤ 5 ∧ m103 ≤ 5 := by rw [k21, k22, ← hRR2, ← hCC2]; exact ⟨hz3, hz4⟩
  refine WC.skip ?_
  refine WN.next ?_
  refine WC.seq ?_
  have hQ := hH
  refine WC.ptree (Keep [] _) (.q 0 (.q 1 (.q 2 (.q 3 (.q 4 (.q 5 (.q 6 (.q 7 (.q 8 (.alt 9 11 (.q 10 (.f 11 (.f 12 .nil))) (.f 9 (.q 10 (.f 12 .nil))))))))))))) rfl (by kernel_rfl) (Keep.drew _ _) (fun hR => ?_)
  replace hH := hH.drew
  replace hV := hV.trans (Keep.drew _ _)
  refine WPt.q rfl rfl rfl (Wt.plain rfl) (fun w hC => Ex.move rfl) ?_
  refine WPt.q rfl rfl rfl (Wt.plain rfl) (fun w hC => Ex.move rfl) ?_
  refine WPt.q rfl rfl rfl (Wt.plain rfl) (fun w hC => Ex.indexStr Try.underlying9 rfl rfl (by omega)) ?_
  refine WPt.q rfl rfl rfl (Wt.plain rfl) (fun w hC => Ex.fieldAddr fd53_1 rfl) ?_
  refine WPt.q rfl rfl rfl (Wt.plain rfl) (fun w hC => Ex.loadK flat3 rfl (hQ.at 1 rfl) hC (by simp) rfl) ?_
  refine WPt.q rfl rfl rfl (Wt.plain rfl) (fun w hC => Ex.fieldAddr fd53_2 rfl) ?_
  refine WPt.q rfl rfl rfl (Wt.plain rfl) (fun w hC => Ex.loadK flat3 rfl (hQ.at 1 rfl) hC (by simp) rfl) ?_
  refine WPt.q rfl rfl rfl (Wt.plain rfl) (fun w hC => Ex.loadK4 Try.underlying53 ty53 rfl (hQ.at 1 rfl) hC (by simp)) ?_
  refine WPt.q rfl rfl rfl (Wt.plain rfl) (fun w hC => Ex.loadK4 Try.underlying53 ty53 rfl (hQ.at 0 rfl) hC (by simp)) ?_
  refine WPt.alt rfl rfl ?_ ?_
  · refine WL.buildSlice (pv := [(0, rQd.val (c75, n75, m75, (a75, l75, k75))), (1, rQd.val (c103, n103, m103, (a103, l103, k103)))]) Try.underlying51 ty53 rfl rfl rfl (fill_q2 (by simp) (c75, n75, m75, (a75, l75, k75)) (c103, n103, m103, (a103, l103, k103))) rfl (Wt.plain rfl) hH (fun b130 wn hb130 hk130 hH => ?_)
    have ho130 := Own.q2 (c75, n75, m75, (a75, l75, k75)) (c103, n103, m103, (a103, l103, k103))
    replace hV := hV.trans hk130.nil
    replace hR := hR.trans hk130.nil
    refine WPt.b hR ?_
    refine WPt.q rfl rfl rfl (Wt.plain rfl) (fun w hC => Ex.buildS bd53 rfl rfl rfl rfl rfl) ?_
    refine WPt.f rfl ?_
    have hsV15 := hV.size
    have hsR15 := hR.size
    refine WL.alloc ty53 rfl rfl (Wt.plain rfl) hH (fun b15 wn hb15 hk15 hH => ?_)
    replace hV := hV.trans (hk15.nil)
    replace hR := hR.trans (hk15.nil)
    refine WPt.b hR ?_
    refine WPt.f rfl ?_
    refine WL.store4 ty53 rfl rfl rfl rfl rfl rfl (Wt.plain rfl) hH (fun wn hk hH => ?_)
    replace hV := hV.shr hk (by intro x hx; rw [List.mem_singleton.1 hx]; omega)
    replace hR := hR.shrink hk (by intro x hx; rw [List.mem_singleton.1 hx]; omega)
    refine WPt.b hR ?_
    refine WPt.nil (fun hC => ?_); clear hC
    refine WN.next ?_
    refine WC.seq ?_
    refine WC.seq ?_
    refine WC.region ?_
    refine WL.u rfl rfl (Wt.plain rfl) (Ex.move rfl) ?_
    refine WL.u rfl rfl (Wt.plain rfl) (Ex.move rfl) ?_
    refine WL.u rfl rfl (Wt.plain rfl) (Ex.indexStr Try.underlying9 rfl rfl (by omega)) ?_
    refine WL.u rfl rfl (Wt.plain rfl) (Ex.eql rfl rfl) ?_
    refine WL.next ?_
    refine WC.cond rfl (fun hc8 => ?_) (fun hc8 => ?_)
    · have h124 : s.getD e75 0 = 124 := ubT 124 (by decide) hc8
      refine WC.seq ?_
      refine WC.region ?_
      refine WL.u rfl rfl (Wt.plain rfl) (Ex.fieldAddr fd53_2 rfl) ?_
      replace hH := hH.f3
      refine WL.u rfl rfl (Wt.plain rfl) (Ex.loadHp flat3 rfl hH rfl) ?_
      refine WL.u rfl rfl (Wt.plain rfl) (Ex.fieldAddr fd53_2 rfl) ?_
      replace hH := hH.f3
      refine WL.u rfl rfl (Wt.plain rfl) (Ex.loadHp flat3 rfl hH rfl) ?_
      refine WL.u rfl rfl (Wt.plain rfl) ((Ex.add rfl rfl (by show I64 ((m75 : Int) + (m103 : Int)); omega)).to (show _ = vint ((m75 + m103 : Nat) : Int) by simp)) ?_
      refine WL.u rfl rfl (Wt.plain rfl) (Ex.fieldAddr fd53_2 rfl) ?_
      replace hH := hH.f2
      refine WL.store1 ty3 rfl rfl rfl (Wt.plain rfl) hH (by first | decide | simp) rfl (fun wn hk hH => ?_)
      replace hV := hV.shr hk (by intro x hx; rw [List.mem_singleton.1 hx]; omega)
      refine WL.next ?_
      refine WC.seq ?_
      refine WC.region ?_
      refine WL.u rfl rfl (Wt.plain rfl) (Ex.fieldAddr fd53_1 rfl) ?_
      replace hH := hH.f2
      refine WL.u rfl rfl (Wt.plain rfl) (Ex.loadHp flat3 rfl hH rfl) ?_
      refine WL.u rfl rfl (Wt.plain rfl) (Ex.fieldAddr fd53_1 rfl) ?_
      replace hH := hH.f2
      refine WL.u rfl rfl (Wt.plain rfl) (Ex.loadHp flat3 rfl hH rfl) ?_
      refine WL.u rfl rfl (Wt.plain rfl) (Ex.neq rfl rfl) ?_
      refine WL.u rfl rfl (Wt.plain rfl) (Ex.move rfl) ?_
      refine WL.split (t := 147) rfl (fun hg25_5 => ?_) (fun hg25_5 => ?_)
      · have hg25_5' := hg25_5; try simp only [decide_eq_true_eq, decide_eq_false_iff_not, Bool.not_eq_true', Bool.not_eq_false', Bool.not_eq_true, Bool.not_eq_false] at hg25_5'
        have hrn : rdV s (f + 1) p = none := by rw [rdV_bin4 hp h40 hr1 hqB hr2 hqC, if_neg]; rw [if_pos h124]; intro h; have h := of_decide_eq_true h; omega
        refine WL.pass rfl rfl (Wt.guard' rfl rfl rfl hg25_5 rfl) ?_
        refine WL.pass rfl rfl (Wt.guard' rfl rfl rfl hg25_5 rfl) ?_
        refine WL.pass rfl rfl (Wt.guard' rfl rfl rfl hg25_5 rfl) ?_
        refine WL.u rfl rfl (Wt.plain rfl) (Ex.pickT rfl hg25_5 rfl) ?_
        refine WL.next ?_
        refine WC.condT rfl rfl ?_
        refine WC.seq ?_
        refine WC.region ?_
        replace hH := hH.f4
        refine WL.u rfl rfl (Wt.plain rfl) (Ex.loadHp4 Try.underlying53 ty53 rfl hH) ?_
        replace hH := hH.f6
        refine WL.store4 ty53 rfl rfl rfl rfl rfl rfl (Wt.plain rfl) hH (fun wn hk hH => ?_)
        replace hV := hV.trans (hk.mono (by simp))
        refine WL.u rfl rfl (Wt.plain rfl) (Ex.assign rfl) ?_
        refine WL.next ?_
        refine WC.ret ?_
        refine WN.retThen ?_
        refine WN.cell24 rfl rfl rfl Try.underlying53 ty53 hH ?_
        exact ⟨(46, 1, 1, (some ⟨b16, 0, none⟩, 0, 0)), 0, rfl, hH.keep, by rw [hrn]; exact rfl⟩
      have hg25_5' := hg25_5; try simp only [decide_eq_true_eq, decide_eq_false_iff_not, Bool.not_eq_true', Bool.not_eq_false', Bool.not_eq_true, Bool.not_eq_false] at hg25_5'
      refine WL.u rfl rfl (Wt.guard' rfl rfl rfl hg25_5 rfl) (Ex.fieldAddr fd53_2 rfl) ?_
      replace hH := hH.f2
      refine WL.u rfl rfl (Wt.guard' rfl rfl rfl hg25_5 rfl) (Ex.loadHp flat3 rfl hH rfl) ?_
      refine WL.u rfl rfl (Wt.guard' rfl rfl rfl hg25_5 rfl) (Ex.gtr rfl rfl) ?_
      refine WL.u rfl rfl (Wt.plain rfl) (Ex.pickF rfl hg25_5 rfl) ?_
      refine WL.next ?_
      refine WC.cond rfl (fun hc9 => ?_) (fun hc9 => ?_)
      · have hc9' := hc9; try simp only [decide_eq_true_eq, decide_eq_false_iff_not, Bool.not_eq_true', Bool.not_eq_false', Bool.not_eq_true, Bool.not_eq_false] at hc9'
        have hrn : rdV s (f + 1) p = none := by rw [rdV_bin4 hp h40 hr1 hqB hr2 hqC, if_neg]; rw [if_pos h124]; intro h; have h := of_decide_eq_true h; omega
        refine WC.seq ?_
        refine WC.region ?_
        replace hH := hH.f4
        refine WL.u rfl rfl (Wt.plain rfl) (Ex.loadHp4 Try.underlying53 ty53 rfl hH) ?_
        replace hH := hH.f6
        refine WL.store4 ty53 rfl rfl rfl rfl rfl rfl (Wt.plain rfl) hH (fun wn hk hH => ?_)
        replace hV := hV.trans (hk.mono (by simp))
        refine WL.u rfl rfl (Wt.plain rfl) (Ex.assign rfl) ?_
        refine WL.next ?_
        refine WC.ret ?_
        refine WN.retThen ?_
        refine WN.cell24 rfl rfl rfl Try.underlying53 ty53 hH ?_
        exact ⟨(46, 1, 1, (some ⟨b16, 0, none⟩, 0, 0)), 0, rfl, hH.keep, by rw [hrn]; exact rfl⟩
      have hc9' := hc9; try simp only [decide_eq_true_eq, decide_eq_false_iff_not, Bool.not_eq_true', Bool.not_eq_false', Bool.not_eq_true, Bool.not_eq_false] at hc9'
      refine WC.skip ?_
      refine WN.next ?_
      refine WC.seq ?_
      refine WC.region ?_
      refine WL.u rfl rfl (Wt.plain rfl) (Ex.loadHp4 Try.underlying53 ty53 rfl hH) ?_
      refine WL.u rfl rfl (Wt.plain rfl) (Ex.move rfl) ?_
      refine WL.u rfl rfl (Wt.plain rfl) (Ex.add rfl rfl (by omega)) ?_
      replace hH := hH.f6
      refine WL.store4 ty53 rfl rfl rfl rfl rfl rfl (Wt.plain rfl) hH (fun wn hk hH => ?_)
      replace hV := hV.trans (hk.mono (by simp))
      refine WL.u rfl rfl (Wt.plain rfl) (Ex.assign rfl) ?_
      refine WL.next ?_
      refine WC.ret ?_
      refine WN.cell24 rfl rfl rfl Try.underlying53 ty53 hH ?_
      exact ⟨(s.getD e75 0, n75, m75 + m103, (some ⟨b130, 0, none⟩, 2, 2)), e103 + 1, rfl, hH.keep, by
        rw [rdV_bin4 hp h40 hr1 hqB hr2 hqC, if_pos (by rw [if_pos h124]; exact decide_eq_true ⟨by omega, by omega⟩)]
        refine ⟨rfl, by omega, b130, 2, _, _, ?_, hH.base 4 rfl, ho130.slAt hH 4 rfl, TQ.low hw75 (TQ.keep hV (by intro x hx; rw [List.mem_singleton.1 hx]; exact hl75) hT1), TQ.low hw103 (TQ.keep hV (by intro x hx; rw [List.mem_singleton.1 hx]; exact hl103) hT2)⟩
        unfold sz
        rw [if_pos h124]
        simp only [k11, k12, k21, k22]⟩
    have h124 : s.getD e75 0 ≠ 124 := ubF 124 (by decide) hc8
    refine WC.seq ?_
    refine WC.region ?_
    refine WL.u rfl rfl (Wt.plain rfl) (Ex.fieldAddr fd53_1 rfl) ?_
    replace hH := hH.f3
    refine WL.u rfl rfl (Wt.plain rfl) (Ex.loadHp flat3 rfl hH rfl) ?_
    refine WL.u rfl rfl (Wt.plain rfl) (Ex.fieldAddr fd53_1 rfl) ?_
    replace hH := hH.f3
    refine WL.u rfl rfl (Wt.plain rfl) (Ex.loadHp flat3 rfl hH rfl) ?_
    refine WL.u rfl rfl (Wt.plain rfl) ((Ex.add rfl rfl (by show I64 ((n75 : Int) + (n103 : Int)); omega)).to (show _ = vint ((n75 + n103 : Nat) : Int) by simp)) ?_
    refine WL.u rfl rfl (Wt.plain rfl) (Ex.fieldAddr fd53_1 rfl) ?_
    replace hH := hH.f2
    refine WL.store1 ty3 rfl rfl rfl (Wt.plain rfl) hH (by first | decide | simp) rfl (fun wn hk hH => ?_)
    replace hV := hV.shr hk (by intro x hx; rw [List.mem_singleton.1 hx]; omega)
    refine WL.next ?_
    refine WC.seq ?_
    refine WC.region ?_
    refine WL.u rfl rfl (Wt.plain rfl) (Ex.fieldAddr fd53_2 rfl) ?_
    replace hH := hH.f2
    refine WL.u rfl rfl (Wt.plain rfl) (Ex.loadHp flat3 rfl hH rfl) ?_
    refine WL.u rfl rfl (Wt.plain rfl) (Ex.fieldAddr fd53_2 rfl) ?_
    replace hH := hH.f2
    refine WL.u rfl rfl (Wt.plain rfl) (Ex.loadHp flat3 rfl hH rfl) ?_
    refine WL.u rfl rfl (Wt.plain rfl) (Ex.neq rfl rfl) ?_
    refine WL.u rfl rfl (Wt.plain rfl) (Ex.move rfl) ?_
    refine WL.split (t := 164) rfl (fun hg28_5 => ?_) (fun hg28_5 => ?_)
    · have hg28_5' := hg28_5; try simp only [decide_eq_true_eq, decide_eq_false_iff_not, Bool.not_eq_true', Bool.not_eq_false', Bool.not_eq_true, Bool.not_eq_false] at hg28_5'
      have hrn : rdV s (f + 1) p = none := by rw [rdV_bin4 hp h40 hr1 hqB hr2 hqC, if_neg]; rw [if_neg h124]; intro h; have h := of_decide_eq_true h; omega
      refine WL.pass rfl rfl (Wt.guard' rfl rfl rfl hg28_5 rfl) ?_
      refine WL.pass rfl rfl (Wt.guard' rfl rfl rfl hg28_5 rfl) ?_
      refine WL.pass rfl rfl (Wt.guard' rfl rfl rfl hg28_5 rfl) ?_
      refine WL.u rfl rfl (Wt.plain rfl) (Ex.pickT rfl hg28_5 rfl) ?_
      refine WL.next ?_
      refine WC.condT rfl rfl ?_
      refine WC.seq ?_
      refine WC.region ?_
      replace hH := hH.f4
      refine WL.u rfl rfl (Wt.plain rfl) (Ex.loadHp4 Try.underlying53 ty53 rfl hH) ?_
      replace hH := hH.f6
      refine WL.store4 ty53 rfl rfl rfl rfl rfl rfl (Wt.plain rfl) hH (fun wn hk hH => ?_)
      replace hV := hV.trans (hk.mono (by simp))
      refine WL.u rfl rfl (Wt.plain rfl) (Ex.assign rfl) ?_
      refine WL.next ?_
      refine WC.ret ?_
      refine WN.retThen ?_
      refine WN.cell24 rfl rfl rfl Try.underlying53 ty53 hH ?_
      exact ⟨(46, 1, 1, (some ⟨b16, 0, none⟩, 0, 0)), 0, rfl, hH.keep, by rw [hrn]; exact rfl⟩
    have hg28_5' := hg28_5; try simp only [decide_eq_true_eq, decide_eq_false_iff_not, Bool.not_eq_true', Bool.not_eq_false', Bool.not_eq_true, Bool.not_eq_false] at hg28_5'
    refine WL.u rfl rfl (Wt.guard' rfl rfl rfl hg28_5 rfl) (Ex.fieldAddr fd53_1 rfl) ?_
    replace hH := hH.f2
    refine WL.u rfl rfl (Wt.guard' rfl rfl rfl hg28_5 rfl) (Ex.loadHp flat3 rfl hH rfl) ?_
    refine WL.u rfl rfl (Wt.guard' rfl rfl rfl hg28_5 rfl) (Ex.gtr rfl rfl) ?_
    refine WL.u rfl rfl (Wt.plain rfl) (Ex.pickF rfl hg28_5 rfl) ?_
    refine WL.next ?_
    refine WC.cond rfl (fun hc10 => ?_) (fun hc10 => ?_)
    · have hc10' := hc10; try simp only [decide_eq_true_eq, decide_eq_false_iff_not, Bool.not_eq_true', Bool.not_eq_false', Bool.not_eq_true, Bool.not_eq_false] at hc10'
      have hrn : rdV s (f + 1) p = none := by rw [rdV_bin4 hp h40 hr1 hqB hr2 hqC, if_neg]; rw [if_neg h124]; intro h; have h := of_decide_eq_true h; omega
      refine WC.seq ?_
      refine WC.region ?_
      replace hH := hH.f4
      refine WL.u rfl rfl (Wt.plain rfl) (Ex.loadHp4 Try.underlying53 ty53 rfl hH) ?_
      replace hH := hH.f6
      refine WL.store4 ty53 rfl rfl rfl rfl rfl rfl (Wt.plain rfl) hH (fun wn hk hH => ?_)
      replace hV := hV.trans (hk.mono (by simp))
      refine WL.u rfl rfl (Wt.plain rfl) (Ex.assign rfl) ?_
      refine WL.next ?_
      refine WC.ret ?_
      refine WN.retThen ?_
      refine WN.cell24 rfl rfl rfl Try.underlying53 ty53 hH ?_
      exact ⟨(46, 1, 1, (some ⟨b16, 0, none⟩, 0, 0)), 0, rfl, hH.keep, by rw [hrn]; exact rfl⟩
    have hc10' := hc10; try simp only [decide_eq_true_eq, decide_eq_false_iff_not, Bool.not_eq_true', Bool.not_eq_false', Bool.not_eq_true, Bool.not_eq_false] at hc10'
    refine WC.skip ?_
    refine WN.next ?_
    refine WC.seq ?_
    refine WC.region ?_
    refine WL.u rfl rfl (Wt.plain rfl) (Ex.loadHp4 Try.underlying53 ty53 rfl hH) ?_
    refine WL.u rfl rfl (Wt.plain rfl) (Ex.move rfl) ?_
    refine WL.u rfl rfl (Wt.plain rfl) (Ex.add rfl rfl (by omega)) ?_
    replace hH := hH.f6
    refine WL.store4 ty53 rfl rfl rfl rfl rfl rfl (Wt.plain rfl) hH (fun wn hk hH => ?_)
    replace hV := hV.trans (hk.mono (by simp))
    refine WL.u rfl rfl (Wt.plain rfl) (Ex.assign rfl) ?_
    refine WL.next ?_
    refine WC.ret ?_
    refine WN.cell24 rfl rfl rfl Try.underlying53 ty53 hH ?_
    exact ⟨(s.getD e75 0, n75 + n103, m75, (some ⟨b130, 0, none⟩, 2, 2)), e103 + 1, rfl, hH.keep, by
      rw [rdV_bin4 hp h40 hr1 hqB hr2 hqC, if_pos (by rw [if_neg h124]; exact decide_eq_true ⟨by omega, by omega⟩)]
      refine ⟨rfl, by omega, b130, 2, _, _, ?_, hH.base 4 rfl, ho130.slAt hH 4 rfl, TQ.low hw75 (TQ.keep hV (by intro x hx; rw [List.mem_singleton.1 hx]; exact hl75) hT1), TQ.low hw103 (TQ.keep hV (by intro x hx; rw [List.mem_singleton.1 hx]; exact hl103) hT2)⟩
      unfold sz
      rw [if_neg h124]
      simp only [k11, k12, k21, k22]⟩
  have hsV15 := hV.size
  have hsR15 := hR.size
  refine WL.alloc ty53 rfl rfl (Wt.plain rfl) hH (fun b15 wn hb15 hk15 hH => ?_)
  replace hV := hV.trans (hk15.nil)
  replace hR := hR.trans (hk15.nil)
  refine WPt.b hR ?_
  refine WPt.f rfl ?_
  refine WL.buildSlice (pv := [(0, rQd.val (c75, n75, m75, (a75, l75, k75))), (1, rQd.val (c103, n103, m103, (a103, l103, k103)))]) Try.underlying51 ty53 rfl rfl rfl (fill_q2 (by simp) (c75, n75, m75, (a75, l75, k75)) (c103, n103, m103, (a103, l103, k103))) rfl (Wt.plain rfl) hH (fun b130 wn hb130 hk130 hH => ?_)
  have ho130 := Own.q2 (c75, n75, m75, (a75, l75, k75)) (c103, n103, m103, (a103, l103, k103))
  replace hV := hV.trans hk130.nil
  replace hR := hR.trans hk130.nil
  refine WPt.b hR ?_
  refine WPt.q rfl rfl rfl (Wt.plain rfl) (fun w hC => Ex.buildS bd53 rfl rfl rfl rfl rfl) ?_
  refine WPt.f rfl ?_
  replace hH := hH.f1
  refine WL.store4 ty53 rfl rfl rfl rfl rfl rfl (Wt.plain rfl) hH (fun wn hk hH => ?_)
  replace hV := hV.shr hk (by intro x hx; rw [List.mem_singleton.1 hx]; omega)
  replace hR := hR.shrink hk (by intro x hx; rw [List.mem_singleton.1 hx]; omega)
  refine WPt.b hR ?_
  refine WPt.nil (fun hC => ?_); clear hC
  refine WN.next ?_
  refine WC.seq ?_
  refine WC.seq ?_
  refine WC.region ?_
  refine WL.u rfl rfl (Wt.plain rfl) (Ex.move rfl) ?_
  refine WL.u rfl rfl (Wt.plain rfl) (Ex.move rfl) ?_
  refine WL.u rfl rfl (Wt.plain rfl) (Ex.indexStr Try.underlying9 rfl rfl (by omega)) ?_
  refine WL.u rfl rfl (Wt.plain rfl) (Ex.eql rfl rfl) ?_
  refine WL.next ?_
  refine WC.cond rfl (fun hc8 => ?_) (fun hc8 => ?_)
  · have h124 : s.getD e75 0 = 124 := ubT 124 (by decide) hc8
    refine WC.seq ?_
    refine WC.region ?_
    refine WL.u rfl rfl (Wt.plain rfl) (Ex.fieldAddr fd53_2 rfl) ?_
    replace hH := hH.f3
    refine WL.u rfl rfl (Wt.plain rfl) (Ex.loadHp flat3 rfl hH rfl) ?_
    refine WL.u rfl rfl (Wt.plain rfl) (Ex.fieldAddr fd53_2 rfl) ?_
    replace hH := hH.f3
    refine WL.u rfl rfl (Wt.plain rfl) (Ex.loadHp flat3 rfl hH rfl) ?_
    refine WL.u rfl rfl (Wt.plain rfl) ((Ex.add rfl rfl (by show I64 ((m75 : Int) + (m103 : Int)); omega)).to (show _ = vint ((m75 + m103 : Nat) : Int) by simp)) ?_
    refine WL.u rfl rfl (Wt.plain rfl) (Ex.fieldAddr fd53_2 rfl) ?_
    replace hH := hH.f2
    refine WL.store1 ty3 rfl rfl rfl (Wt.plain rfl) hH (by first | decide | simp) rfl (fun wn hk hH => ?_)
    replace hV := hV.shr hk (by intro x hx; rw [List.mem_singleton.1 hx]; omega)
    refine WL.next ?_
    refine WC.seq ?_
    refine WC.region ?_
    refine WL.u rfl rfl (Wt.plain rfl) (Ex.fieldAddr fd53_1 rfl) ?_
    replace hH := hH.f2
    refine WL.u rfl rfl (Wt.plain rfl) (Ex.loadHp flat3 rfl hH rfl) ?_
    refine WL.u rfl rfl (Wt.plain rfl) (Ex.fieldAddr fd53_1 rfl) ?_
    replace hH := hH.f2
    refine WL.u rfl rfl (Wt.plain rfl) (Ex.loadHp flat3 rfl hH rfl) ?_
    refine WL.u rfl rfl (Wt.plain rfl) (Ex.neq rfl rfl) ?_
    refine WL.u rfl rfl (Wt.plain rfl) (Ex.move rfl) ?_
    refine WL.split (t := 147) rfl (fun hg25_5 => ?_) (fun hg25_5 => ?_)
    · have hg25_5' := hg25_5; try simp only [decide_eq_true_eq, decide_eq_false_iff_not, Bool.not_eq_true', Bool.not_eq_false', Bool.not_eq_true, Bool.not_eq_false] at hg25_5'
      have hrn : rdV s (f + 1) p = none := by rw [rdV_bin4 hp h40 hr1 hqB hr2 hqC, if_neg]; rw [if_pos h124]; intro h; have h := of_decide_eq_true h; omega
      refine WL.pass rfl rfl (Wt.guard' rfl rfl rfl hg25_5 rfl) ?_
      refine WL.pass rfl rfl (Wt.guard' rfl rfl rfl hg25_5 rfl) ?_
      refine WL.pass rfl rfl (Wt.guard' rfl rfl rfl hg25_5 rfl) ?_
      refine WL.u rfl rfl (Wt.plain rfl) (Ex.pickT rfl hg25_5 rfl) ?_
      refine WL.next ?_
      refine WC.condT rfl rfl ?_
      refine WC.seq ?_
      refine WC.region ?_
      replace hH := hH.f4
      refine WL.u rfl rfl (Wt.plain rfl) (Ex.loadHp4 Try.underlying53 ty53 rfl hH) ?_
      replace hH := hH.f6
      refine WL.store4 ty53 rfl rfl rfl rfl rfl rfl (Wt.plain rfl) hH (fun wn hk hH => ?_)
      replace hV := hV.trans (hk.mono (by simp))
      refine WL.u rfl rfl (Wt.plain rfl) (Ex.assign rfl) ?_
      refine WL.next ?_
      refine WC.ret ?_
      refine WN.retThen ?_
      refine WN.cell24 rfl rfl rfl Try.underlying53 ty53 hH ?_
      exact ⟨(46, 1, 1, (some ⟨b16, 0, none⟩, 0, 0)), 0, rfl, hH.keep, by rw [hrn]; exact rfl⟩
    have hg25_5' := hg25_5; try simp only [decide_eq_true_eq, decide_eq_false_iff_not, Bool.not_eq_true', Bool.not_eq_false', Bool.not_eq_true, Bool.not_eq_false] at hg25_5'
    refine WL.u rfl rfl (Wt.guard' rfl rfl rfl hg25_5 rfl) (Ex.fieldAddr fd53_2 rfl) ?_
    replace hH := hH.f2
    refine WL.u rfl rfl (Wt.guard' rfl rfl rfl hg25_5 rfl) (Ex.loadHp flat3 rfl hH rfl) ?_
    refine WL.u rfl rfl (Wt.guard' rfl rfl rfl hg25_5 rfl) (Ex.gtr rfl rfl) ?_
    refine WL.u rfl rfl (Wt.plain rfl) (Ex.pickF rfl hg25_5 rfl) ?_
    refine WL.next ?_
    refine WC.cond rfl (fun hc9 => ?_) (fun hc9 => ?_)
    · have hc9' := hc9; try simp only [decide_eq_true_eq, decide_eq_false_iff_not, Bool.not_eq_true', Bool.not_eq_false', Bool.not_eq_true, Bool.not_eq_false] at hc9'
      have hrn : rdV s (f + 1) p = none := by rw [rdV_bin4 hp h40 hr1 hqB hr2 hqC, if_neg]; rw [if_pos h124]; intro h; have h := of_decide_eq_true h; omega
      refine WC.seq ?_
      refine WC.region ?_
      replace hH := hH.f4
      refine WL.u rfl rfl (Wt.plain rfl) (Ex.loadHp4 Try.underlying53 ty53 rfl hH) ?_
      replace hH := hH.f6
      refine WL.store4 ty53 rfl rfl rfl rfl rfl rfl (Wt.plain rfl) hH (fun wn hk hH => ?_)
      replace hV := hV.trans (hk.mono (by simp))
      refine WL.u rfl rfl (Wt.plain rfl) (Ex.assign rfl) ?_
      refine WL.next ?_
      refine WC.ret ?_
      refine WN.retThen ?_
      refine WN.cell24 rfl rfl rfl Try.underlying53 ty53 hH ?_
      exact ⟨(46, 1, 1, (some ⟨b16, 0, none⟩, 0, 0)), 0, rfl, hH.keep, by rw [hrn]; exact rfl⟩
    have hc9' := hc9; try simp only [decide_eq_true_eq, decide_eq_false_iff_not, Bool.not_eq_true', Bool.not_eq_false', Bool.not_eq_true, Bool.not_eq_false] at hc9'
    refine WC.skip ?_
    refine WN.next ?_
    refine WC.seq ?_
    refine WC.region ?_
    refine WL.u rfl rfl (Wt.plain rfl) (Ex.loadHp4 Try.underlying53 ty53 rfl hH) ?_
    refine WL.u rfl rfl (Wt.plain rfl) (Ex.move rfl) ?_
    refine WL.u rfl rfl (Wt.plain rfl) (Ex.add rfl rfl (by omega)) ?_
    replace hH := hH.f6
    refine WL.store4 ty53 rfl rfl rfl rfl rfl rfl (Wt.plain rfl) hH (fun wn hk hH => ?_)
    replace hV := hV.trans (hk.mono (by simp))
    refine WL.u rfl rfl (Wt.plain rfl) (Ex.assign rfl) ?_
    refine WL.next ?_
    refine WC.ret ?_
    refine WN.cell24 rfl rfl rfl Try.underlying53 ty53 hH ?_
    exact ⟨(s.getD e75 0, n75, m75 + m103, (some ⟨b130, 0, none⟩, 2, 2)), e103 + 1, rfl, hH.keep, by
      rw [rdV_bin4 hp h40 hr1 hqB hr2 hqC, if_pos (by rw [if_pos h124]; exact decide_eq_true ⟨by omega, by omega⟩)]
      refine ⟨rfl, by omega, b130, 2, _, _, ?_, hH.base 4 rfl, ho130.slAt hH 4 rfl, TQ.low hw75 (TQ.keep hV (by intro x hx; rw [List.mem_singleton.1 hx]; exact hl75) hT1), TQ.low hw103 (TQ.keep hV (by intro x hx; rw [List.mem_singleton.1 hx]; exact hl103) hT2)⟩
      unfold sz
      rw [if_pos h124]
      simp only [k11, k12, k21, k22]⟩
  have h124 : s.getD e75 0 ≠ 124 := ubF 124 (by decide) hc8
  refine WC.seq ?_
  refine WC.region ?_
  refine WL.u rfl rfl (Wt.plain rfl) (Ex.fieldAddr fd53_1 rfl) ?_
  replace hH := hH.f3
  refine WL.u rfl rfl (Wt.plain rfl) (Ex.loadHp flat3 rfl hH rfl) ?_
  refine WL.u rfl rfl (Wt.plain rfl) (Ex.fieldAddr fd53_1 rfl) ?_
  replace hH := hH.f3
  refine WL.u rfl rfl (Wt.plain rfl) (Ex.loadHp flat3 rfl hH rfl) ?_
  refine WL.u rfl rfl (Wt.plain rfl) ((Ex.add rfl rfl (by show I64 ((n75 : Int) + (n103 : Int)); omega)).to (show _ = vint ((n75 + n103 : Nat) : Int) by simp)) ?_
  refine WL.u rfl rfl (Wt.plain rfl) (Ex.fieldAddr fd53_1 rfl) ?_
  replace hH := hH.f2
  refine WL.store1 ty3 rfl rfl rfl (Wt.plain rfl) hH (by first | decide | simp) rfl (fun wn hk hH => ?_)
  replace hV := hV.shr hk (by intro x hx; rw [List.mem_singleton.1 hx]; omega)
  refine WL.next ?_
  refine WC.seq ?_
  refine WC.region ?_
  refine WL.u rfl rfl (Wt.plain rfl) (Ex.fieldAddr fd53_2 rfl) ?_
  replace hH := hH.f2
  refine WL.u rfl rfl (Wt.plain rfl) (Ex.loadHp flat3 rfl hH rfl) ?_
  refine WL.u rfl rfl (Wt.plain rfl) (Ex.fieldAddr fd53_2 rfl) ?_
  replace hH := hH.f2
  refine WL.u rfl rfl (Wt.plain rfl) (Ex.loadHp flat3 rfl hH rfl) ?_
  refine WL.u rfl rfl (Wt.plain rfl) (Ex.neq rfl rfl) ?_
  refine WL.u rfl rfl (Wt.plain rfl) (Ex.move rfl) ?_
  refine WL.split (t := 164) rfl (fun hg28_5 => ?_) (fun hg28_5 => ?_)
  · have hg28_5' := hg28_5; try simp only [decide_eq_true_eq, decide_eq_false_iff_not, Bool.not_eq_true', Bool.not_eq_false', Bool.not_eq_true, Bool.not_eq_false] at hg28_5'
    have hrn : rdV s (f + 1) p = none := by rw [rdV_bin4 hp h40 hr1 hqB hr2 hqC, if_neg]; rw [if_neg h124]; intro h; have h := of_decide_eq_true h; omega
    refine WL.pass rfl rfl (Wt.guard' rfl rfl rfl hg28_5 rfl) ?_
    refine WL.pass rfl rfl (Wt.guard' rfl rfl rfl hg28_5 rfl) ?_
    refine WL.pass rfl rfl (Wt.guard' rfl rfl rfl hg28_5 rfl) ?_
    refine WL.u rfl rfl (Wt.plain rfl) (Ex.pickT rfl hg28_5 rfl) ?_
    refine WL.next ?_
    refine WC.condT rfl rfl ?_
    refine WC.seq ?_
    refine WC.region ?_
    replace hH := hH.f4
    refine WL.u rfl rfl (Wt.plain rfl) (Ex.loadHp4 Try.underlying53 ty53 rfl hH) ?_
    replace hH := hH.f6
    refine WL.store4 ty53 rfl rfl rfl rfl rfl rfl (Wt.plain rfl) hH (fun wn hk hH => ?_)
    replace hV := hV.trans (hk.mono (by simp))
    refine WL.u rfl rfl (Wt.plain rfl) (Ex.assign rfl) ?_
    refine WL.next ?_
    refine WC.ret ?_
    refine WN.retThen ?_
    refine WN.cell24 rfl rfl rfl Try.underlying53 ty53 hH ?_
    exact ⟨(46, 1, 1, (some ⟨b16, 0, none⟩, 0, 0)), 0, rfl, hH.keep, by rw [hrn]; exact rfl⟩
  have hg28_5' := hg28_5; try simp only [decide_eq_true_eq, decide_eq_false_iff_not, Bool.not_eq_true', Bool.not_eq_false', Bool.not_eq_true, Bool.not_eq_false] at hg28_5'
  refine WL.u rfl rfl (Wt.guard' rfl rfl rfl hg28_5 rfl) (Ex.fieldAddr fd53_1 rfl) ?_
  replace hH := hH.f2
  refine WL.u rfl rfl (Wt.guard' rfl rfl rfl hg28_5 rfl) (Ex.loadHp flat3 rfl hH rfl) ?_
  refine WL.u rfl rfl (Wt.guard' rfl rfl rfl hg28_5 rfl) (Ex.gtr rfl rfl) ?_
  refine WL.u rfl rfl (Wt.plain rfl) (Ex.pickF rfl hg28_5 rfl) ?_
  refine WL.next ?_
  refine WC.cond rfl (fun hc10 => ?_) (fun hc10 => ?_)
  · have hc10' := hc10; try simp only [decide_eq_true_eq, decide_eq_false_iff_not, Bool.not_eq_true', Bool.not_eq_false', Bool.not_eq_true, Bool.not_eq_false] at hc10'
    have hrn : rdV s (f + 1) p = none := by rw [rdV_bin4 hp h40 hr1 hqB hr2 hqC, if_neg]; rw [if_neg h124]; intro h; have h := of_decide_eq_true h; omega
    refine WC.seq ?_
    refine WC.region ?_
    replace hH := hH.f4
    refine WL.u rfl rfl (Wt.plain rfl) (Ex.loadHp4 Try.underlying53 ty53 rfl hH) ?_
    replace hH := hH.f6
    refine WL.store4 ty53 rfl rfl rfl rfl rfl rfl (Wt.plain rfl) hH (fun wn hk hH => ?_)
    replace hV := hV.trans (hk.mono (by simp))
    refine WL.u rfl rfl (Wt.plain rfl) (Ex.assign rfl) ?_
    refine WL.next ?_
    refine WC.ret ?_
    refine WN.retThen ?_
    refine WN.cell24 rfl rfl rfl Try.underlying53 ty53 hH ?_
    exact ⟨(46, 1, 1, (some ⟨b16, 0, none⟩, 0, 0)), 0, rfl, hH.keep, by rw [hrn]; exact rfl⟩
  have hc10' := hc10; try simp only [decide_eq_true_eq, decide_eq_false_iff_not, Bool.not_eq_true', Bool.not_eq_false', Bool.not_eq_true, Bool.not_eq_false] at hc10'
  refine WC.skip ?_
  refine WN.next ?_
  refine WC.seq ?_
  refine WC.region ?_
  refine WL.u rfl rfl (Wt.plain rfl) (Ex.loadHp4 Try.underlying53 ty53 rfl hH) ?_
  refine WL.u rfl rfl (Wt.plain rfl) (Ex.move rfl) ?_
  refine WL.u rfl rfl (Wt.plain rfl) (Ex.add rfl rfl (by omega)) ?_
  replace hH := hH.f6
  refine WL.store4 ty53 rfl rfl rfl rfl rfl rfl (Wt.plain rfl) hH (fun wn hk hH => ?_)
  replace hV := hV.trans (hk.mono (by simp))
  refine WL.u rfl rfl (Wt.plain rfl) (Ex.assign rfl) ?_
  refine WL.next ?_
  refine WC.ret ?_
  refine WN.cell24 rfl rfl rfl Try.underlying53 ty53 hH ?_
  exact ⟨(s.getD e75 0, n75 + n103, m75, (some ⟨b130, 0, none⟩, 2, 2)), e103 + 1, rfl, hH.keep, by
    rw [rdV_bin4 hp h40 hr1 hqB hr2 hqC, if_pos (by rw [if_neg h124]; exact decide_eq_true ⟨by omega, by omega⟩)]
    refine ⟨rfl, by omega, b130, 2, _, _, ?_, hH.base 4 rfl, ho130.slAt hH 4 rfl, TQ.low hw75 (TQ.keep hV (by intro x hx; rw [List.mem_singleton.1 hx]; exact hl75) hT1), TQ.low hw103 (TQ.keep hV (by intro x hx; rw [List.mem_singleton.1 hx]; exact hl103) hT2)⟩
    unfold sz
    rw [if_neg h124]
    simp only [k11, k12, k21, k22]⟩


theorem sl11Read (s : Str) (h60 : s.length ≤ 60) (f : Nat) : ∀ (p : Nat) (w : World), p ≤ s.length → s.length < p + f → Fn Try.prog 31 [vstr s, vint p] w (fun v w1 => ∃ q e, v = .tuple #[rQd.val q, vint (e : Nat)] ∧ Keep [] w w1 ∧ RdQ w.heap.size w1 (rdV s f p) q e) := by
  induction f with
  | zero => intro p w h1 h2; omega
  | succ f ih => exact fun p w h1 h2 => sl11Read1 s f p w ih h60 h1 h2
end Go.Proofs.Ytamkbmhgclpidaa

/- Whole texts, grids of the reference's terms. -/
namespace Go.Proofs.Ytamkbmhgclpidaa
set_option maxRecDepth 100000
set_option linter.unusedSimpArgs false
set_option linter.unusedVariables false
open Go Go.RowKit
theorem Own.bt1 (c : UInt8) : Own rByte #[rByte.val c] 1 [c] := ⟨by simp [show rByte.sz = 1 from rfl], by simp, by decide, by unfold Rw; rw [flat_one rfl]; rfl⟩
theorem termT_rdV {s : Str} (h60 : s.length ≤ 60) : termT s = match rdV s (s.length + 1) 0 with
    | none => none
    | some (t, e) => if e = s.length then some t else none := by
  unfold termT readT rdV
  rw [if_neg (by omega)]
  cases hr : rdI s (s.length + 1) 0 with
  | none => rfl
  | some x =>
    obtain ⟨t, e⟩ := x
    dsimp only
    by_cases he : e = s.length
    · rw [if_pos he]
      dsimp only
      cases valid t <;> simp [he]
    · rw [if_neg he]
      dsimp only
      cases valid t <;> simp [he]
theorem termT_long {s : Str} (h : 60 < s.length) : termT s = none := termT_none (readT_long h)

theorem sl11Of (s : Str) (w : World) (hs : s.length ≤ 1048577) : Fn Try.prog 30 [vstr s] w (fun v w1 => ∃ q, v = .tuple #[rQd.val q, .bool (termT s).isSome] ∧ Keep [] w w1 ∧ ∀ t, termT s = some t → TQ w.heap.size w1 t q) := by
  refine Fn.enter (n := 25) Try.func30 rfl rfl rfl ?_
  show WC _ _ _ _ [(0, vstr s)] _
  have hH := Hp.start [] w
  refine WC.seq ?_
  refine WC.region ?_
  refine WL.alloc ty53 rfl rfl (Wt.plain rfl) hH (fun b2 wn hb2 hk2 hH => ?_)
  refine WL.u rfl rfl (Wt.plain rfl) (Ex.assign rfl) ?_
  refine WL.next ?_
  refine WC.seq ?_
  refine WC.seq ?_
  refine WC.region ?_
  refine WL.u rfl rfl (Wt.plain rfl) (Ex.move rfl) ?_
  refine WL.u rfl rfl (Wt.plain rfl) (Ex.lenStr Try.underlying9 rfl) ?_
  refine WL.u rfl rfl (Wt.plain rfl) (Ex.gtr rfl rfl) ?_
  refine WL.next ?_
  refine WC.cond rfl (fun hc1 => ?_) (fun hc1 => ?_)
  · have hc1' := hc1; try simp only [decide_eq_true_eq, decide_eq_false_iff_not, Bool.not_eq_true', Bool.not_eq_false', Bool.not_eq_true, Bool.not_eq_false] at hc1'
    have hrn : termT s = none := termT_long (by omega)
    refine WC.seq ?_
    refine WC.region ?_
    refine WL.lit0 Try.underlying51 ty53 rfl (Wt.plain rfl) hH (fun b9 wn hb9 hk9 hH => ?_)
    refine WL.u rfl rfl (Wt.plain rfl) (Ex.buildS bd53 rfl rfl rfl rfl rfl) ?_
    replace hH := hH.f1
    refine WL.store4 ty53 rfl rfl rfl rfl rfl rfl (Wt.plain rfl) hH (fun wn hk hH => ?_)
    refine WL.u rfl rfl (Wt.plain rfl) (Ex.assign rfl) ?_
    refine WL.next ?_
    refine WC.ret ?_
    refine WN.retThen ?_
    refine WN.cell24 rfl rfl rfl Try.underlying53 ty53 hH ?_
    exact ⟨(46, 1, 1, (some ⟨b9, 0, none⟩, 0, 0)), by rw [hrn]; rfl, hH.keep, fun t h => by rw [hrn] at h; cases h⟩
  have hc1' := hc1; try simp only [decide_eq_true_eq, decide_eq_false_iff_not, Bool.not_eq_true', Bool.not_eq_false', Bool.not_eq_true, Bool.not_eq_false] at hc1'
  have h60 : s.length ≤ 60 := by omega
  have hrt := termT_rdV h60
  refine WC.skip ?_
  refine WN.next ?_
  refine WC.seq ?_
  refine WC.region ?_
  refine WL.u rfl rfl (Wt.plain rfl) (Ex.move rfl) ?_
  have hl13 := hH.lt 0 rfl
  have hw13 := hH.keep.size
  refine WL.call callable31 rfl (Wt.plain rfl) rfl rfl (sl11Read s h60 (s.length + 1) 0 _ (by omega) (by omega)) ?_
  rintro _ wn ⟨q13, e13, rfl, hC, hR13⟩; obtain ⟨c13, n13, m13, a13, l13, k13⟩ := q13; replace hH := hH.call hC
  have hV := Keep.refl [b2] wn
  refine WL.u rfl rfl (Wt.plain rfl) (Ex.move rfl) ?_
  refine WL.u rfl rfl (Wt.plain rfl) (Ex.extract rfl rfl) ?_
  refine WL.u rfl rfl (Wt.plain rfl) (Ex.extract rfl rfl) ?_
  have hsV4 := hV.size
  refine WL.alloc ty53 rfl rfl (Wt.plain rfl) hH (fun b4 wn hb4 hk4 hH => ?_)
  replace hV := hV.trans (hk4.nil)
  refine WL.store4 ty53 rfl rfl rfl rfl rfl rfl (Wt.plain rfl) hH (fun wn hk hH => ?_)
  replace hV := hV.shr hk (by intro x hx; rw [List.mem_singleton.1 hx]; omega)
  refine WL.u rfl rfl (Wt.plain rfl) (Ex.assign rfl) ?_
  refine WL.next ?_
  refine WC.seq ?_
  refine WC.region ?_
  refine WL.u rfl rfl (Wt.plain rfl) (Ex.loadHp4 Try.underlying53 ty53 rfl hH) ?_
  refine WL.u rfl rfl (Wt.plain rfl) (Ex.move rfl) ?_
  refine WL.u rfl rfl (Wt.plain rfl) (Ex.gtr rfl rfl) ?_
  refine WL.u rfl rfl (Wt.plain rfl) (Ex.move rfl) ?_
  refine WL.split (t := 19) rfl (fun hg4_3 => ?_) (fun hg4_3 => ?_)
  · have hg4_3' := hg4_3; try simp only [decide_eq_true_eq, decide_eq_false_iff_not, Bool.not_eq_true', Bool.not_eq_false', Bool.not_eq_true, Bool.not_eq_false] at hg4_3'
    obtain ⟨t1, hr1, hT1⟩ := hR13.some (by omega)
    rw [hr1] at hrt
    dsimp only at hrt
    refine WL.u rfl rfl (Wt.guard' rfl rfl rfl hg4_3 rfl) (Ex.move rfl) ?_
    refine WL.u rfl rfl (Wt.guard' rfl rfl rfl hg4_3 rfl) (Ex.move rfl) ?_
    refine WL.u rfl rfl (Wt.guard' rfl rfl rfl hg4_3 rfl) (Ex.lenStr Try.underlying9 rfl) ?_
    refine WL.u rfl rfl (Wt.guard' rfl rfl rfl hg4_3 rfl) (Ex.eql rfl rfl) ?_
    refine WL.u rfl rfl (Wt.plain rfl) (Ex.pickT rfl hg4_3 rfl) ?_
    replace hH := hH.f1
    refine WL.store4 ty53 rfl rfl rfl rfl rfl rfl (Wt.plain rfl) hH (fun wn hk hH => ?_)
    replace hV := hV.trans (hk.mono (by simp))
    refine WL.u rfl rfl (Wt.plain rfl) (Ex.assign rfl) ?_
    refine WL.next ?_
    refine WC.ret ?_
    refine WN.cell24 rfl rfl rfl Try.underlying53 ty53 hH ?_
    refine ⟨(c13, n13, m13, (a13, l13, k13)), ?_, hH.keep, fun t h => ?_⟩
    · rw [hrt]
      by_cases he : e13 = s.length
      · rw [if_pos he, decide_eq_true (show (e13 : Int) = (s.length : Int) by omega)]; rfl
      · rw [if_neg he, decide_eq_false (show ¬ (e13 : Int) = (s.length : Int) by omega)]; rfl
    · rw [hrt] at h
      split at h
      · cases h; exact TQ.low hw13 (TQ.keep hV (by intro x hx; rw [List.mem_singleton.1 hx]; exact hl13) hT1)
      · cases h
  have hg4_3' := hg4_3; try simp only [decide_eq_true_eq, decide_eq_false_iff_not, Bool.not_eq_true', Bool.not_eq_false', Bool.not_eq_true, Bool.not_eq_false] at hg4_3'
  have hr1 := hR13.none (by omega)
  rw [hr1] at hrt
  dsimp only at hrt
  refine WL.pass rfl rfl (Wt.guard' rfl rfl rfl hg4_3 rfl) ?_
  refine WL.pass rfl rfl (Wt.guard' rfl rfl rfl hg4_3 rfl) ?_
  refine WL.pass rfl rfl (Wt.guard' rfl rfl rfl hg4_3 rfl) ?_
  refine WL.pass rfl rfl (Wt.guard' rfl rfl rfl hg4_3 rfl) ?_
  refine WL.u rfl rfl (Wt.plain rfl) (Ex.pickF rfl hg4_3 rfl) ?_
  replace hH := hH.f1
  refine WL.store4 ty53 rfl rfl rfl rfl rfl rfl (Wt.plain rfl) hH (fun wn hk hH => ?_)
  replace hV := hV.trans (hk.mono (by simp))
  refine WL.u rfl rfl (Wt.plain rfl) (Ex.assign rfl) ?_
  refine WL.next ?_
  refine WC.ret ?_
  refine WN.cell24 rfl rfl rfl Try.underlying53 ty53 hH ?_
  exact ⟨(c13, n13, m13, (a13, l13, k13)), by rw [hrt]; rfl, hH.keep, fun t h => by rw [hrt] at h; cases h⟩


end Go.Proofs.Ytamkbmhgclpidaa
