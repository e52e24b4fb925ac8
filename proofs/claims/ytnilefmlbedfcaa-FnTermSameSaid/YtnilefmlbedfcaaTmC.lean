/- Terms of the reference: how they are read, their grids. -/
import Derived.Test.YtnilefmlbedfcaaTmB
import Derived.Test.YtnilefmlbedfcaaQ4
namespace Go.Proofs.Ytnilefmlbedfcaa
set_option maxRecDepth 100000
set_option linter.unusedSimpArgs false
set_option linter.unusedVariables false
open Go Go.RowKit

set_option maxHeartbeats 2000000 in
theorem sl11Read1 (s : Str) (f p : Nat) (w : World) (ih : ∀ (p : Nat) (w2 : World), p ≤ s.length → s.length < p + f → Fn Try.prog 90 [vstr s, vint p] w2 (fun v w3 => ∃ q e, v = .tuple #[rQd.val q, vint (e : Nat)] ∧ Keep [] w2 w3 ∧ RdQ w2.heap.size w3 (rdV s f p) q e)) (h60 : s.length ≤ 60) (hpl : p ≤ s.length) (hf : s.length < p + (f + 1)) : Fn Try.prog 90 [vstr s, vint p] w (fun v w1 => ∃ q e, v = .tuple #[rQd.val q, vint (e : Nat)] ∧ Keep [] w w1 ∧ RdQ w.heap.size w1 (rdV s (f + 1) p) q e) := by
  refine Fn.enter (n := 173) Try.func90 rfl rfl rfl ?_
  show WC _ _ _ _ [(0, vstr s), (1, vint p)] _
  have hH := Hp.start [] w
  refine WC.seq ?_
  refine WC.region ?_
  refine WL.alloc ty56 rfl rfl (Wt.plain rfl) hH (fun b4 wn hb4 hk4 hH => ?_)
  refine WL.u rfl rfl (Wt.plain rfl) (Ex.assign rfl) ?_
  refine WL.next ?_
  refine WC.seq ?_
  refine WC.region ?_
  refine WL.lit0 Try.underlying54 ty56 rfl (Wt.plain rfl) hH (fun b16 wn hb16 hk16 hH => ?_)
  refine WL.u rfl rfl (Wt.plain rfl) (Ex.buildS bd56 rfl rfl rfl rfl rfl) ?_
  refine WL.alloc ty56 rfl rfl (Wt.plain rfl) hH (fun b6 wn hb6 hk6 hH => ?_)
  refine WL.store4 ty56 rfl rfl rfl rfl rfl rfl (Wt.plain rfl) hH (fun wn hk hH => ?_)
  refine WL.next ?_
  refine WC.seq ?_
  refine WC.seq ?_
  refine WC.region ?_
  refine WL.u rfl rfl (Wt.plain rfl) (Ex.move rfl) ?_
  refine WL.u rfl rfl (Wt.plain rfl) (Ex.move rfl) ?_
  refine WL.u rfl rfl (Wt.plain rfl) (Ex.lenStr Try.underlying9 rfl) ?_
  refine WL.u rfl rfl (Wt.plain rfl) (Ex.geq rfl rfl) ?_
  refine WL.next ?_
  refine WC.cond rfl (fun hc1 => ?_) (fun hc1 => ?_)
  · have hc1' := hc1; try simp only [decide_eq_true_eq, decide_eq_false_iff_not, Bool.not_eq_true', Bool.not_eq_false', Bool.not_eq_true, Bool.not_eq_false] at hc1'
    refine WC.seq ?_
    refine WC.region ?_
    refine WL.u rfl rfl (Wt.plain rfl) (Ex.loadHp4 Try.underlying56 ty56 rfl hH) ?_
    replace hH := hH.f2
    refine WL.store4 ty56 rfl rfl rfl rfl rfl rfl (Wt.plain rfl) hH (fun wn hk hH => ?_)
    refine WL.u rfl rfl (Wt.plain rfl) (Ex.assign rfl) ?_
    refine WL.next ?_
    refine WC.ret ?_
    refine WN.retThen ?_
    refine WN.cell24 rfl rfl rfl Try.underlying56 ty56 hH ?_
    have hrn : rdV s (f + 1) p = none := rdV_no (rdI_end (by omega))
    exact ⟨(46, 1, 1, (some ⟨b16, 0, none⟩, 0, 0)), 0, rfl, hH.keep, by rw [hrn]; exact rfl⟩
  have hc1' := hc1; try simp only [decide_eq_true_eq, decide_eq_false_iff_not, Bool.not_eq_true', Bool.not_eq_false', Bool.not_eq_true, Bool.not_eq_false] at hc1'
  have hp : p < s.length := by omega
  have hcl := u8lt (s.getD p 0)
  refine WC.skip ?_
  refine WN.next ?_
  refine WC.seq ?_
  refine WC.region ?_
  refine WL.u rfl rfl (Wt.plain rfl) (Ex.move rfl) ?_
  refine WL.u rfl rfl (Wt.plain rfl) (Ex.move rfl) ?_
  refine WL.u rfl rfl (Wt.plain rfl) (Ex.indexStr Try.underlying9 rfl rfl (by omega)) ?_
  refine WL.u rfl rfl (Wt.plain rfl) (Ex.assign rfl) ?_
  refine WL.next ?_
  refine WC.seq ?_
  refine WC.seq ?_
  refine WC.region ?_
  refine WL.u rfl rfl (Wt.plain rfl) (Ex.move rfl) ?_
  refine WL.call callable88 rfl (Wt.plain rfl) rfl rfl (sl1Letter _ _) ?_
  rintro _ _ ⟨rfl, hw⟩; obtain rfl := hw.symm
  refine WL.next ?_
  refine WC.cond rfl (fun hc2 => ?_) (fun hc2 => ?_)
  · have hc2' := hc2; try simp only [decide_eq_true_eq, decide_eq_false_iff_not, Bool.not_eq_true', Bool.not_eq_false', Bool.not_eq_true, Bool.not_eq_false] at hc2'
    refine WC.seq ?_
    refine WC.region ?_
    refine WL.u rfl rfl (Wt.plain rfl) (Ex.move rfl) ?_
    refine WL.lit0 Try.underlying54 ty56 rfl (Wt.plain rfl) hH (fun b29 wn hb29 hk29 hH => ?_)
    refine WL.u rfl rfl (Wt.plain rfl) (Ex.buildS bd56 rfl rfl rfl rfl rfl) ?_
    refine WL.u rfl rfl (Wt.plain rfl) (Ex.move rfl) ?_
    refine WL.u rfl rfl (Wt.plain rfl) (Ex.add rfl rfl (by omega)) ?_
    replace hH := hH.f3
    refine WL.store4 ty56 rfl rfl rfl rfl rfl rfl (Wt.plain rfl) hH (fun wn hk hH => ?_)
    refine WL.u rfl rfl (Wt.plain rfl) (Ex.assign rfl) ?_
    refine WL.next ?_
    refine WC.ret ?_
    refine WN.retThen ?_
    refine WN.cell24 rfl rfl rfl Try.underlying56 ty56 hH ?_
    exact ⟨(s.getD p 0, 1, 1, (some ⟨b29, 0, none⟩, 0, 0)), p + 1, rfl, hH.keep, by rw [rdV_at (rdI_leaf hp hc2) rfl]; exact ⟨rfl, by omega, _, rfl⟩⟩
  have hc2' := hc2; try simp only [decide_eq_true_eq, decide_eq_false_iff_not, Bool.not_eq_true', Bool.not_eq_false', Bool.not_eq_true, Bool.not_eq_false] at hc2'
  refine WC.skip ?_
  refine WN.next ?_
  refine WC.seq ?_
  refine WC.seq ?_
  refine WC.region ?_
  refine WL.u rfl rfl (Wt.plain rfl) (Ex.move rfl) ?_
  refine WL.u rfl rfl (Wt.plain rfl) (Ex.eql rfl rfl) ?_
  refine WL.u rfl rfl (Wt.plain rfl) (Ex.move rfl) ?_
  refine WL.split (t := 35) rfl (fun hg7_2 => ?_) (fun hg7_2 => ?_)
  · have hg7_2' := hg7_2; try simp only [decide_eq_true_eq, decide_eq_false_iff_not, Bool.not_eq_true', Bool.not_eq_false', Bool.not_eq_true, Bool.not_eq_false] at hg7_2'
    have hu : isU (s.getD p 0) = true := by rw [show s.getD p 0 = 62 from ubT 62 (by decide) hg7_2]; rfl
    refine WL.pass rfl rfl (Wt.guard' rfl rfl rfl hg7_2 rfl) ?_
    refine WL.pass rfl rfl (Wt.guard' rfl rfl rfl hg7_2 rfl) ?_
    refine WL.u rfl rfl (Wt.plain rfl) (Ex.pickT rfl hg7_2 rfl) ?_
    refine WL.u rfl rfl (Wt.plain rfl) (Ex.move rfl) ?_
    refine WL.pass rfl rfl (Wt.guard' rfl rfl rfl rfl rfl) ?_
    refine WL.pass rfl rfl (Wt.guard' rfl rfl rfl rfl rfl) ?_
    refine WL.u rfl rfl (Wt.plain rfl) (Ex.pickT rfl rfl rfl) ?_
    refine WL.next ?_
    refine WC.condT rfl rfl ?_
    refine WC.seq ?_
    refine WC.region ?_
    refine WL.u rfl rfl (Wt.plain rfl) (Ex.move rfl) ?_
    refine WL.u rfl rfl (Wt.plain rfl) (Ex.move rfl) ?_
    refine WL.u rfl rfl (Wt.plain rfl) (Ex.add rfl rfl (by omega)) ?_
    have hl47 := hH.lt 2 rfl
    have hw47 := hH.keep.size
    refine WL.call callable90 rfl (Wt.plain rfl) rfl rfl (ih (p + 1) _ (by omega) (by omega)) ?_
    rintro _ wn ⟨q47, e47, rfl, hC, hR47⟩; obtain ⟨c47, n47, m47, a47, l47, k47⟩ := q47; replace hH := hH.call hC
    have hV := Keep.refl [b4] wn
    refine WL.u rfl rfl (Wt.plain rfl) (Ex.move rfl) ?_
    refine WL.u rfl rfl (Wt.plain rfl) (Ex.extract rfl rfl) ?_
    refine WL.u rfl rfl (Wt.plain rfl) (Ex.extract rfl rfl) ?_
    have hsV8 := hV.size
    refine WL.alloc ty56 rfl rfl (Wt.plain rfl) hH (fun b8 wn hb8 hk8 hH => ?_)
    replace hV := hV.trans (hk8.nil)
    refine WL.store4 ty56 rfl rfl rfl rfl rfl rfl (Wt.plain rfl) hH (fun wn hk hH => ?_)
    replace hV := hV.shr hk (by intro x hx; rw [List.mem_singleton.1 hx]; omega)
    refine WL.u rfl rfl (Wt.plain rfl) (Ex.assign rfl) ?_
    refine WL.next ?_
    refine WC.seq ?_
    refine WC.region ?_
    refine WL.u rfl rfl (Wt.plain rfl) (Ex.move rfl) ?_
    refine WL.u rfl rfl (Wt.plain rfl) (Ex.fieldAddr fd56_1 rfl) ?_
    refine WL.u rfl rfl (Wt.plain rfl) (Ex.loadHp flat3 rfl hH rfl) ?_
    refine WL.u rfl rfl (Wt.plain rfl) (Ex.fieldAddr fd56_2 rfl) ?_
    refine WL.u rfl rfl (Wt.plain rfl) (Ex.loadHp flat3 rfl hH rfl) ?_
    refine WL.u rfl rfl (Wt.plain rfl) (Ex.loadHp4 Try.underlying56 ty56 rfl hH) ?_
    refine WL.buildSlice (pv := [(0, rQd.val (c47, n47, m47, (a47, l47, k47)))]) Try.underlying54 ty56 rfl rfl rfl (fill_rep rQd (by decide) (c47, n47, m47, (a47, l47, k47))) rfl (Wt.plain rfl) hH (fun b56 wn hb56 hk56 hH => ?_)
    have ho56 := Own.q1 (c47, n47, m47, (a47, l47, k47))
    replace hV := hV.trans hk56.nil
    refine WL.u rfl rfl (Wt.plain rfl) (Ex.buildS bd56 rfl rfl rfl rfl rfl) ?_
    have hsV10 := hV.size
    refine WL.alloc ty56 rfl rfl (Wt.plain rfl) hH (fun b10 wn hb10 hk10 hH => ?_)
    replace hV := hV.trans (hk10.nil)
    refine WL.store4 ty56 rfl rfl rfl rfl rfl rfl (Wt.plain rfl) hH (fun wn hk hH => ?_)
    replace hV := hV.shr hk (by intro x hx; rw [List.mem_singleton.1 hx]; omega)
    refine WL.next ?_
    refine WC.seq ?_
    refine WC.seq ?_
    refine WC.region ?_
    refine WL.u rfl rfl (Wt.plain rfl) (Ex.move rfl) ?_
    refine WL.u rfl rfl (Wt.plain rfl) (Ex.eql rfl rfl) ?_
    refine WL.next ?_
    refine WC.cond rfl (fun hc4 => ?_) (fun hc4 => ?_)
    · have h62 : s.getD p 0 = 62 := ubT 62 (by decide) hc4
      refine WC.seq ?_
      refine WC.region ?_
      refine WL.u rfl rfl (Wt.plain rfl) (Ex.fieldAddr fd56_2 rfl) ?_
      replace hH := hH.f2
      refine WL.u rfl rfl (Wt.plain rfl) (Ex.loadHp flat3 rfl hH rfl) ?_
      refine WL.u rfl rfl (Wt.plain rfl) (Ex.fieldAddr fd56_1 rfl) ?_
      replace hH := hH.f1
      refine WL.store1 ty3 rfl rfl rfl (Wt.plain rfl) hH (by first | decide | simp) rfl (fun wn hk hH => ?_)
      replace hV := hV.shr hk (by intro x hx; rw [List.mem_singleton.1 hx]; omega)
      refine WL.next ?_
      refine WC.region ?_
      refine WL.u rfl rfl (Wt.plain rfl) (Ex.fieldAddr fd56_1 rfl) ?_
      replace hH := hH.f1
      refine WL.u rfl rfl (Wt.plain rfl) (Ex.loadHp flat3 rfl hH rfl) ?_
      refine WL.u rfl rfl (Wt.plain rfl) (Ex.fieldAddr fd56_2 rfl) ?_
      replace hH := hH.f1
      refine WL.store1 ty3 rfl rfl rfl (Wt.plain rfl) hH (by first | decide | simp) rfl (fun wn hk hH => ?_)
      replace hV := hV.shr hk (by intro x hx; rw [List.mem_singleton.1 hx]; omega)
      refine WL.next ?_
      refine WC.seq ?_
      refine WC.region ?_
      refine WL.u rfl rfl (Wt.plain rfl) (Ex.loadHp4 Try.underlying56 ty56 rfl hH) ?_
      refine WL.u rfl rfl (Wt.plain rfl) (Ex.move rfl) ?_
      replace hH := hH.f5
      refine WL.store4 ty56 rfl rfl rfl rfl rfl rfl (Wt.plain rfl) hH (fun wn hk hH => ?_)
      replace hV := hV.trans (hk.mono (by simp))
      refine WL.u rfl rfl (Wt.plain rfl) (Ex.assign rfl) ?_
      refine WL.next ?_
      refine WC.ret ?_
      refine WN.retThen ?_
      refine WN.cell24 rfl rfl rfl Try.underlying56 ty56 hH ?_
      exact ⟨(s.getD p 0, m47, n47, (some ⟨b56, 0, none⟩, 1, 1)), e47, rfl, hH.keep, by
        rw [rdV_una hp hc2 hu rfl]
        have h := (hR47.keep hV (by intro x hx; rw [List.mem_singleton.1 hx]; exact hl47)).una hw47 (c := s.getD p 0) (cap := 1) (hH.base 3 rfl) (ho56.slAt hH 3 rfl)
        rw [if_pos h62, if_pos h62] at h
        exact h⟩
    have h62 : s.getD p 0 ≠ 62 := ubF 62 (by decide) hc4
    refine WC.skip ?_
    refine WN.next ?_
    refine WC.seq ?_
    refine WC.region ?_
    refine WL.u rfl rfl (Wt.plain rfl) (Ex.loadHp4 Try.underlying56 ty56 rfl hH) ?_
    refine WL.u rfl rfl (Wt.plain rfl) (Ex.move rfl) ?_
    replace hH := hH.f5
    refine WL.store4 ty56 rfl rfl rfl rfl rfl rfl (Wt.plain rfl) hH (fun wn hk hH => ?_)
    replace hV := hV.trans (hk.mono (by simp))
    refine WL.u rfl rfl (Wt.plain rfl) (Ex.assign rfl) ?_
    refine WL.next ?_
    refine WC.ret ?_
    refine WN.retThen ?_
    refine WN.cell24 rfl rfl rfl Try.underlying56 ty56 hH ?_
    exact ⟨(s.getD p 0, n47, m47, (some ⟨b56, 0, none⟩, 1, 1)), e47, rfl, hH.keep, by
      rw [rdV_una hp hc2 hu rfl]
      have h := (hR47.keep hV (by intro x hx; rw [List.mem_singleton.1 hx]; exact hl47)).una hw47 (c := s.getD p 0) (cap := 1) (hH.base 2 rfl) (ho56.slAt hH 2 rfl)
      rw [if_neg h62, if_neg h62] at h
      exact h⟩
  have hg7_2' := hg7_2; try simp only [decide_eq_true_eq, decide_eq_false_iff_not, Bool.not_eq_true', Bool.not_eq_false', Bool.not_eq_true, Bool.not_eq_false] at hg7_2'
  refine WL.u rfl rfl (Wt.guard' rfl rfl rfl hg7_2 rfl) (Ex.move rfl) ?_
  refine WL.u rfl rfl (Wt.guard' rfl rfl rfl hg7_2 rfl) (Ex.eql rfl rfl) ?_
  refine WL.u rfl rfl (Wt.plain rfl) (Ex.pickF rfl hg7_2 rfl) ?_
  refine WL.u rfl rfl (Wt.plain rfl) (Ex.move rfl) ?_
  refine WL.split (t := 39) rfl (fun hg7_6 => ?_) (fun hg7_6 => ?_)
  · have hg7_6' := hg7_6; try simp only [decide_eq_true_eq, decide_eq_false_iff_not, Bool.not_eq_true', Bool.not_eq_false', Bool.not_eq_true, Bool.not_eq_false] at hg7_6'
    have hu : isU (s.getD p 0) = true := by rw [show s.getD p 0 = 94 from ubT 94 (by decide) hg7_6]; rfl
    refine WL.pass rfl rfl (Wt.guard' rfl rfl rfl hg7_6 rfl) ?_
    refine WL.pass rfl rfl (Wt.guard' rfl rfl rfl hg7_6 rfl) ?_
    refine WL.u rfl rfl (Wt.plain rfl) (Ex.pickT rfl hg7_6 rfl) ?_
    refine WL.next ?_
    refine WC.condT rfl rfl ?_
    refine WC.seq ?_
    refine WC.region ?_
    refine WL.u rfl rfl (Wt.plain rfl) (Ex.move rfl) ?_
    refine WL.u rfl rfl (Wt.plain rfl) (Ex.move rfl) ?_
    refine WL.u rfl rfl (Wt.plain rfl) (Ex.add rfl rfl (by omega)) ?_
    have hl47 := hH.lt 2 rfl
    have hw47 := hH.keep.size
    refine WL.call callable90 rfl (Wt.plain rfl) rfl rfl (ih (p + 1) _ (by omega) (by omega)) ?_
    rintro _ wn ⟨q47, e47, rfl, hC, hR47⟩; obtain ⟨c47, n47, m47, a47, l47, k47⟩ := q47; replace hH := hH.call hC
    have hV := Keep.refl [b4] wn
    refine WL.u rfl rfl (Wt.plain rfl) (Ex.move rfl) ?_
    refine WL.u rfl rfl (Wt.plain rfl) (Ex.extract rfl rfl) ?_
    refine WL.u rfl rfl (Wt.plain rfl) (Ex.extract rfl rfl) ?_
    have hsV8 := hV.size
    refine WL.alloc ty56 rfl rfl (Wt.plain rfl) hH (fun b8 wn hb8 hk8 hH => ?_)
    replace hV := hV.trans (hk8.nil)
    refine WL.store4 ty56 rfl rfl rfl rfl rfl rfl (Wt.plain rfl) hH (fun wn hk hH => ?_)
    replace hV := hV.shr hk (by intro x hx; rw [List.mem_singleton.1 hx]; omega)
    refine WL.u rfl rfl (Wt.plain rfl) (Ex.assign rfl) ?_
    refine WL.next ?_
    refine WC.seq ?_
    refine WC.region ?_
    refine WL.u rfl rfl (Wt.plain rfl) (Ex.move rfl) ?_
    refine WL.u rfl rfl (Wt.plain rfl) (Ex.fieldAddr fd56_1 rfl) ?_
    refine WL.u rfl rfl (Wt.plain rfl) (Ex.loadHp flat3 rfl hH rfl) ?_
    refine WL.u rfl rfl (Wt.plain rfl) (Ex.fieldAddr fd56_2 rfl) ?_
    refine WL.u rfl rfl (Wt.plain rfl) (Ex.loadHp flat3 rfl hH rfl) ?_
    refine WL.u rfl rfl (Wt.plain rfl) (Ex.loadHp4 Try.underlying56 ty56 rfl hH) ?_
    refine WL.buildSlice (pv := [(0, rQd.val (c47, n47, m47, (a47, l47, k47)))]) Try.underlying54 ty56 rfl rfl rfl (fill_rep rQd (by decide) (c47, n47, m47, (a47, l47, k47))) rfl (Wt.plain rfl) hH (fun b56 wn hb56 hk56 hH => ?_)
    have ho56 := Own.q1 (c47, n47, m47, (a47, l47, k47))
    replace hV := hV.trans hk56.nil
    refine WL.u rfl rfl (Wt.plain rfl) (Ex.buildS bd56 rfl rfl rfl rfl rfl) ?_
    have hsV10 := hV.size
    refine WL.alloc ty56 rfl rfl (Wt.plain rfl) hH (fun b10 wn hb10 hk10 hH => ?_)
    replace hV := hV.trans (hk10.nil)
    refine WL.store4 ty56 rfl rfl rfl rfl rfl rfl (Wt.plain rfl) hH (fun wn hk hH => ?_)
    replace hV := hV.shr hk (by intro x hx; rw [List.mem_singleton.1 hx]; omega)
    refine WL.next ?_
    refine WC.seq ?_
    refine WC.seq ?_
    refine WC.region ?_
    refine WL.u rfl rfl (Wt.plain rfl) (Ex.move rfl) ?_
    refine WL.u rfl rfl (Wt.plain rfl) (Ex.eql rfl rfl) ?_
    refine WL.next ?_
    refine WC.cond rfl (fun hc4 => ?_) (fun hc4 => ?_)
    · have h62 : s.getD p 0 = 62 := ubT 62 (by decide) hc4
      refine WC.seq ?_
      refine WC.region ?_
      refine WL.u rfl rfl (Wt.plain rfl) (Ex.fieldAddr fd56_2 rfl) ?_
      replace hH := hH.f2
      refine WL.u rfl rfl (Wt.plain rfl) (Ex.loadHp flat3 rfl hH rfl) ?_
      refine WL.u rfl rfl (Wt.plain rfl) (Ex.fieldAddr fd56_1 rfl) ?_
      replace hH := hH.f1
      refine WL.store1 ty3 rfl rfl rfl (Wt.plain rfl) hH (by first | decide | simp) rfl (fun wn hk hH => ?_)
      replace hV := hV.shr hk (by intro x hx; rw [List.mem_singleton.1 hx]; omega)
      refine WL.next ?_
      refine WC.region ?_
      refine WL.u rfl rfl (Wt.plain rfl) (Ex.fieldAddr fd56_1 rfl) ?_
      replace hH := hH.f1
      refine WL.u rfl rfl (Wt.plain rfl) (Ex.loadHp flat3 rfl hH rfl) ?_
      refine WL.u rfl rfl (Wt.plain rfl) (Ex.fieldAddr fd56_2 rfl) ?_
      replace hH := hH.f1
      refine WL.store1 ty3 rfl rfl rfl (Wt.plain rfl) hH (by first | decide | simp) rfl (fun wn hk hH => ?_)
      replace hV := hV.shr hk (by intro x hx; rw [List.mem_singleton.1 hx]; omega)
      refine WL.next ?_
      refine WC.seq ?_
      refine WC.region ?_
      refine WL.u rfl rfl (Wt.plain rfl) (Ex.loadHp4 Try.underlying56 ty56 rfl hH) ?_
      refine WL.u rfl rfl (Wt.plain rfl) (Ex.move rfl) ?_
      replace hH := hH.f5
      refine WL.store4 ty56 rfl rfl rfl rfl rfl rfl (Wt.plain rfl) hH (fun wn hk hH => ?_)
      replace hV := hV.trans (hk.mono (by simp))
      refine WL.u rfl rfl (Wt.plain rfl) (Ex.assign rfl) ?_
      refine WL.next ?_
      refine WC.ret ?_
      refine WN.retThen ?_
      refine WN.cell24 rfl rfl rfl Try.underlying56 ty56 hH ?_
      exact ⟨(s.getD p 0, m47, n47, (some ⟨b56, 0, none⟩, 1, 1)), e47, rfl, hH.keep, by
        rw [rdV_una hp hc2 hu rfl]
        have h := (hR47.keep hV (by intro x hx; rw [List.mem_singleton.1 hx]; exact hl47)).una hw47 (c := s.getD p 0) (cap := 1) (hH.base 3 rfl) (ho56.slAt hH 3 rfl)
        rw [if_pos h62, if_pos h62] at h
        exact h⟩
    have h62 : s.getD p 0 ≠ 62 := ubF 62 (by decide) hc4
    refine WC.skip ?_
    refine WN.next ?_
    refine WC.seq ?_
    refine WC.region ?_
    refine WL.u rfl rfl (Wt.plain rfl) (Ex.loadHp4 Try.underlying56 ty56 rfl hH) ?_
    refine WL.u rfl rfl (Wt.plain rfl) (Ex.move rfl) ?_
    replace hH := hH.f5
    refine WL.store4 ty56 rfl rfl rfl rfl rfl rfl (Wt.plain rfl) hH (fun wn hk hH => ?_)
    replace hV := hV.trans (hk.mono (by simp))
    refine WL.u rfl rfl (Wt.plain rfl) (Ex.assign rfl) ?_
    refine WL.next ?_
    refine WC.ret ?_
    refine WN.retThen ?_
    refine WN.cell24 rfl rfl rfl Try.underlying56 ty56 hH ?_
    exact ⟨(s.getD p 0, n47, m47, (some ⟨b56, 0, none⟩, 1, 1)), e47, rfl, hH.keep, by
      rw [rdV_una hp hc2 hu rfl]
      have h := (hR47.keep hV (by intro x hx; rw [List.mem_singleton.1 hx]; exact hl47)).una hw47 (c := s.getD p 0) (cap := 1) (hH.base 2 rfl) (ho56.slAt hH 2 rfl)
      rw [if_neg h62, if_neg h62] at h
      exact h⟩
  have hg7_6' := hg7_6; try simp only [decide_eq_true_eq, decide_eq_false_iff_not, Bool.not_eq_true', Bool.not_eq_false', Bool.not_eq_true, Bool.not_eq_false] at hg7_6'
  refine WL.u rfl rfl (Wt.guard' rfl rfl rfl hg7_6 rfl) (Ex.move rfl) ?_
  refine WL.u rfl rfl (Wt.guard' rfl rfl rfl hg7_6 rfl) (Ex.eql rfl rfl) ?_
  refine WL.u rfl rfl (Wt.plain rfl) (Ex.pickF rfl hg7_6 rfl) ?_
  refine WL.next ?_
  refine WC.cond rfl (fun hc3 => ?_) (fun hc3 => ?_)
  · have hc3' := hc3; try simp only [decide_eq_true_eq, decide_eq_false_iff_not, Bool.not_eq_true', Bool.not_eq_false', Bool.not_eq_true, Bool.not_eq_false] at hc3'
    have hu : isU (s.getD p 0) = true := by rw [show s.getD p 0 = 42 from ubT 42 (by decide) hc3]; rfl
    refine WC.seq ?_
    refine WC.region ?_
    refine WL.u rfl rfl (Wt.plain rfl) (Ex.move rfl) ?_
    refine WL.u rfl rfl (Wt.plain rfl) (Ex.move rfl) ?_
    refine WL.u rfl rfl (Wt.plain rfl) (Ex.add rfl rfl (by omega)) ?_
    have hl47 := hH.lt 2 rfl
    have hw47 := hH.keep.size
    refine WL.call callable90 rfl (Wt.plain rfl) rfl rfl (ih (p + 1) _ (by omega) (by omega)) ?_
    rintro _ wn ⟨q47, e47, rfl, hC, hR47⟩; obtain ⟨c47, n47, m47, a47, l47, k47⟩ := q47; replace hH := hH.call hC
    have hV := Keep.refl [b4] wn
    refine WL.u rfl rfl (Wt.plain rfl) (Ex.move rfl) ?_
    refine WL.u rfl rfl (Wt.plain rfl) (Ex.extract rfl rfl) ?_
    refine WL.u rfl rfl (Wt.plain rfl) (Ex.extract rfl rfl) ?_
    have hsV8 := hV.size
    refine WL.alloc ty56 rfl rfl (Wt.plain rfl) hH (fun b8 wn hb8 hk8 hH => ?_)
    replace hV := hV.trans (hk8.nil)
    refine WL.store4 ty56 rfl rfl rfl rfl rfl rfl (Wt.plain rfl) hH (fun wn hk hH => ?_)
    replace hV := hV.shr hk (by intro x hx; rw [List.mem_singleton.1 hx]; omega)
    refine WL.u rfl rfl (Wt.plain rfl) (Ex.assign rfl) ?_
    refine WL.next ?_
    refine WC.seq ?_
    refine WC.region ?_
    refine WL.u rfl rfl (Wt.plain rfl) (Ex.move rfl) ?_
    refine WL.u rfl rfl (Wt.plain rfl) (Ex.fieldAddr fd56_1 rfl) ?_
    refine WL.u rfl rfl (Wt.plain rfl) (Ex.loadHp flat3 rfl hH rfl) ?_
    refine WL.u rfl rfl (Wt.plain rfl) (Ex.fieldAddr fd56_2 rfl) ?_
    refine WL.u rfl rfl (Wt.plain rfl) (Ex.loadHp flat3 rfl hH rfl) ?_
    refine WL.u rfl rfl (Wt.plain rfl) (Ex.loadHp4 Try.underlying56 ty56 rfl hH) ?_
    refine WL.buildSlice (pv := [(0, rQd.val (c47, n47, m47, (a47, l47, k47)))]) Try.underlying54 ty56 rfl rfl rfl (fill_rep rQd (by decide) (c47, n47, m47, (a47, l47, k47))) rfl (Wt.plain rfl) hH (fun b56 wn hb56 hk56 hH => ?_)
    have ho56 := Own.q1 (c47, n47, m47, (a47, l47, k47))
    replace hV := hV.trans hk56.nil
    refine WL.u rfl rfl (Wt.plain rfl) (Ex.buildS bd56 rfl rfl rfl rfl rfl) ?_
    have hsV10 := hV.size
    refine WL.alloc ty56 rfl rfl (Wt.plain rfl) hH (fun b10 wn hb10 hk10 hH => ?_)
    replace hV := hV.trans (hk10.nil)
    refine WL.store4 ty56 rfl rfl rfl rfl rfl rfl (Wt.plain rfl) hH (fun wn hk hH => ?_)
    replace hV := hV.shr hk (by intro x hx; rw [List.mem_singleton.1 hx]; omega)
    refine WL.next ?_
    refine WC.seq ?_
    refine WC.seq ?_
    refine WC.region ?_
    refine WL.u rfl rfl (Wt.plain rfl) (Ex.move rfl) ?_
    refine WL.u rfl rfl (Wt.plain rfl) (Ex.eql rfl rfl) ?_
    refine WL.next ?_
    refine WC.cond rfl (fun hc4 => ?_) (fun hc4 => ?_)
    · have h62 : s.getD p 0 = 62 := ubT 62 (by decide) hc4
      refine WC.seq ?_
      refine WC.region ?_
      refine WL.u rfl rfl (Wt.plain rfl) (Ex.fieldAddr fd56_2 rfl) ?_
      replace hH := hH.f2
      refine WL.u rfl rfl (Wt.plain rfl) (Ex.loadHp flat3 rfl hH rfl) ?_
      refine WL.u rfl rfl (Wt.plain rfl) (Ex.fieldAddr fd56_1 rfl) ?_
      replace hH := hH.f1
      refine WL.store1 ty3 rfl rfl rfl (Wt.plain rfl) hH (by first | decide | simp) rfl (fun wn hk hH => ?_)
      replace hV := hV.shr hk (by intro x hx; rw [List.mem_singleton.1 hx]; omega)
      refine WL.next ?_
      refine WC.region ?_
      refine WL.u rfl rfl (Wt.plain rfl) (Ex.fieldAddr fd56_1 rfl) ?_
      replace hH := hH.f1
      refine WL.u rfl rfl (Wt.plain rfl) (Ex.loadHp flat3 rfl hH rfl) ?_
      refine WL.u rfl rfl (Wt.plain rfl) (Ex.fieldAddr fd56_2 rfl) ?_
      replace hH := hH.f1
      refine WL.store1 ty3 rfl rfl rfl (Wt.plain rfl) hH (by first | decide | simp) rfl (fun wn hk hH => ?_)
      replace hV := hV.shr hk (by intro x hx; rw [List.mem_singleton.1 hx]; omega)
      refine WL.next ?_
      refine WC.seq ?_
      refine WC.region ?_
      refine WL.u rfl rfl (Wt.plain rfl) (Ex.loadHp4 Try.underlying56 ty56 rfl hH) ?_
      refine WL.u rfl rfl (Wt.plain rfl) (Ex.move rfl) ?_
      replace hH := hH.f5
      refine WL.store4 ty56 rfl rfl rfl rfl rfl rfl (Wt.plain rfl) hH (fun wn hk hH => ?_)
      replace hV := hV.trans (hk.mono (by simp))
      refine WL.u rfl rfl (Wt.plain rfl) (Ex.assign rfl) ?_
      refine WL.next ?_
      refine WC.ret ?_
      refine WN.retThen ?_
      refine WN.cell24 rfl rfl rfl Try.underlying56 ty56 hH ?_
      exact ⟨(s.getD p 0, m47, n47, (some ⟨b56, 0, none⟩, 1, 1)), e47, rfl, hH.keep, by
        rw [rdV_una hp hc2 hu rfl]
        have h := (hR47.keep hV (by intro x hx; rw [List.mem_singleton.1 hx]; exact hl47)).una hw47 (c := s.getD p 0) (cap := 1) (hH.base 3 rfl) (ho56.slAt hH 3 rfl)
        rw [if_pos h62, if_pos h62] at h
        exact h⟩
    have h62 : s.getD p 0 ≠ 62 := ubF 62 (by decide) hc4
    refine WC.skip ?_
    refine WN.next ?_
    refine WC.seq ?_
    refine WC.region ?_
    refine WL.u rfl rfl (Wt.plain rfl) (Ex.loadHp4 Try.underlying56 ty56 rfl hH) ?_
    refine WL.u rfl rfl (Wt.plain rfl) (Ex.move rfl) ?_
    replace hH := hH.f5
    refine WL.store4 ty56 rfl rfl rfl rfl rfl rfl (Wt.plain rfl) hH (fun wn hk hH => ?_)
    replace hV := hV.trans (hk.mono (by simp))
    refine WL.u rfl rfl (Wt.plain rfl) (Ex.assign rfl) ?_
    refine WL.next ?_
    refine WC.ret ?_
    refine WN.retThen ?_
    refine WN.cell24 rfl rfl rfl Try.underlying56 ty56 hH ?_
    exact ⟨(s.getD p 0, n47, m47, (some ⟨b56, 0, none⟩, 1, 1)), e47, rfl, hH.keep, by
      rw [rdV_una hp hc2 hu rfl]
      have h := (hR47.keep hV (by intro x hx; rw [List.mem_singleton.1 hx]; exact hl47)).una hw47 (c := s.getD p 0) (cap := 1) (hH.base 2 rfl) (ho56.slAt hH 2 rfl)
      rw [if_neg h62, if_neg h62] at h
      exact h⟩
  have hc3' := hc3; try simp only [decide_eq_true_eq, decide_eq_false_iff_not, Bool.not_eq_true', Bool.not_eq_false', Bool.not_eq_true, Bool.not_eq_false] at hc3'
  have hu : isU (s.getD p 0) = false := by
    unfold isU
    rw [decide_eq_false (show s.getD p 0 ≠ 62 from ubF 62 (by decide) hg7_2), decide_eq_false (show s.getD p 0 ≠ 94 from ubF 94 (by decide) hg7_6), decide_eq_false (show s.getD p 0 ≠ 42 from ubF 42 (by decide) hc3)]; rfl
  refine WC.skip ?_
  refine WN.next ?_
  refine WC.seq ?_
  refine WC.seq ?_
  refine WC.region ?_
  refine WL.u rfl rfl (Wt.plain rfl) (Ex.move rfl) ?_
  refine WL.u rfl rfl (Wt.plain rfl) (Ex.neq rfl rfl) ?_
  refine WL.next ?_
  refine WC.cond rfl (fun hc5 => ?_) (fun hc5 => ?_)
  · have hc5' := hc5; try simp only [decide_eq_true_eq, decide_eq_false_iff_not, Bool.not_eq_true', Bool.not_eq_false', Bool.not_eq_true, Bool.not_eq_false] at hc5'
    have hrn : rdV s (f + 1) p = none := rdV_no (rdI_bad hp hc2 hu (nbT 40 (by decide) hc5))
    refine WC.seq ?_
    refine WC.region ?_
    refine WL.u rfl rfl (Wt.plain rfl) (Ex.loadHp4 Try.underlying56 ty56 rfl hH) ?_
    replace hH := hH.f2
    refine WL.store4 ty56 rfl rfl rfl rfl rfl rfl (Wt.plain rfl) hH (fun wn hk hH => ?_)
    refine WL.u rfl rfl (Wt.plain rfl) (Ex.assign rfl) ?_
    refine WL.next ?_
    refine WC.ret ?_
    refine WN.retThen ?_
    refine WN.cell24 rfl rfl rfl Try.underlying56 ty56 hH ?_
    exact ⟨(46, 1, 1, (some ⟨b16, 0, none⟩, 0, 0)), 0, rfl, hH.keep, by rw [hrn]; exact rfl⟩
  have hc5' := hc5; try simp only [decide_eq_true_eq, decide_eq_false_iff_not, Bool.not_eq_true', Bool.not_eq_false', Bool.not_eq_true, Bool.not_eq_false] at hc5'
  have h40 : s.getD p 0 = 40 := nbF 40 (by decide) hc5
  refine WC.skip ?_
  refine WN.next ?_
  refine WC.seq ?_
  refine WC.region ?_
  refine WL.u rfl rfl (Wt.plain rfl) (Ex.move rfl) ?_
  refine WL.u rfl rfl (Wt.plain rfl) (Ex.move rfl) ?_
  refine WL.u rfl rfl (Wt.plain rfl) (Ex.add rfl rfl (by omega)) ?_
  have hl75 := hH.lt 2 rfl
  have hw75 := hH.keep.size
  refine WL.call callable90 rfl (Wt.plain rfl) rfl rfl (ih (p + 1) _ (by omega) (by omega)) ?_
  rintro _ wn ⟨q75, e75, rfl, hC, hR75⟩; obtain ⟨c75, n75, m75, a75, l75, k75⟩ := q75; replace hH := hH.call hC
  have hV := Keep.refl [b4] wn
  refine WL.u rfl rfl (Wt.plain rfl) (Ex.move rfl) ?_
  refine WL.u rfl rfl (Wt.plain rfl) (Ex.extract rfl rfl) ?_
  refine WL.u rfl rfl (Wt.plain rfl) (Ex.extract rfl rfl) ?_
  have hsV11 := hV.size
  refine WL.alloc ty56 rfl rfl (Wt.plain rfl) hH (fun b11 wn hb11 hk11 hH => ?_)
  replace hV := hV.trans (hk11.nil)
  refine WL.store4 ty56 rfl rfl rfl rfl rfl rfl (Wt.plain rfl) hH (fun wn hk hH => ?_)
  replace hV := hV.shr hk (by intro x hx; rw [List.mem_singleton.1 hx]; omega)
  refine WL.u rfl rfl (Wt.plain rfl) (Ex.assign rfl) ?_
  refine WL.next ?_
  refine WC.seq ?_
  refine WC.seq ?_
  refine WC.region ?_
  refine WL.u rfl rfl (Wt.plain rfl) (Ex.move rfl) ?_
  refine WL.u rfl rfl (Wt.plain rfl) (Ex.eql rfl rfl) ?_
  refine WL.u rfl rfl (Wt.plain rfl) (Ex.move rfl) ?_
  refine WL.split (t := 80) rfl (fun hg17_2 => ?_) (fun hg17_2 => ?_)
  · have hg17_2' := hg17_2; try simp only [decide_eq_true_eq, decide_eq_false_iff_not, Bool.not_eq_true', Bool.not_eq_false', Bool.not_eq_true, Bool.not_eq_false] at hg17_2'
    have hrn : rdV s (f + 1) p = none := rdV_bin0 hp h40 (hR75.none (by omega))
    refine WL.pass rfl rfl (Wt.guard' rfl rfl rfl hg17_2 rfl) ?_
    refine WL.pass rfl rfl (Wt.guard' rfl rfl rfl hg17_2 rfl) ?_
    refine WL.pass rfl rfl (Wt.guard' rfl rfl rfl hg17_2 rfl) ?_
    refine WL.pass rfl rfl (Wt.guard' rfl rfl rfl hg17_2 rfl) ?_
    refine WL.u rfl rfl (Wt.plain rfl) (Ex.pickT rfl hg17_2 rfl) ?_
    refine WL.u rfl rfl (Wt.plain rfl) (Ex.move rfl) ?_
    refine WL.pass rfl rfl (Wt.guard' rfl rfl rfl rfl rfl) ?_
    refine WL.pass rfl rfl (Wt.guard' rfl rfl rfl rfl rfl) ?_
    refine WL.pass rfl rfl (Wt.guard' rfl rfl rfl rfl rfl) ?_
    refine WL.pass rfl rfl (Wt.guard' rfl rfl rfl rfl rfl) ?_
    refine WL.pass rfl rfl (Wt.guard' rfl rfl rfl rfl rfl) ?_
    refine WL.pass rfl rfl (Wt.undef rfl rfl rfl) ?_
    refine WL.pass rfl rfl (Wt.undef rfl rfl rfl) ?_
    refine WL.pass rfl rfl (Wt.undef rfl rfl rfl) ?_
    refine WL.pass rfl rfl (Wt.undef rfl rfl rfl) ?_
    refine WL.pass rfl rfl (Wt.guard' rfl rfl rfl rfl rfl) ?_
    refine WL.u rfl rfl (Wt.plain rfl) (Ex.pickT rfl rfl rfl) ?_
    refine WL.next ?_
    refine WC.condT rfl rfl ?_
    refine WC.seq ?_
    refine WC.region ?_
    replace hH := hH.f1
    refine WL.u rfl rfl (Wt.plain rfl) (Ex.loadHp4 Try.underlying56 ty56 rfl hH) ?_
    replace hH := hH.f3
    refine WL.store4 ty56 rfl rfl rfl rfl rfl rfl (Wt.plain rfl) hH (fun wn hk hH => ?_)
    replace hV := hV.trans (hk.mono (by simp))
    refine WL.u rfl rfl (Wt.plain rfl) (Ex.assign rfl) ?_
    refine WL.next ?_
    refine WC.ret ?_
    refine WN.retThen ?_
    refine WN.cell24 rfl rfl rfl Try.underlying56 ty56 hH ?_
    exact ⟨(46, 1, 1, (some ⟨b16, 0, none⟩, 0, 0)), 0, rfl, hH.keep, by rw [hrn]; exact rfl⟩
  have hg17_2' := hg17_2; try simp only [decide_eq_true_eq, decide_eq_false_iff_not, Bool.not_eq_true', Bool.not_eq_false', Bool.not_eq_true, Bool.not_eq_false] at hg17_2'
  obtain ⟨t1, hr1, hT1⟩ := hR75.some (by omega)
  obtain ⟨hri1, hv1⟩ := rdV_some hr1
  obtain ⟨hW1, hpe, hel⟩ := rdI_ok hri1
  refine WL.u rfl rfl (Wt.guard' rfl rfl rfl hg17_2 rfl) (Ex.move rfl) ?_
  refine WL.u rfl rfl (Wt.guard' rfl rfl rfl hg17_2 rfl) (Ex.move rfl) ?_
  refine WL.u rfl rfl (Wt.guard' rfl rfl rfl hg17_2 rfl) (Ex.lenStr Try.underlying9 rfl) ?_
  refine WL.u rfl rfl (Wt.guard' rfl rfl rfl hg17_2 rfl) (Ex.geq rfl rfl) ?_
  refine WL.u rfl rfl (Wt.plain rfl) (Ex.pickF rfl hg17_2 rfl) ?_
  refine WL.u rfl rfl (Wt.plain rfl) (Ex.move rfl) ?_
  refine WL.split (t := 86) rfl (fun hg17_8 => ?_) (fun hg17_8 => ?_)
  · have hg17_8' := hg17_8; try simp only [decide_eq_true_eq, decide_eq_false_iff_not, Bool.not_eq_true', Bool.not_eq_false', Bool.not_eq_true, Bool.not_eq_false] at hg17_8'
    have hrn : rdV s (f + 1) p = none := rdV_bin1 hp h40 hr1 (.inl (by omega))
    refine WL.pass rfl rfl (Wt.guard' rfl rfl rfl hg17_8 rfl) ?_
    refine WL.pass rfl rfl (Wt.guard' rfl rfl rfl hg17_8 rfl) ?_
    refine WL.pass rfl rfl (Wt.guard' rfl rfl rfl hg17_8 rfl) ?_
    refine WL.pass rfl rfl (Wt.guard' rfl rfl rfl hg17_8 rfl) ?_
    refine WL.pass rfl rfl (Wt.guard' rfl rfl rfl hg17_8 rfl) ?_
    refine WL.pass rfl rfl (Wt.undef rfl rfl rfl) ?_
    refine WL.pass rfl rfl (Wt.undef rfl rfl rfl) ?_
    refine WL.pass rfl rfl (Wt.undef rfl rfl rfl) ?_
    refine WL.pass rfl rfl (Wt.undef rfl rfl rfl) ?_
    refine WL.pass rfl rfl (Wt.guard' rfl rfl rfl hg17_8 rfl) ?_
    refine WL.u rfl rfl (Wt.plain rfl) (Ex.pickT rfl hg17_8 rfl) ?_
    refine WL.next ?_
    refine WC.condT rfl rfl ?_
    refine WC.seq ?_
    refine WC.region ?_
    replace hH := hH.f1
    refine WL.u rfl rfl (Wt.plain rfl) (Ex.loadHp4 Try.underlying56 ty56 rfl hH) ?_
    replace hH := hH.f3
    refine WL.store4 ty56 rfl rfl rfl rfl rfl rfl (Wt.plain rfl) hH (fun wn hk hH => ?_)
    replace hV := hV.trans (hk.mono (by simp))
    refine WL.u rfl rfl (Wt.plain rfl) (Ex.assign rfl) ?_
    refine WL.next ?_
    refine WC.ret ?_
    refine WN.retThen ?_
    refine WN.cell24 rfl rfl rfl Try.underlying56 ty56 hH ?_
    exact ⟨(46, 1, 1, (some ⟨b16, 0, none⟩, 0, 0)), 0, rfl, hH.keep, by rw [hrn]; exact rfl⟩
  have hg17_8' := hg17_8; try simp only [decide_eq_true_eq, decide_eq_false_iff_not, Bool.not_eq_true', Bool.not_eq_false', Bool.not_eq_true, Bool.not_eq_false] at hg17_8'
  have hcl2 := u8lt (s.getD e75 0)
  refine WL.u rfl rfl (Wt.guard' rfl rfl rfl hg17_8 rfl) (Ex.move rfl) ?_
  refine WL.u rfl rfl (Wt.guard' rfl rfl rfl hg17_8 rfl) (Ex.move rfl) ?_
  refine WL.u rfl rfl (Wt.guard' rfl rfl rfl hg17_8 rfl) (Ex.indexStr Try.underlying9 rfl rfl (by omega)) ?_
  refine WL.u rfl rfl (Wt.guard' rfl rfl rfl hg17_8 rfl) (Ex.neq rfl rfl) ?_
  refine WL.u rfl rfl (Wt.guard' rfl rfl rfl hg17_8 rfl) (Ex.move rfl) ?_
  refine WL.split (t := 91) rfl (fun hg17_13 => ?_) (fun hg17_13 => ?_)
  · have hg17_13' := hg17_13; try simp only [decide_eq_true_eq, decide_eq_false_iff_not, Bool.not_eq_true', Bool.not_eq_false', Bool.not_eq_true, Bool.not_eq_false] at hg17_13'
    refine WL.u rfl rfl (Wt.guard' rfl rfl rfl hg17_13 rfl) (Ex.move rfl) ?_
    refine WL.u rfl rfl (Wt.guard' rfl rfl rfl hg17_13 rfl) (Ex.move rfl) ?_
    refine WL.u rfl rfl (Wt.guard' rfl rfl rfl hg17_13 rfl) (Ex.indexStr Try.underlying9 rfl rfl (by omega)) ?_
    refine WL.u rfl rfl (Wt.guard' rfl rfl rfl hg17_13 rfl) (Ex.neq rfl rfl) ?_
    refine WL.u rfl rfl (Wt.guard' rfl rfl rfl hg17_8 rfl) (Ex.pickT rfl hg17_13 rfl) ?_
    refine WL.u rfl rfl (Wt.plain rfl) (Ex.pickF rfl hg17_8 rfl) ?_
    refine WL.next ?_
    refine WC.cond rfl (fun hc6 => ?_) (fun hc6 => ?_)
    · have hc6' := hc6; try simp only [decide_eq_true_eq, decide_eq_false_iff_not, Bool.not_eq_true', Bool.not_eq_false', Bool.not_eq_true, Bool.not_eq_false] at hc6'
      have hB : isB (s.getD e75 0) = false := by unfold isB; rw [decide_eq_false (show s.getD e75 0 ≠ 124 from nbT 124 (by decide) hg17_13), decide_eq_false (show s.getD e75 0 ≠ 45 from nbT 45 (by decide) hc6)]; rfl
      have hrn : rdV s (f + 1) p = none := rdV_bin1 hp h40 hr1 (.inr hB)
      refine WC.seq ?_
      refine WC.region ?_
      replace hH := hH.f1
      refine WL.u rfl rfl (Wt.plain rfl) (Ex.loadHp4 Try.underlying56 ty56 rfl hH) ?_
      replace hH := hH.f3
      refine WL.store4 ty56 rfl rfl rfl rfl rfl rfl (Wt.plain rfl) hH (fun wn hk hH => ?_)
      replace hV := hV.trans (hk.mono (by simp))
      refine WL.u rfl rfl (Wt.plain rfl) (Ex.assign rfl) ?_
      refine WL.next ?_
      refine WC.ret ?_
      refine WN.retThen ?_
      refine WN.cell24 rfl rfl rfl Try.underlying56 ty56 hH ?_
      exact ⟨(46, 1, 1, (some ⟨b16, 0, none⟩, 0, 0)), 0, rfl, hH.keep, by rw [hrn]; exact rfl⟩
    have hc6' := hc6; try simp only [decide_eq_true_eq, decide_eq_false_iff_not, Bool.not_eq_true', Bool.not_eq_false', Bool.not_eq_true, Bool.not_eq_false] at hc6'
    have hB : isB (s.getD e75 0) = true := by rw [show s.getD e75 0 = 45 from nbF 45 (by decide) hc6]; rfl
    have hqB : ¬ (s.length ≤ e75 ∨ isB (s.getD e75 0) = false) := by rw [hB]; simp; omega
    refine WC.skip ?_
    refine WN.next ?_
    refine WC.seq ?_
    refine WC.region ?_
    refine WL.u rfl rfl (Wt.plain rfl) (Ex.move rfl) ?_
    refine WL.u rfl rfl (Wt.plain rfl) (Ex.move rfl) ?_
    refine WL.u rfl rfl (Wt.plain rfl) (Ex.add rfl rfl (by omega)) ?_
    have hl103 := hH.lt 3 rfl
    have hw103 := hH.keep.size
    refine WL.call callable90 rfl (Wt.plain rfl) rfl rfl (ih (e75 + 1) _ (by omega) (by omega)) ?_
    rintro _ wn ⟨q103, e103, rfl, hC, hR103⟩; obtain ⟨c103, n103, m103, a103, l103, k103⟩ := q103; replace hH := hH.call hC; replace hV := hV.trans hC.nil; replace hT1 := TQ.keep hV (by intro x hx; rw [List.mem_singleton.1 hx]; exact hl75) hT1
    have hV := Keep.refl [b4] wn
    refine WL.u rfl rfl (Wt.plain rfl) (Ex.move rfl) ?_
    refine WL.u rfl rfl (Wt.plain rfl) (Ex.extract rfl rfl) ?_
    refine WL.u rfl rfl (Wt.plain rfl) (Ex.extract rfl rfl) ?_
    have hsV13 := hV.size
    refine WL.alloc ty56 rfl rfl (Wt.plain rfl) hH (fun b13 wn hb13 hk13 hH => ?_)
    replace hV := hV.trans (hk13.nil)
    refine WL.store4 ty56 rfl rfl rfl rfl rfl rfl (Wt.plain rfl) hH (fun wn hk hH => ?_)
    replace hV := hV.shr hk (by intro x hx; rw [List.mem_singleton.1 hx]; omega)
    refine WL.u rfl rfl (Wt.plain rfl) (Ex.assign rfl) ?_
    refine WL.next ?_
    refine WC.seq ?_
    refine WC.seq ?_
    refine WC.region ?_
    refine WL.u rfl rfl (Wt.plain rfl) (Ex.move rfl) ?_
    refine WL.u rfl rfl (Wt.plain rfl) (Ex.eql rfl rfl) ?_
    refine WL.u rfl rfl (Wt.plain rfl) (Ex.move rfl) ?_
    refine WL.split (t := 108) rfl (fun hg20_2 => ?_) (fun hg20_2 => ?_)
    · have hg20_2' := hg20_2; try simp only [decide_eq_true_eq, decide_eq_false_iff_not, Bool.not_eq_true', Bool.not_eq_false', Bool.not_eq_true, Bool.not_eq_false] at hg20_2'
      have hrn : rdV s (f + 1) p = none := rdV_bin2 hp h40 hr1 hqB (hR103.none (by omega))
      refine WL.pass rfl rfl (Wt.guard' rfl rfl rfl hg20_2 rfl) ?_
      refine WL.pass rfl rfl (Wt.guard' rfl rfl rfl hg20_2 rfl) ?_
      refine WL.pass rfl rfl (Wt.guard' rfl rfl rfl hg20_2 rfl) ?_
      refine WL.pass rfl rfl (Wt.guard' rfl rfl rfl hg20_2 rfl) ?_
      refine WL.u rfl rfl (Wt.plain rfl) (Ex.pickT rfl hg20_2 rfl) ?_
      refine WL.u rfl rfl (Wt.plain rfl) (Ex.move rfl) ?_
      refine WL.pass rfl rfl (Wt.guard' rfl rfl rfl rfl rfl) ?_
      refine WL.pass rfl rfl (Wt.guard' rfl rfl rfl rfl rfl) ?_
      refine WL.pass rfl rfl (Wt.guard' rfl rfl rfl rfl rfl) ?_
      refine WL.pass rfl rfl (Wt.guard' rfl rfl rfl rfl rfl) ?_
      refine WL.u rfl rfl (Wt.plain rfl) (Ex.pickT rfl rfl rfl) ?_
      refine WL.next ?_
      refine WC.condT rfl rfl ?_
      refine WC.seq ?_
      refine WC.region ?_
      replace hH := hH.f2
      refine WL.u rfl rfl (Wt.plain rfl) (Ex.loadHp4 Try.underlying56 ty56 rfl hH) ?_
      replace hH := hH.f4
      refine WL.store4 ty56 rfl rfl rfl rfl rfl rfl (Wt.plain rfl) hH (fun wn hk hH => ?_)
      replace hV := hV.trans (hk.mono (by simp))
      refine WL.u rfl rfl (Wt.plain rfl) (Ex.assign rfl) ?_
      refine WL.next ?_
      refine WC.ret ?_
      refine WN.retThen ?_
      refine WN.cell24 rfl rfl rfl Try.underlying56 ty56 hH ?_
      exact ⟨(46, 1, 1, (some ⟨b16, 0, none⟩, 0, 0)), 0, rfl, hH.keep, by rw [hrn]; exact rfl⟩
    have hg20_2' := hg20_2; try simp only [decide_eq_true_eq, decide_eq_false_iff_not, Bool.not_eq_true', Bool.not_eq_false', Bool.not_eq_true, Bool.not_eq_false] at hg20_2'
    obtain ⟨t2, hr2, hT2⟩ := hR103.some (by omega)
    obtain ⟨hri2, hv2⟩ := rdV_some hr2
    obtain ⟨hW2, hpe2, hel2⟩ := rdI_ok hri2
    refine WL.u rfl rfl (Wt.guard' rfl rfl rfl hg20_2 rfl) (Ex.move rfl) ?_
    refine WL.u rfl rfl (Wt.guard' rfl rfl rfl hg20_2 rfl) (Ex.move rfl) ?_
    refine WL.u rfl rfl (Wt.guard' rfl rfl rfl hg20_2 rfl) (Ex.lenStr Try.underlying9 rfl) ?_
    refine WL.u rfl rfl (Wt.guard' rfl rfl rfl hg20_2 rfl) (Ex.geq rfl rfl) ?_
    refine WL.u rfl rfl (Wt.plain rfl) (Ex.pickF rfl hg20_2 rfl) ?_
    refine WL.u rfl rfl (Wt.plain rfl) (Ex.move rfl) ?_
    refine WL.split (t := 114) rfl (fun hg20_8 => ?_) (fun hg20_8 => ?_)
    · have hg20_8' := hg20_8; try simp only [decide_eq_true_eq, decide_eq_false_iff_not, Bool.not_eq_true', Bool.not_eq_false', Bool.not_eq_true, Bool.not_eq_false] at hg20_8'
      have hrn : rdV s (f + 1) p = none := rdV_bin3 hp h40 hr1 hqB hr2 (.inl (by omega))
      refine WL.pass rfl rfl (Wt.guard' rfl rfl rfl hg20_8 rfl) ?_
      refine WL.pass rfl rfl (Wt.guard' rfl rfl rfl hg20_8 rfl) ?_
      refine WL.pass rfl rfl (Wt.guard' rfl rfl rfl hg20_8 rfl) ?_
      refine WL.pass rfl rfl (Wt.guard' rfl rfl rfl hg20_8 rfl) ?_
      refine WL.u rfl rfl (Wt.plain rfl) (Ex.pickT rfl hg20_8 rfl) ?_
      refine WL.next ?_
      refine WC.condT rfl rfl ?_
      refine WC.seq ?_
      refine WC.region ?_
      replace hH := hH.f2
      refine WL.u rfl rfl (Wt.plain rfl) (Ex.loadHp4 Try.underlying56 ty56 rfl hH) ?_
      replace hH := hH.f4
      refine WL.store4 ty56 rfl rfl rfl rfl rfl rfl (Wt.plain rfl) hH (fun wn hk hH => ?_)
      replace hV := hV.trans (hk.mono (by simp))
      refine WL.u rfl rfl (Wt.plain rfl) (Ex.assign rfl) ?_
      refine WL.next ?_
      refine WC.ret ?_
      refine WN.retThen ?_
      refine WN.cell24 rfl rfl rfl Try.underlying56 ty56 hH ?_
      exact ⟨(46, 1, 1, (some ⟨b16, 0, none⟩, 0, 0)), 0, rfl, hH.keep, by rw [hrn]; exact rfl⟩
    have hg20_8' := hg20_8; try simp only [decide_eq_true_eq, decide_eq_false_iff_not, Bool.not_eq_true', Bool.not_eq_false', Bool.not_eq_true, Bool.not_eq_false] at hg20_8'
    refine WL.u rfl rfl (Wt.guard' rfl rfl rfl hg20_8 rfl) (Ex.move rfl) ?_
    refine WL.u rfl rfl (Wt.guard' rfl rfl rfl hg20_8 rfl) (Ex.move rfl) ?_
    refine WL.u rfl rfl (Wt.guard' rfl rfl rfl hg20_8 rfl) (Ex.indexStr Try.underlying9 rfl rfl (by omega)) ?_
    refine WL.u rfl rfl (Wt.guard' rfl rfl rfl hg20_8 rfl) (Ex.neq rfl rfl) ?_
    refine WL.u rfl rfl (Wt.plain rfl) (Ex.pickF rfl hg20_8 rfl) ?_
    refine WL.next ?_
    refine WC.cond rfl (fun hc7 => ?_) (fun hc7 => ?_)
    · have hc7' := hc7; try simp only [decide_eq_true_eq, decide_eq_false_iff_not, Bool.not_eq_true', Bool.not_eq_false', Bool.not_eq_true, Bool.not_eq_false] at hc7'
      have hrn : rdV s (f + 1) p = none := rdV_bin3 hp h40 hr1 hqB hr2 (.inr (nbT 41 (by decide) hc7))
      refine WC.seq ?_
      refine WC.region ?_
      replace hH := hH.f2
      refine WL.u rfl rfl (Wt.plain rfl) (Ex.loadHp4 Try.underlying56 ty56 rfl hH) ?_
      replace hH := hH.f4
      refine WL.store4 ty56 rfl rfl rfl rfl rfl rfl (Wt.plain rfl) hH (fun wn hk hH => ?_)
      replace hV := hV.trans (hk.mono (by simp))
      refine WL.u rfl rfl (Wt.plain rfl) (Ex.assign rfl) ?_
      refine WL.next ?_
      refine WC.ret ?_
      refine WN.retThen ?_
      refine WN.cell24 rfl rfl rfl Try.underlying56 ty56 hH ?_
      exact ⟨(46, 1, 1, (some ⟨b16, 0, none⟩, 0, 0)), 0, rfl, hH.keep, by rw [hrn]; exact rfl⟩
    have hc7' := hc7; try simp only [decide_eq_true_eq, decide_eq_false_iff_not, Bool.not_eq_true', Bool.not_eq_false', Bool.not_eq_true, Bool.not_eq_false] at hc7'
    have h41 : s.getD e103 0 = 41 := nbF 41 (by decide) hc7
    have hqC : ¬ (s.length ≤ e103 ∨ s.getD e103 0 ≠ 41) := by rw [h41]; simp; omega
    obtain ⟨hG1, hRR1, hCC1⟩ := gridT_ok hW1 hv1
    obtain ⟨hG2, hRR2, hCC2⟩ := gridT_ok hW2 hv2
    have hz1 := hG1.n5
    have hz2 := hG1.m5
    have hz3 := hG2.n5
    have hz4 := hG2.m5
    dsimp only [nR, nC] at hRR1 hCC1 hRR2 hCC2
    obtain ⟨k11, k12, _⟩ := hT1.size
    obtain ⟨k21, k22, _⟩ := hT2.size
    dsimp only at k11 k12 k21 k22
    have hbb1 : n75 ≤ 5 ∧ m75 ≤ 5 := by rw [k11, k12, ← hRR1, ← hCC1]; exact ⟨hz1, hz2⟩
    have hbb2 : n103 ≤ 5 ∧ m103 ≤ 5 := by rw [k21, k22, ← hRR2, ← hCC2]; exact ⟨hz3, hz4⟩
    refine WC.skip ?_
    refine WN.next ?_
    refine WC.seq ?_
    have hQ := hH
    refine WC.ptree (Keep [] _) (.q 0 (.q 1 (.q 2 (.q 3 (.q 4 (.q 5 (.q 6 (.q 7 (.q 8 (.alt 9 11 (.q 10 (.f 11 (.f 12 .nil))) (.f 9 (.q 10 (.f 12 .nil))))))))))))) rfl (by kernel_rfl) (Keep.drew _ _) (fun hR => ?_)
    replace hH := hH.drew
    replace hV := hV.trans (Keep.drew _ _)
    refine WPt.q rfl rfl rfl (Wt.plain rfl) (fun w hC => Ex.move rfl) ?_
    refine WPt.q rfl rfl rfl (Wt.plain rfl) (fun w hC => Ex.move rfl) ?_
    refine WPt.q rfl rfl rfl (Wt.plain rfl) (fun w hC => Ex.indexStr Try.underlying9 rfl rfl (by omega)) ?_
    refine WPt.q rfl rfl rfl (Wt.plain rfl) (fun w hC => Ex.fieldAddr fd56_1 rfl) ?_
    refine WPt.q rfl rfl rfl (Wt.plain rfl) (fun w hC => Ex.loadK flat3 rfl (hQ.at 1 rfl) hC (by simp) rfl) ?_
    refine WPt.q rfl rfl rfl (Wt.plain rfl) (fun w hC => Ex.fieldAddr fd56_2 rfl) ?_
    refine WPt.q rfl rfl rfl (Wt.plain rfl) (fun w hC => Ex.loadK flat3 rfl (hQ.at 1 rfl) hC (by simp) rfl) ?_
    refine WPt.q rfl rfl rfl (Wt.plain rfl) (fun w hC => Ex.loadK4 Try.underlying56 ty56 rfl (hQ.at 1 rfl) hC (by simp)) ?_
    refine WPt.q rfl rfl rfl (Wt.plain rfl) (fun w hC => Ex.loadK4 Try.underlying56 ty56 rfl (hQ.at 0 rfl) hC (by simp)) ?_
    refine WPt.alt rfl rfl ?_ ?_
    · refine WL.buildSlice (pv := [(0, rQd.val (c75, n75, m75, (a75, l75, k75))), (1, rQd.val (c103, n103, m103, (a103, l103, k103)))]) Try.underlying54 ty56 rfl rfl rfl (fill_q2 (by simp) (c75, n75, m75, (a75, l75, k75)) (c103, n103, m103, (a103, l103, k103))) rfl (Wt.plain rfl) hH (fun b130 wn hb130 hk130 hH => ?_)
      have ho130 := Own.q2 (c75, n75, m75, (a75, l75, k75)) (c103, n103, m103, (a103, l103, k103))
      replace hV := hV.trans hk130.nil
      replace hR := hR.trans hk130.nil
      refine WPt.b hR ?_
      refine WPt.q rfl rfl rfl (Wt.plain rfl) (fun w hC => Ex.buildS bd56 rfl rfl rfl rfl rfl) ?_
      refine WPt.f rfl ?_
      have hsV15 := hV.size
      have hsR15 := hR.size
      refine WL.alloc ty56 rfl rfl (Wt.plain rfl) hH (fun b15 wn hb15 hk15 hH => ?_)
      replace hV := hV.trans (hk15.nil)
      replace hR := hR.trans (hk15.nil)
      refine WPt.b hR ?_
      refine WPt.f rfl ?_
      refine WL.store4 ty56 rfl rfl rfl rfl rfl rfl (Wt.plain rfl) hH (fun wn hk hH => ?_)
      replace hV := hV.shr hk (by intro x hx; rw [List.mem_singleton.1 hx]; omega)
      replace hR := hR.shrink hk (by intro x hx; rw [List.mem_singleton.1 hx]; omega)
      refine WPt.b hR ?_
      refine WPt.nil (fun hC => ?_); clear hC
      refine WN.next ?_
      refine WC.seq ?_
      refine WC.seq ?_
      refine WC.region ?_
      refine WL.u rfl rfl (Wt.plain rfl) (Ex.move rfl) ?_
      refine WL.u rfl rfl (Wt.plain rfl) (Ex.move rfl) ?_
      refine WL.u rfl rfl (Wt.plain rfl) (Ex.indexStr Try.underlying9 rfl rfl (by omega)) ?_
      refine WL.u rfl rfl (Wt.plain rfl) (Ex.eql rfl rfl) ?_
      refine WL.next ?_
      refine WC.cond rfl (fun hc8 => ?_) (fun hc8 => ?_)
      · have h124 : s.getD e75 0 = 124 := ubT 124 (by decide) hc8
        refine WC.seq ?_
        refine WC.region ?_
        refine WL.u rfl rfl (Wt.plain rfl) (Ex.fieldAddr fd56_2 rfl) ?_
        replace hH := hH.f3
        refine WL.u rfl rfl (Wt.plain rfl) (Ex.loadHp flat3 rfl hH rfl) ?_
        refine WL.u rfl rfl (Wt.plain rfl) (Ex.fieldAddr fd56_2 rfl) ?_
        replace hH := hH.f3
        refine WL.u rfl rfl (Wt.plain rfl) (Ex.loadHp flat3 rfl hH rfl) ?_
        refine WL.u rfl rfl (Wt.plain rfl) ((Ex.add rfl rfl (by show I64 ((m75 : Int) + (m103 : Int)); omega)).to (show _ = vint ((m75 + m103 : Nat) : Int) by simp)) ?_
        refine WL.u rfl rfl (Wt.plain rfl) (Ex.fieldAddr fd56_2 rfl) ?_
        replace hH := hH.f2
        refine WL.store1 ty3 rfl rfl rfl (Wt.plain rfl) hH (by first | decide | simp) rfl (fun wn hk hH => ?_)
        replace hV := hV.shr hk (by intro x hx; rw [List.mem_singleton.1 hx]; omega)
        refine WL.next ?_
        refine WC.seq ?_
        refine WC.region ?_
        refine WL.u rfl rfl (Wt.plain rfl) (Ex.fieldAddr fd56_1 rfl) ?_
        replace hH := hH.f2
        refine WL.u rfl rfl (Wt.plain rfl) (Ex.loadHp flat3 rfl hH rfl) ?_
        refine WL.u rfl rfl (Wt.plain rfl) (Ex.fieldAddr fd56_1 rfl) ?_
        replace hH := hH.f2
        refine WL.u rfl rfl (Wt.plain rfl) (Ex.loadHp flat3 rfl hH rfl) ?_
        refine WL.u rfl rfl (Wt.plain rfl) (Ex.neq rfl rfl) ?_
        refine WL.u rfl rfl (Wt.plain rfl) (Ex.move rfl) ?_
        refine WL.split (t := 147) rfl (fun hg25_5 => ?_) (fun hg25_5 => ?_)
        · have hg25_5' := hg25_5; try simp only [decide_eq_true_eq, decide_eq_false_iff_not, Bool.not_eq_true', Bool.not_eq_false', Bool.not_eq_true, Bool.not_eq_false] at hg25_5'
          have hrn : rdV s (f + 1) p = none := by rw [rdV_bin4 hp h40 hr1 hqB hr2 hqC, if_neg]; rw [if_pos h124]; intro h; have h := of_decide_eq_true h; omega
          refine WL.pass rfl rfl (Wt.guard' rfl rfl rfl hg25_5 rfl) ?_
          refine WL.pass rfl rfl (Wt.guard' rfl rfl rfl hg25_5 rfl) ?_
          refine WL.pass rfl rfl (Wt.guard' rfl rfl rfl hg25_5 rfl) ?_
          refine WL.u rfl rfl (Wt.plain rfl) (Ex.pickT rfl hg25_5 rfl) ?_
          refine WL.next ?_
          refine WC.condT rfl rfl ?_
          refine WC.seq ?_
          refine WC.region ?_
          replace hH := hH.f4
          refine WL.u rfl rfl (Wt.plain rfl) (Ex.loadHp4 Try.underlying56 ty56 rfl hH) ?_
          replace hH := hH.f6
          refine WL.store4 ty56 rfl rfl rfl rfl rfl rfl (Wt.plain rfl) hH (fun wn hk hH => ?_)
          replace hV := hV.trans (hk.mono (by simp))
          refine WL.u rfl rfl (Wt.plain rfl) (Ex.assign rfl) ?_
          refine WL.next ?_
          refine WC.ret ?_
          refine WN.retThen ?_
          refine WN.cell24 rfl rfl rfl Try.underlying56 ty56 hH ?_
          exact ⟨(46, 1, 1, (some ⟨b16, 0, none⟩, 0, 0)), 0, rfl, hH.keep, by rw [hrn]; exact rfl⟩
        have hg25_5' := hg25_5; try simp only [decide_eq_true_eq, decide_eq_false_iff_not, Bool.not_eq_true', Bool.not_eq_false', Bool.not_eq_true, Bool.not_eq_false] at hg25_5'
        refine WL.u rfl rfl (Wt.guard' rfl rfl rfl hg25_5 rfl) (Ex.fieldAddr fd56_2 rfl) ?_
        replace hH := hH.f2
        refine WL.u rfl rfl (Wt.guard' rfl rfl rfl hg25_5 rfl) (Ex.loadHp flat3 rfl hH rfl) ?_
        refine WL.u rfl rfl (Wt.guard' rfl rfl rfl hg25_5 rfl) (Ex.gtr rfl rfl) ?_
        refine WL.u rfl rfl (Wt.plain rfl) (Ex.pickF rfl hg25_5 rfl) ?_
        refine WL.next ?_
        refine WC.cond rfl (fun hc9 => ?_) (fun hc9 => ?_)
        · have hc9' := hc9; try simp only [decide_eq_true_eq, decide_eq_false_iff_not, Bool.not_eq_true', Bool.not_eq_false', Bool.not_eq_true, Bool.not_eq_false] at hc9'
          have hrn : rdV s (f + 1) p = none := by rw [rdV_bin4 hp h40 hr1 hqB hr2 hqC, if_neg]; rw [if_pos h124]; intro h; have h := of_decide_eq_true h; omega
          refine WC.seq ?_
          refine WC.region ?_
          replace hH := hH.f4
          refine WL.u rfl rfl (Wt.plain rfl) (Ex.loadHp4 Try.underlying56 ty56 rfl hH) ?_
          replace hH := hH.f6
          refine WL.store4 ty56 rfl rfl rfl rfl rfl rfl (Wt.plain rfl) hH (fun wn hk hH => ?_)
          replace hV := hV.trans (hk.mono (by simp))
          refine WL.u rfl rfl (Wt.plain rfl) (Ex.assign rfl) ?_
          refine WL.next ?_
          refine WC.ret ?_
          refine WN.retThen ?_
          refine WN.cell24 rfl rfl rfl Try.underlying56 ty56 hH ?_
          exact ⟨(46, 1, 1, (some ⟨b16, 0, none⟩, 0, 0)), 0, rfl, hH.keep, by rw [hrn]; exact rfl⟩
        have hc9' := hc9; try simp only [decide_eq_true_eq, decide_eq_false_iff_not, Bool.not_eq_true', Bool.not_eq_false', Bool.not_eq_true, Bool.not_eq_false] at hc9'
        refine WC.skip ?_
        refine WN.next ?_
        refine WC.seq ?_
        refine WC.region ?_
        refine WL.u rfl rfl (Wt.plain rfl) (Ex.loadHp4 Try.underlying56 ty56 rfl hH) ?_
        refine WL.u rfl rfl (Wt.plain rfl) (Ex.move rfl) ?_
        refine WL.u rfl rfl (Wt.plain rfl) (Ex.add rfl rfl (by omega)) ?_
        replace hH := hH.f6
        refine WL.store4 ty56 rfl rfl rfl rfl rfl rfl (Wt.plain rfl) hH (fun wn hk hH => ?_)
        replace hV := hV.trans (hk.mono (by simp))
        refine WL.u rfl rfl (Wt.plain rfl) (Ex.assign rfl) ?_
        refine WL.next ?_
        refine WC.ret ?_
        refine WN.cell24 rfl rfl rfl Try.underlying56 ty56 hH ?_
        exact ⟨(s.getD e75 0, n75, m75 + m103, (some ⟨b130, 0, none⟩, 2, 2)), e103 + 1, rfl, hH.keep, by
          rw [rdV_bin4 hp h40 hr1 hqB hr2 hqC, if_pos (by rw [if_pos h124]; exact decide_eq_true ⟨by omega, by omega⟩)]
          refine ⟨rfl, by omega, b130, 2, _, _, ?_, hH.base 4 rfl, ho130.slAt hH 4 rfl, TQ.low hw75 (TQ.keep hV (by intro x hx; rw [List.mem_singleton.1 hx]; exact hl75) hT1), TQ.low hw103 (TQ.keep hV (by intro x hx; rw [List.mem_singleton.1 hx]; exact hl103) hT2)⟩
          unfold sz
          rw [if_pos h124]
          simp only [k11, k12, k21, k22]⟩
      have h124 : s.getD e75 0 ≠ 124 := ubF 124 (by decide) hc8
      refine WC.seq ?_
      refine WC.region ?_
      refine WL.u rfl rfl (Wt.plain rfl) (Ex.fieldAddr fd56_1 rfl) ?_
      replace hH := hH.f3
      refine WL.u rfl rfl (Wt.plain rfl) (Ex.loadHp flat3 rfl hH rfl) ?_
      refine WL.u rfl rfl (Wt.plain rfl) (Ex.fieldAddr fd56_1 rfl) ?_
      replace hH := hH.f3
      refine WL.u rfl rfl (Wt.plain rfl) (Ex.loadHp flat3 rfl hH rfl) ?_
      refine WL.u rfl rfl (Wt.plain rfl) ((Ex.add rfl rfl (by show I64 ((n75 : Int) + (n103 : Int)); omega)).to (show _ = vint ((n75 + n103 : Nat) : Int) by simp)) ?_
      refine WL.u rfl rfl (Wt.plain rfl) (Ex.fieldAddr fd56_1 rfl) ?_
      replace hH := hH.f2
      refine WL.store1 ty3 rfl rfl rfl (Wt.plain rfl) hH (by first | decide | simp) rfl (fun wn hk hH => ?_)
      replace hV := hV.shr hk (by intro x hx; rw [List.mem_singleton.1 hx]; omega)
      refine WL.next ?_
      refine WC.seq ?_
      refine WC.region ?_
      refine WL.u rfl rfl (Wt.plain rfl) (Ex.fieldAddr fd56_2 rfl) ?_
      replace hH := hH.f2
      refine WL.u rfl rfl (Wt.plain rfl) (Ex.loadHp flat3 rfl hH rfl) ?_
      refine WL.u rfl rfl (Wt.plain rfl) (Ex.fieldAddr fd56_2 rfl) ?_
      replace hH := hH.f2
      refine WL.u rfl rfl (Wt.plain rfl) (Ex.loadHp flat3 rfl hH rfl) ?_
      refine WL.u rfl rfl (Wt.plain rfl) (Ex.neq rfl rfl) ?_
      refine WL.u rfl rfl (Wt.plain rfl) (Ex.move rfl) ?_
      refine WL.split (t := 164) rfl (fun hg28_5 => ?_) (fun hg28_5 => ?_)
      · have hg28_5' := hg28_5; try simp only [decide_eq_true_eq, decide_eq_false_iff_not, Bool.not_eq_true', Bool.not_eq_false', Bool.not_eq_true, Bool.not_eq_false] at hg28_5'
        have hrn : rdV s (f + 1) p = none := by rw [rdV_bin4 hp h40 hr1 hqB hr2 hqC, if_neg]; rw [if_neg h124]; intro h; have h := of_decide_eq_true h; omega
        refine WL.pass rfl rfl (Wt.guard' rfl rfl rfl hg28_5 rfl) ?_
        refine WL.pass rfl rfl (Wt.guard' rfl rfl rfl hg28_5 rfl) ?_
        refine WL.pass rfl rfl (Wt.guard' rfl rfl rfl hg28_5 rfl) ?_
        refine WL.u rfl rfl (Wt.plain rfl) (Ex.pickT rfl hg28_5 rfl) ?_
        refine WL.next ?_
        refine WC.condT rfl rfl ?_
        refine WC.seq ?_
        refine WC.region ?_
        replace hH := hH.f4
        refine WL.u rfl rfl (Wt.plain rfl) (Ex.loadHp4 Try.underlying56 ty56 rfl hH) ?_
        replace hH := hH.f6
        refine WL.store4 ty56 rfl rfl rfl rfl rfl rfl (Wt.plain rfl) hH (fun wn hk hH => ?_)
        replace hV := hV.trans (hk.mono (by simp))
        refine WL.u rfl rfl (Wt.plain rfl) (Ex.assign rfl) ?_
        refine WL.next ?_
        refine WC.ret ?_
        refine WN.retThen ?_
        refine WN.cell24 rfl rfl rfl Try.underlying56 ty56 hH ?_
        exact ⟨(46, 1, 1, (some ⟨b16, 0, none⟩, 0, 0)), 0, rfl, hH.keep, by rw [hrn]; exact rfl⟩
      have hg28_5' := hg28_5; try simp only [decide_eq_true_eq, decide_eq_false_iff_not, Bool.not_eq_true', Bool.not_eq_false', Bool.not_eq_true, Bool.not_eq_false] at hg28_5'
      refine WL.u rfl rfl (Wt.guard' rfl rfl rfl hg28_5 rfl) (Ex.fieldAddr fd56_1 rfl) ?_
      replace hH := hH.f2
      refine WL.u rfl rfl (Wt.guard' rfl rfl rfl hg28_5 rfl) (Ex.loadHp flat3 rfl hH rfl) ?_
      refine WL.u rfl rfl (Wt.guard' rfl rfl rfl hg28_5 rfl) (Ex.gtr rfl rfl) ?_
      refine WL.u rfl rfl (Wt.plain rfl) (Ex.pickF rfl hg28_5 rfl) ?_
      refine WL.next ?_
      refine WC.cond rfl (fun hc10 => ?_) (fun hc10 => ?_)
      · have hc10' := hc10; try simp only [decide_eq_true_eq, decide_eq_false_iff_not, Bool.not_eq_true', Bool.not_eq_false', Bool.not_eq_true, Bool.not_eq_false] at hc10'
        have hrn : rdV s (f + 1) p = none := by rw [rdV_bin4 hp h40 hr1 hqB hr2 hqC, if_neg]; rw [if_neg h124]; intro h; have h := of_decide_eq_true h; omega
        refine WC.seq ?_
        refine WC.region ?_
        replace hH := hH.f4
        refine WL.u rfl rfl (Wt.plain rfl) (Ex.loadHp4 Try.underlying56 ty56 rfl hH) ?_
        replace hH := hH.f6
        refine WL.store4 ty56 rfl rfl rfl rfl rfl rfl (Wt.plain rfl) hH (fun wn hk hH => ?_)
        replace hV := hV.trans (hk.mono (by simp))
        refine WL.u rfl rfl (Wt.plain rfl) (Ex.assign rfl) ?_
        refine WL.next ?_
        refine WC.ret ?_
        refine WN.retThen ?_
        refine WN.cell24 rfl rfl rfl Try.underlying56 ty56 hH ?_
        exact ⟨(46, 1, 1, (some ⟨b16, 0, none⟩, 0, 0)), 0, rfl, hH.keep, by rw [hrn]; exact rfl⟩
      have hc10' := hc10; try simp only [decide_eq_true_eq, decide_eq_false_iff_not, Bool.not_eq_true', Bool.not_eq_false', Bool.not_eq_true, Bool.not_eq_false] at hc10'
      refine WC.skip ?_
      refine WN.next ?_
      refine WC.seq ?_
      refine WC.region ?_
      refine WL.u rfl rfl (Wt.plain rfl) (Ex.loadHp4 Try.underlying56 ty56 rfl hH) ?_
      refine WL.u rfl rfl (Wt.plain rfl) (Ex.move rfl) ?_
      refine WL.u rfl rfl (Wt.plain rfl) (Ex.add rfl rfl (by omega)) ?_
      replace hH := hH.f6
      refine WL.store4 ty56 rfl rfl rfl rfl rfl rfl (Wt.plain rfl) hH (fun wn hk hH => ?_)
      replace hV := hV.trans (hk.mono (by simp))
      refine WL.u rfl rfl (Wt.plain rfl) (Ex.assign rfl) ?_
      refine WL.next ?_
      refine WC.ret ?_
      refine WN.cell24 rfl rfl rfl Try.underlying56 ty56 hH ?_
      exact ⟨(s.getD e75 0, n75 + n103, m75, (some ⟨b130, 0, none⟩, 2, 2)), e103 + 1, rfl, hH.keep, by
        rw [rdV_bin4 hp h40 hr1 hqB hr2 hqC, if_pos (by rw [if_neg h124]; exact decide_eq_true ⟨by omega, by omega⟩)]
        refine ⟨rfl, by omega, b130, 2, _, _, ?_, hH.base 4 rfl, ho130.slAt hH 4 rfl, TQ.low hw75 (TQ.keep hV (by intro x hx; rw [List.mem_singleton.1 hx]; exact hl75) hT1), TQ.low hw103 (TQ.keep hV (by intro x hx; rw [List.mem_singleton.1 hx]; exact hl103) hT2)⟩
        unfold sz
        rw [if_neg h124]
        simp only [k11, k12, k21, k22]⟩
    have hsV15 := hV.size
    have hsR15 := hR.size
    refine WL.alloc ty56 rfl rfl (Wt.plain rfl) hH (fun b15 wn hb15 hk15 hH => ?_)
    replace hV := hV.trans (hk15.nil)
    replace hR := hR.trans (hk15.nil)
    refine WPt.b hR ?_
    refine WPt.f rfl ?_
    refine WL.buildSlice (pv := [(0, rQd.val (c75, n75, m75, (a75, l75, k75))), (1, rQd.val (c103, n103, m103, (a103, l103, k103)))]) Try.underlying54 ty56 rfl rfl rfl (fill_q2 (by simp) (c75, n75, m75, (a75, l75, k75)) (c103, n103, m103, (a103, l103, k103))) rfl (Wt.plain rfl) hH (fun b130 wn hb130 hk130 hH => ?_)
    have ho130 := Own.q2 (c75, n75, m75, (a75, l75, k75)) (c103, n103, m103, (a103, l103, k103))
    replace hV := hV.trans hk130.nil
    replace hR := hR.trans hk130.nil
    refine WPt.b hR ?_
    refine WPt.q rfl rfl rfl (Wt.plain rfl) (fun w hC => Ex.buildS bd56 rfl rfl rfl rfl rfl) ?_
    refine WPt.f rfl ?_
    replace hH := hH.f1
    refine WL.store4 ty56 rfl rfl rfl rfl rfl rfl (Wt.plain rfl) hH (fun wn hk hH => ?_)
    replace hV := hV.shr hk (by intro x hx; rw [List.mem_singleton.1 hx]; omega)
    replace hR := hR.shrink hk (by intro x hx; rw [List.mem_singleton.1 hx]; omega)
    refine WPt.b hR ?_
    refine WPt.nil (fun hC => ?_); clear hC
    refine WN.next ?_
    refine WC.seq ?_
    refine WC.seq ?_
    refine WC.region ?_
    refine WL.u rfl rfl (Wt.plain rfl) (Ex.move rfl) ?_
    refine WL.u rfl rfl (Wt.plain rfl) (Ex.move rfl) ?_
    refine WL.u rfl rfl (Wt.plain rfl) (Ex.indexStr Try.underlying9 rfl rfl (by omega)) ?_
    refine WL.u rfl rfl (Wt.plain rfl) (Ex.eql rfl rfl) ?_
    refine WL.next ?_
    refine WC.cond rfl (fun hc8 => ?_) (fun hc8 => ?_)
    · have h124 : s.getD e75 0 = 124 := ubT 124 (by decide) hc8
      refine WC.seq ?_
      refine WC.region ?_
      refine WL.u rfl rfl (Wt.plain rfl) (Ex.fieldAddr fd56_2 rfl) ?_
      replace hH := hH.f3
      refine WL.u rfl rfl (Wt.plain rfl) (Ex.loadHp flat3 rfl hH rfl) ?_
      refine WL.u rfl rfl (Wt.plain rfl) (Ex.fieldAddr fd56_2 rfl) ?_
      replace hH := hH.f3
      refine WL.u rfl rfl (Wt.plain rfl) (Ex.loadHp flat3 rfl hH rfl) ?_
      refine WL.u rfl rfl (Wt.plain rfl) ((Ex.add rfl rfl (by show I64 ((m75 : Int) + (m103 : Int)); omega)).to (show _ = vint ((m75 + m103 : Nat) : Int) by simp)) ?_
      refine WL.u rfl rfl (Wt.plain rfl) (Ex.fieldAddr fd56_2 rfl) ?_
      replace hH := hH.f2
      refine WL.store1 ty3 rfl rfl rfl (Wt.plain rfl) hH (by first | decide | simp) rfl (fun wn hk hH => ?_)
      replace hV := hV.shr hk (by intro x hx; rw [List.mem_singleton.1 hx]; omega)
      refine WL.next ?_
      refine WC.seq ?_
      refine WC.region ?_
      refine WL.u rfl rfl (Wt.plain rfl) (Ex.fieldAddr fd56_1 rfl) ?_
      replace hH := hH.f2
      refine WL.u rfl rfl (Wt.plain rfl) (Ex.loadHp flat3 rfl hH rfl) ?_
      refine WL.u rfl rfl (Wt.plain rfl) (Ex.fieldAddr fd56_1 rfl) ?_
      replace hH := hH.f2
      refine WL.u rfl rfl (Wt.plain rfl) (Ex.loadHp flat3 rfl hH rfl) ?_
      refine WL.u rfl rfl (Wt.plain rfl) (Ex.neq rfl rfl) ?_
      refine WL.u rfl rfl (Wt.plain rfl) (Ex.move rfl) ?_
      refine WL.split (t := 147) rfl (fun hg25_5 => ?_) (fun hg25_5 => ?_)
      · have hg25_5' := hg25_5; try simp only [decide_eq_true_eq, decide_eq_false_iff_not, Bool.not_eq_true', Bool.not_eq_false', Bool.not_eq_true, Bool.not_eq_false] at hg25_5'
        have hrn : rdV s (f + 1) p = none := by rw [rdV_bin4 hp h40 hr1 hqB hr2 hqC, if_neg]; rw [if_pos h124]; intro h; have h := of_decide_eq_true h; omega
        refine WL.pass rfl rfl (Wt.guard' rfl rfl rfl hg25_5 rfl) ?_
        refine WL.pass rfl rfl (Wt.guard' rfl rfl rfl hg25_5 rfl) ?_
        refine WL.pass rfl rfl (Wt.guard' rfl rfl rfl hg25_5 rfl) ?_
        refine WL.u rfl rfl (Wt.plain rfl) (Ex.pickT rfl hg25_5 rfl) ?_
        refine WL.next ?_
        refine WC.condT rfl rfl ?_
        refine WC.seq ?_
        refine WC.region ?_
        replace hH := hH.f4
        refine WL.u rfl rfl (Wt.plain rfl) (Ex.loadHp4 Try.underlying56 ty56 rfl hH) ?_
        replace hH := hH.f6
        refine WL.store4 ty56 rfl rfl rfl rfl rfl rfl (Wt.plain rfl) hH (fun wn hk hH => ?_)
        replace hV := hV.trans (hk.mono (by simp))
        refine WL.u rfl rfl (Wt.plain rfl) (Ex.assign rfl) ?_
        refine WL.next ?_
        refine WC.ret ?_
        refine WN.retThen ?_
        refine WN.cell24 rfl rfl rfl Try.underlying56 ty56 hH ?_
        exact ⟨(46, 1, 1, (some ⟨b16, 0, none⟩, 0, 0)), 0, rfl, hH.keep, by rw [hrn]; exact rfl⟩
      have hg25_5' := hg25_5; try simp only [decide_eq_true_eq, decide_eq_false_iff_not, Bool.not_eq_true', Bool.not_eq_false', Bool.not_eq_true, Bool.not_eq_false] at hg25_5'
      refine WL.u rfl rfl (Wt.guard' rfl rfl rfl hg25_5 rfl) (Ex.fieldAddr fd56_2 rfl) ?_
      replace hH := hH.f2
      refine WL.u rfl rfl (Wt.guard' rfl rfl rfl hg25_5 rfl) (Ex.loadHp flat3 rfl hH rfl) ?_
      refine WL.u rfl rfl (Wt.guard' rfl rfl rfl hg25_5 rfl) (Ex.gtr rfl rfl) ?_
      refine WL.u rfl rfl (Wt.plain rfl) (Ex.pickF rfl hg25_5 rfl) ?_
      refine WL.next ?_
      refine WC.cond rfl (fun hc9 => ?_) (fun hc9 => ?_)
      · have hc9' := hc9; try simp only [decide_eq_true_eq, decide_eq_false_iff_not, Bool.not_eq_true', Bool.not_eq_false', Bool.not_eq_true, Bool.not_eq_false] at hc9'
        have hrn : rdV s (f + 1) p = none := by rw [rdV_bin4 hp h40 hr1 hqB hr2 hqC, if_neg]; rw [if_pos h124]; intro h; have h := of_decide_eq_true h; omega
        refine WC.seq ?_
        refine WC.region ?_
        replace hH := hH.f4
        refine WL.u rfl rfl (Wt.plain rfl) (Ex.loadHp4 Try.underlying56 ty56 rfl hH) ?_
        replace hH := hH.f6
        refine WL.store4 ty56 rfl rfl rfl rfl rfl rfl (Wt.plain rfl) hH (fun wn hk hH => ?_)
        replace hV := hV.trans (hk.mono (by simp))
        refine WL.u rfl rfl (Wt.plain rfl) (Ex.assign rfl) ?_
        refine WL.next ?_
        refine WC.ret ?_
        refine WN.retThen ?_
        refine WN.cell24 rfl rfl rfl Try.underlying56 ty56 hH ?_
        exact ⟨(46, 1, 1, (some ⟨b16, 0, none⟩, 0, 0)), 0, rfl, hH.keep, by rw [hrn]; exact rfl⟩
      have hc9' := hc9; try simp only [decide_eq_true_eq, decide_eq_false_iff_not, Bool.not_eq_true', Bool.not_eq_false', Bool.not_eq_true, Bool.not_eq_false] at hc9'
      refine WC.skip ?_
      refine WN.next ?_
      refine WC.seq ?_
      refine WC.region ?_
      refine WL.u rfl rfl (Wt.plain rfl) (Ex.loadHp4 Try.underlying56 ty56 rfl hH) ?_
      refine WL.u rfl rfl (Wt.plain rfl) (Ex.move rfl) ?_
      refine WL.u rfl rfl (Wt.plain rfl) (Ex.add rfl rfl (by omega)) ?_
      replace hH := hH.f6
      refine WL.store4 ty56 rfl rfl rfl rfl rfl rfl (Wt.plain rfl) hH (fun wn hk hH => ?_)
      replace hV := hV.trans (hk.mono (by simp))
      refine WL.u rfl rfl (Wt.plain rfl) (Ex.assign rfl) ?_
      refine WL.next ?_
      refine WC.ret ?_
      refine WN.cell24 rfl rfl rfl Try.underlying56 ty56 hH ?_
      exact ⟨(s.getD e75 0, n75, m75 + m103, (some ⟨b130, 0, none⟩, 2, 2)), e103 + 1, rfl, hH.keep, by
        rw [rdV_bin4 hp h40 hr1 hqB hr2 hqC, if_pos (by rw [if_pos h124]; exact decide_eq_true ⟨by omega, by omega⟩)]
        refine ⟨rfl, by omega, b130, 2, _, _, ?_, hH.base 4 rfl, ho130.slAt hH 4 rfl, TQ.low hw75 (TQ.keep hV (by intro x hx; rw [List.mem_singleton.1 hx]; exact hl75) hT1), TQ.low hw103 (TQ.keep hV (by intro x hx; rw [List.mem_singleton.1 hx]; exact hl103) hT2)⟩
        unfold sz
        rw [if_pos h124]
        simp only [k11, k12, k21, k22]⟩
    have h124 : s.getD e75 0 ≠ 124 := ubF 124 (by decide) hc8
    refine WC.seq ?_
    refine WC.region ?_
    refine WL.u rfl rfl (Wt.plain rfl) (Ex.fieldAddr fd56_1 rfl) ?_
    replace hH := hH.f3
    refine WL.u rfl rfl (Wt.plain rfl) (Ex.loadHp flat3 rfl hH rfl) ?_
    refine WL.u rfl rfl (Wt.plain rfl) (Ex.fieldAddr fd56_1 rfl) ?_
    replace hH := hH.f3
    refine WL.u rfl rfl (Wt.plain rfl) (Ex.loadHp flat3 rfl hH rfl) ?_
    refine WL.u rfl rfl (Wt.plain rfl) ((Ex.add rfl rfl (by show I64 ((n75 : Int) + (n103 : Int)); omega)).to (show _ = vint ((n75 + n103 : Nat) : Int) by simp)) ?_
    refine WL.u rfl rfl (Wt.plain rfl) (Ex.fieldAddr fd56_1 rfl) ?_
    replace hH := hH.f2
    refine WL.store1 ty3 rfl rfl rfl (Wt.plain rfl) hH (by first | decide | simp) rfl (fun wn hk hH => ?_)
    replace hV := hV.shr hk (by intro x hx; rw [List.mem_singleton.1 hx]; omega)
    refine WL.next ?_
    refine WC.seq ?_
    refine WC.region ?_
    refine WL.u rfl rfl (Wt.plain rfl) (Ex.fieldAddr fd56_2 rfl) ?_
    replace hH := hH.f2
    refine WL.u rfl rfl (Wt.plain rfl) (Ex.loadHp flat3 rfl hH rfl) ?_
    refine WL.u rfl rfl (Wt.plain rfl) (Ex.fieldAddr fd56_2 rfl) ?_
    replace hH := hH.f2
    refine WL.u rfl rfl (Wt.plain rfl) (Ex.loadHp flat3 rfl hH rfl) ?_
    refine WL.u rfl rfl (Wt.plain rfl) (Ex.neq rfl rfl) ?_
    refine WL.u rfl rfl (Wt.plain rfl) (Ex.move rfl) ?_
    refine WL.split (t := 164) rfl (fun hg28_5 => ?_) (fun hg28_5 => ?_)
    · have hg28_5' := hg28_5; try simp only [decide_eq_true_eq, decide_eq_false_iff_not, Bool.not_eq_true', Bool.not_eq_false', Bool.not_eq_true, Bool.not_eq_false] at hg28_5'
      have hrn : rdV s (f + 1) p = none := by rw [rdV_bin4 hp h40 hr1 hqB hr2 hqC, if_neg]; rw [if_neg h124]; intro h; have h := of_decide_eq_true h; omega
      refine WL.pass rfl rfl (Wt.guard' rfl rfl rfl hg28_5 rfl) ?_
      refine WL.pass rfl rfl (Wt.guard' rfl rfl rfl hg28_5 rfl) ?_
      refine WL.pass rfl rfl (Wt.guard' rfl rfl rfl hg28_5 rfl) ?_
      refine WL.u rfl rfl (Wt.plain rfl) (Ex.pickT rfl hg28_5 rfl) ?_
      refine WL.next ?_
      refine WC.condT rfl rfl ?_
      refine WC.seq ?_
      refine WC.region ?_
      replace hH := hH.f4
      refine WL.u rfl rfl (Wt.plain rfl) (Ex.loadHp4 Try.underlying56 ty56 rfl hH) ?_
      replace hH := hH.f6
      refine WL.store4 ty56 rfl rfl rfl rfl rfl rfl (Wt.plain rfl) hH (fun wn hk hH => ?_)
      replace hV := hV.trans (hk.mono (by simp))
      refine WL.u rfl rfl (Wt.plain rfl) (Ex.assign rfl) ?_
      refine WL.next ?_
      refine WC.ret ?_
      refine WN.retThen ?_
      refine WN.cell24 rfl rfl rfl Try.underlying56 ty56 hH ?_
      exact ⟨(46, 1, 1, (some ⟨b16, 0, none⟩, 0, 0)), 0, rfl, hH.keep, by rw [hrn]; exact rfl⟩
    have hg28_5' := hg28_5; try simp only [decide_eq_true_eq, decide_eq_false_iff_not, Bool.not_eq_true', Bool.not_eq_false', Bool.not_eq_true, Bool.not_eq_false] at hg28_5'
    refine WL.u rfl rfl (Wt.guard' rfl rfl rfl hg28_5 rfl) (Ex.fieldAddr fd56_1 rfl) ?_
    replace hH := hH.f2
    refine WL.u rfl rfl (Wt.guard' rfl rfl rfl hg28_5 rfl) (Ex.loadHp flat3 rfl hH rfl) ?_
    refine WL.u rfl rfl (Wt.guard' rfl rfl rfl hg28_5 rfl) (Ex.gtr rfl rfl) ?_
    refine WL.u rfl rfl (Wt.plain rfl) (Ex.pickF rfl hg28_5 rfl) ?_
    refine WL.next ?_
    refine WC.cond rfl (fun hc10 => ?_) (fun hc10 => ?_)
    · have hc10' := hc10; try simp only [decide_eq_true_eq, decide_eq_false_iff_not, Bool.not_eq_true', Bool.not_eq_false', Bool.not_eq_true, Bool.not_eq_false] at hc10'
      have hrn : rdV s (f + 1) p = none := by rw [rdV_bin4 hp h40 hr1 hqB hr2 hqC, if_neg]; rw [if_neg h124]; intro h; have h := of_decide_eq_true h; omega
      refine WC.seq ?_
      refine WC.region ?_
      replace hH := hH.f4
      refine WL.u rfl rfl (Wt.plain rfl) (Ex.loadHp4 Try.underlying56 ty56 rfl hH) ?_
      replace hH := hH.f6
      refine WL.store4 ty56 rfl rfl rfl rfl rfl rfl (Wt.plain rfl) hH (fun wn hk hH => ?_)
      replace hV := hV.trans (hk.mono (by simp))
      refine WL.u rfl rfl (Wt.plain rfl) (Ex.assign rfl) ?_
      refine WL.next ?_
      refine WC.ret ?_
      refine WN.retThen ?_
      refine WN.cell24 rfl rfl rfl Try.underlying56 ty56 hH ?_
      exact ⟨(46, 1, 1, (some ⟨b16, 0, none⟩, 0, 0)), 0, rfl, hH.keep, by rw [hrn]; exact rfl⟩
    have hc10' := hc10; try simp only [decide_eq_true_eq, decide_eq_false_iff_not, Bool.not_eq_true', Bool.not_eq_false', Bool.not_eq_true, Bool.not_eq_false] at hc10'
    refine WC.skip ?_
    refine WN.next ?_
    refine WC.seq ?_
    refine WC.region ?_
    refine WL.u rfl rfl (Wt.plain rfl) (Ex.loadHp4 Try.underlying56 ty56 rfl hH) ?_
    refine WL.u rfl rfl (Wt.plain rfl) (Ex.move rfl) ?_
    refine WL.u rfl rfl (Wt.plain rfl) (Ex.add rfl rfl (by omega)) ?_
    replace hH := hH.f6
    refine WL.store4 ty56 rfl rfl rfl rfl rfl rfl (Wt.plain rfl) hH (fun wn hk hH => ?_)
    replace hV := hV.trans (hk.mono (by simp))
    refine WL.u rfl rfl (Wt.plain rfl) (Ex.assign rfl) ?_
    refine WL.next ?_
    refine WC.ret ?_
    refine WN.cell24 rfl rfl rfl Try.underlying56 ty56 hH ?_
    exact ⟨(s.getD e75 0, n75 + n103, m75, (some ⟨b130, 0, none⟩, 2, 2)), e103 + 1, rfl, hH.keep, by
      rw [rdV_bin4 hp h40 hr1 hqB hr2 hqC, if_pos (by rw [if_neg h124]; exact decide_eq_true ⟨by omega, by omega⟩)]
      refine ⟨rfl, by omega, b130, 2, _, _, ?_, hH.base 4 rfl, ho130.slAt hH 4 rfl, TQ.low hw75 (TQ.keep hV (by intro x hx; rw [List.mem_singleton.1 hx]; exact hl75) hT1), TQ.low hw103 (TQ.keep hV (by intro x hx; rw [List.mem_singleton.1 hx]; exact hl103) hT2)⟩
      unfold sz
      rw [if_neg h124]
      simp only [k11, k12, k21, k22]⟩
  have hg17_13' := hg17_13; try simp only [decide_eq_true_eq, decide_eq_false_iff_not, Bool.not_eq_true', Bool.not_eq_false', Bool.not_eq_true, Bool.not_eq_false] at hg17_13'
  have hB : isB (s.getD e75 0) = true := by rw [show s.getD e75 0 = 124 from nbF 124 (by decide) hg17_13]; rfl
  have hqB : ¬ (s.length ≤ e75 ∨ isB (s.getD e75 0) = false) := by rw [hB]; simp; omega
  refine WL.pass rfl rfl (Wt.guard' rfl rfl rfl hg17_13 rfl) ?_
  refine WL.pass rfl rfl (Wt.guard' rfl rfl rfl hg17_13 rfl) ?_
  refine WL.pass rfl rfl (Wt.guard' rfl rfl rfl hg17_13 rfl) ?_
  refine WL.pass rfl rfl (Wt.guard' rfl rfl rfl hg17_13 rfl) ?_
  refine WL.u rfl rfl (Wt.guard' rfl rfl rfl hg17_8 rfl) (Ex.pickF rfl hg17_13 rfl) ?_
  refine WL.u rfl rfl (Wt.plain rfl) (Ex.pickF rfl hg17_8 rfl) ?_
  refine WL.next ?_
  refine WC.condF rfl rfl ?_
  refine WC.skip ?_
  refine WN.next ?_
  refine WC.seq ?_
  refine WC.region ?_
  refine WL.u rfl rfl (Wt.plain rfl) (Ex.move rfl) ?_
  refine WL.u rfl rfl (Wt.plain rfl) (Ex.move rfl) ?_
  refine WL.u rfl rfl (Wt.plain rfl) (Ex.add rfl rfl (by omega)) ?_
  have hl103 := hH.lt 3 rfl
  have hw103 := hH.keep.size
  refine WL.call callable90 rfl (Wt.plain rfl) rfl rfl (ih (e75 + 1) _ (by omega) (by omega)) ?_
  rintro _ wn ⟨q103, e103, rfl, hC, hR103⟩; obtain ⟨c103, n103, m103, a103, l103, k103⟩ := q103; replace hH := hH.call hC; replace hV := hV.trans hC.nil; replace hT1 := TQ.keep hV (by intro x hx; rw [List.mem_singleton.1 hx]; exact hl75) hT1
  have hV := Keep.refl [b4] wn
  refine WL.u rfl rfl (Wt.plain rfl) (Ex.move rfl) ?_
  refine WL.u rfl rfl (Wt.plain rfl) (Ex.extract rfl rfl) ?_
  refine WL.u rfl rfl (Wt.plain rfl) (Ex.extract rfl rfl) ?_
  have hsV13 := hV.size
  refine WL.alloc ty56 rfl rfl (Wt.plain rfl) hH (fun b13 wn hb13 hk13 hH => ?_)
  replace hV := hV.trans (hk13.nil)
  refine WL.store4 ty56 rfl rfl rfl rfl rfl rfl (Wt.plain rfl) hH (fun wn hk hH => ?_)
  replace hV := hV.shr hk (by intro x hx; rw [List.mem_singleton.1 hx]; omega)
  refine WL.u rfl rfl (Wt.plain rfl) (Ex.assign rfl) ?_
  refine WL.next ?_
  refine WC.seq ?_
  refine WC.seq ?_
  refine WC.region ?_
  refine WL.u rfl rfl (Wt.plain rfl) (Ex.move rfl) ?_
  refine WL.u rfl rfl (Wt.plain rfl) (Ex.eql rfl rfl) ?_
  refine WL.u rfl rfl (Wt.plain rfl) (Ex.move rfl) ?_
  refine WL.split (t := 108) rfl (fun hg20_2 => ?_) (fun hg20_2 => ?_)
  · have hg20_2' := hg20_2; try simp only [decide_eq_true_eq, decide_eq_false_iff_not, Bool.not_eq_true', Bool.not_eq_false', Bool.not_eq_true, Bool.not_eq_false] at hg20_2'
    have hrn : rdV s (f + 1) p = none := rdV_bin2 hp h40 hr1 hqB (hR103.none (by omega))
    refine WL.pass rfl rfl (Wt.guard' rfl rfl rfl hg20_2 rfl) ?_
    refine WL.pass rfl rfl (Wt.guard' rfl rfl rfl hg20_2 rfl) ?_
    refine WL.pass rfl rfl (Wt.guard' rfl rfl rfl hg20_2 rfl) ?_
    refine WL.pass rfl rfl (Wt.guard' rfl rfl rfl hg20_2 rfl) ?_
    refine WL.u rfl rfl (Wt.plain rfl) (Ex.pickT rfl hg20_2 rfl) ?_
    refine WL.u rfl rfl (Wt.plain rfl) (Ex.move rfl) ?_
    refine WL.pass rfl rfl (Wt.guard' rfl rfl rfl rfl rfl) ?_
    refine WL.pass rfl rfl (Wt.guard' rfl rfl rfl rfl rfl) ?_
    refine WL.pass rfl rfl (Wt.guard' rfl rfl rfl rfl rfl) ?_
    refine WL.pass rfl rfl (Wt.guard' rfl rfl rfl rfl rfl) ?_
    refine WL.u rfl rfl (Wt.plain rfl) (Ex.pickT rfl rfl rfl) ?_
    refine WL.next ?_
    refine WC.condT rfl rfl ?_
    refine WC.seq ?_
    refine WC.region ?_
    replace hH := hH.f2
    refine WL.u rfl rfl (Wt.plain rfl) (Ex.loadHp4 Try.underlying56 ty56 rfl hH) ?_
    replace hH := hH.f4
    refine WL.store4 ty56 rfl rfl rfl rfl rfl rfl (Wt.plain rfl) hH (fun wn hk hH => ?_)
    replace hV := hV.trans (hk.mono (by simp))
    refine WL.u rfl rfl (Wt.plain rfl) (Ex.assign rfl) ?_
    refine WL.next ?_
    refine WC.ret ?_
    refine WN.retThen ?_
    refine WN.cell24 rfl rfl rfl Try.underlying56 ty56 hH ?_
    exact ⟨(46, 1, 1, (some ⟨b16, 0, none⟩, 0, 0)), 0, rfl, hH.keep, by rw [hrn]; exact rfl⟩
  have hg20_2' := hg20_2; try simp only [decide_eq_true_eq, decide_eq_false_iff_not, Bool.not_eq_true', Bool.not_eq_false', Bool.not_eq_true, Bool.not_eq_false] at hg20_2'
  obtain ⟨t2, hr2, hT2⟩ := hR103.some (by omega)
  obtain ⟨hri2, hv2⟩ := rdV_some hr2
  obtain ⟨hW2, hpe2, hel2⟩ := rdI_ok hri2
  refine WL.u rfl rfl (Wt.guard' rfl rfl rfl hg20_2 rfl) (Ex.move rfl) ?_
  refine WL.u rfl rfl (Wt.guard' rfl rfl rfl hg20_2 rfl) (Ex.move rfl) ?_
  refine WL.u rfl rfl (Wt.guard' rfl rfl rfl hg20_2 rfl) (Ex.lenStr Try.underlying9 rfl) ?_
  refine WL.u rfl rfl (Wt.guard' rfl rfl rfl hg20_2 rfl) (Ex.geq rfl rfl) ?_
  refine WL.u rfl rfl (Wt.plain rfl) (Ex.pickF rfl hg20_2 rfl) ?_
  refine WL.u rfl rfl (Wt.plain rfl) (Ex.move rfl) ?_
  refine WL.split (t := 114) rfl (fun hg20_8 => ?_) (fun hg20_8 => ?_)
  · have hg20_8' := hg20_8; try simp only [decide_eq_true_eq, decide_eq_false_iff_not, Bool.not_eq_true', Bool.not_eq_false', Bool.not_eq_true, Bool.not_eq_false] at hg20_8'
    have hrn : rdV s (f + 1) p = none := rdV_bin3 hp h40 hr1 hqB hr2 (.inl (by omega))
    refine WL.pass rfl rfl (Wt.guard' rfl rfl rfl hg20_8 rfl) ?_
    refine WL.pass rfl rfl (Wt.guard' rfl rfl rfl hg20_8 rfl) ?_
    refine WL.pass rfl rfl (Wt.guard' rfl rfl rfl hg20_8 rfl) ?_
    refine WL.pass rfl rfl (Wt.guard' rfl rfl rfl hg20_8 rfl) ?_
    refine WL.u rfl rfl (Wt.plain rfl) (Ex.pickT rfl hg20_8 rfl) ?_
    refine WL.next ?_
    refine WC.condT rfl rfl ?_
    refine WC.seq ?_
    refine WC.region ?_
    replace hH := hH.f2
    refine WL.u rfl rfl (Wt.plain rfl) (Ex.loadHp4 Try.underlying56 ty56 rfl hH) ?_
    replace hH := hH.f4
    refine WL.store4 ty56 rfl rfl rfl rfl rfl rfl (Wt.plain rfl) hH (fun wn hk hH => ?_)
    replace hV := hV.trans (hk.mono (by simp))
    refine WL.u rfl rfl (Wt.plain rfl) (Ex.assign rfl) ?_
    refine WL.next ?_
    refine WC.ret ?_
    refine WN.retThen ?_
    refine WN.cell24 rfl rfl rfl Try.underlying56 ty56 hH ?_
    exact ⟨(46, 1, 1, (some ⟨b16, 0, none⟩, 0, 0)), 0, rfl, hH.keep, by rw [hrn]; exact rfl⟩
  have hg20_8' := hg20_8; try simp only [decide_eq_true_eq, decide_eq_false_iff_not, Bool.not_eq_true', Bool.not_eq_false', Bool.not_eq_true, Bool.not_eq_false] at hg20_8'
  refine WL.u rfl rfl (Wt.guard' rfl rfl rfl hg20_8 rfl) (Ex.move rfl) ?_
  refine WL.u rfl rfl (Wt.guard' rfl rfl rfl hg20_8 rfl) (Ex.move rfl) ?_
  refine WL.u rfl rfl (Wt.guard' rfl rfl rfl hg20_8 rfl) (Ex.indexStr Try.underlying9 rfl rfl (by omega)) ?_
  refine WL.u rfl rfl (Wt.guard' rfl rfl rfl hg20_8 rfl) (Ex.neq rfl rfl) ?_
  refine WL.u rfl rfl (Wt.plain rfl) (Ex.pickF rfl hg20_8 rfl) ?_
  refine WL.next ?_
  refine WC.cond rfl (fun hc7 => ?_) (fun hc7 => ?_)
  · have hc7' := hc7; try simp only [decide_eq_true_eq, decide_eq_false_iff_not, Bool.not_eq_true', Bool.not_eq_false', Bool.not_eq_true, Bool.not_eq_false] at hc7'
    have hrn : rdV s (f + 1) p = none := rdV_bin3 hp h40 hr1 hqB hr2 (.inr (nbT 41 (by decide) hc7))
    refine WC.seq ?_
    refine WC.region ?_
    replace hH := hH.f2
    refine WL.u rfl rfl (Wt.plain rfl) (Ex.loadHp4 Try.underlying56 ty56 rfl hH) ?_
    replace hH := hH.f4
    refine WL.store4 ty56 rfl rfl rfl rfl rfl rfl (Wt.plain rfl) hH (fun wn hk hH => ?_)
    replace hV := hV.trans (hk.mono (by simp))
    refine WL.u rfl rfl (Wt.plain rfl) (Ex.assign rfl) ?_
    refine WL.next ?_
    refine WC.ret ?_
    refine WN.retThen ?_
    refine WN.cell24 rfl rfl rfl Try.underlying56 ty56 hH ?_
    exact ⟨(46, 1, 1, (some ⟨b16, 0, none⟩, 0, 0)), 0, rfl, hH.keep, by rw [hrn]; exact rfl⟩
  have hc7' := hc7; try simp only [decide_eq_true_eq, decide_eq_false_iff_not, Bool.not_eq_true', Bool.not_eq_false', Bool.not_eq_true, Bool.not_eq_false] at hc7'
  have h41 : s.getD e103 0 = 41 := nbF 41 (by decide) hc7
  have hqC : ¬ (s.length ≤ e103 ∨ s.getD e103 0 ≠ 41) := by rw [h41]; simp; omega
  obtain ⟨hG1, hRR1, hCC1⟩ := gridT_ok hW1 hv1
  obtain ⟨hG2, hRR2, hCC2⟩ := gridT_ok hW2 hv2
  have hz1 := hG1.n5
  have hz2 := hG1.m5
  have hz3 := hG2.n5
  have hz4 := hG2.m5
  dsimp only [nR, nC] at hRR1 hCC1 hRR2 hCC2
  obtain ⟨k11, k12, _⟩ := hT1.size
  obtain ⟨k21, k22, _⟩ := hT2.size
  dsimp only at k11 k12 k21 k22
  have hbb1 : n75 ≤ 5 ∧ m75 ≤ 5 := by rw [k11, k12, ← hRR1, ← hCC1]; exact ⟨hz1, hz2⟩
  have hbb2 : n103 ≤ 5 ∧ m103 ≤ 5 := by rw [k21, k22, ← hRR2, ← hCC2]; exact ⟨hz3, hz4⟩
  refine WC.skip ?_
  refine WN.next ?_
  refine WC.seq ?_
  have hQ := hH
  refine WC.ptree (Keep [] _) (.q 0 (.q 1 (.q 2 (.q 3 (.q 4 (.q 5 (.q 6 (.q 7 (.q 8 (.alt 9 11 (.q 10 (.f 11 (.f 12 .nil))) (.f 9 (.q 10 (.f 12 .nil))))))))))))) rfl (by kernel_rfl) (Keep.drew _ _) (fun hR => ?_)
  replace hH := hH.drew
  replace hV := hV.trans (Keep.drew _ _)
  refine WPt.q rfl rfl rfl (Wt.plain rfl) (fun w hC => Ex.move rfl) ?_
  refine WPt.q rfl rfl rfl (Wt.plain rfl) (fun w hC => Ex.move rfl) ?_
  refine WPt.q rfl rfl rfl (Wt.plain rfl) (fun w hC => Ex.indexStr Try.underlying9 rfl rfl (by omega)) ?_
  refine WPt.q rfl rfl rfl (Wt.plain rfl) (fun w hC => Ex.fieldAddr fd56_1 rfl) ?_
  refine WPt.q rfl rfl rfl (Wt.plain rfl) (fun w hC => Ex.loadK flat3 rfl (hQ.at 1 rfl) hC (by simp) rfl) ?_
  refine WPt.q rfl rfl rfl (Wt.plain rfl) (fun w hC => Ex.fieldAddr fd56_2 rfl) ?_
  refine WPt.q rfl rfl rfl (Wt.plain rfl) (fun w hC => Ex.loadK flat3 rfl (hQ.at 1 rfl) hC (by simp) rfl) ?_
  refine WPt.q rfl rfl rfl (Wt.plain rfl) (fun w hC => Ex.loadK4 Try.underlying56 ty56 rfl (hQ.at 1 rfl) hC (by simp)) ?_
  refine WPt.q rfl rfl rfl (Wt.plain rfl) (fun w hC => Ex.loadK4 Try.underlying56 ty56 rfl (hQ.at 0 rfl) hC (by simp)) ?_
  refine WPt.alt rfl rfl ?_ ?_
  · refine WL.buildSlice (pv := [(0, rQd.val (c75, n75, m75, (a75, l75, k75))), (1, rQd.val (c103, n103, m103, (a103, l103, k103)))]) Try.underlying54 ty56 rfl rfl rfl (fill_q2 (by simp) (c75, n75, m75, (a75, l75, k75)) (c103, n103, m103, (a103, l103, k103))) rfl (Wt.plain rfl) hH (fun b130 wn hb130 hk130 hH => ?_)
    have ho130 := Own.q2 (c75, n75, m75, (a75, l75, k75)) (c103, n103, m103, (a103, l103, k103))
    replace hV := hV.trans hk130.nil
    replace hR := hR.trans hk130.nil
    refine WPt.b hR ?_
    refine WPt.q rfl rfl rfl (Wt.plain rfl) (fun w hC => Ex.buildS bd56 rfl rfl rfl rfl rfl) ?_
    refine WPt.f rfl ?_
    have hsV15 := hV.size
    have hsR15 := hR.size
    refine WL.alloc ty56 rfl rfl (Wt.plain rfl) hH (fun b15 wn hb15 hk15 hH => ?_)
    replace hV := hV.trans (hk15.nil)
    replace hR := hR.trans (hk15.nil)
    refine WPt.b hR ?_
    refine WPt.f rfl ?_
    refine WL.store4 ty56 rfl rfl rfl rfl rfl rfl (Wt.plain rfl) hH (fun wn hk hH => ?_)
    replace hV := hV.shr hk (by intro x hx; rw [List.mem_singleton.1 hx]; omega)
    replace hR := hR.shrink hk (by intro x hx; rw [List.mem_singleton.1 hx]; omega)
    refine WPt.b hR ?_
    refine WPt.nil (fun hC => ?_); clear hC
    refine WN.next ?_
    refine WC.seq ?_
    refine WC.seq ?_
    refine WC.region ?_
    refine WL.u rfl rfl (Wt.plain rfl) (Ex.move rfl) ?_
    refine WL.u rfl rfl (Wt.plain rfl) (Ex.move rfl) ?_
    refine WL.u rfl rfl (Wt.plain rfl) (Ex.indexStr Try.underlying9 rfl rfl (by omega)) ?_
    refine WL.u rfl rfl (Wt.plain rfl) (Ex.eql rfl rfl) ?_
    refine WL.next ?_
    refine WC.cond rfl (fun hc8 => ?_) (fun hc8 => ?_)
    · have h124 : s.getD e75 0 = 124 := ubT 124 (by decide) hc8
      refine WC.seq ?_
      refine WC.region ?_
      refine WL.u rfl rfl (Wt.plain rfl) (Ex.fieldAddr fd56_2 rfl) ?_
      replace hH := hH.f3
      refine WL.u rfl rfl (Wt.plain rfl) (Ex.loadHp flat3 rfl hH rfl) ?_
      refine WL.u rfl rfl (Wt.plain rfl) (Ex.fieldAddr fd56_2 rfl) ?_
      replace hH := hH.f3
      refine WL.u rfl rfl (Wt.plain rfl) (Ex.loadHp flat3 rfl hH rfl) ?_
      refine WL.u rfl rfl (Wt.plain rfl) ((Ex.add rfl rfl (by show I64 ((m75 : Int) + (m103 : Int)); omega)).to (show _ = vint ((m75 + m103 : Nat) : Int) by simp)) ?_
      refine WL.u rfl rfl (Wt.plain rfl) (Ex.fieldAddr fd56_2 rfl) ?_
      replace hH := hH.f2
      refine WL.store1 ty3 rfl rfl rfl (Wt.plain rfl) hH (by first | decide | simp) rfl (fun wn hk hH => ?_)
      replace hV := hV.shr hk (by intro x hx; rw [List.mem_singleton.1 hx]; omega)
      refine WL.next ?_
      refine WC.seq ?_
      refine WC.region ?_
      refine WL.u rfl rfl (Wt.plain rfl) (Ex.fieldAddr fd56_1 rfl) ?_
      replace hH := hH.f2
      refine WL.u rfl rfl (Wt.plain rfl) (Ex.loadHp flat3 rfl hH rfl) ?_
      refine WL.u rfl rfl (Wt.plain rfl) (Ex.fieldAddr fd56_1 rfl) ?_
      replace hH := hH.f2
      refine WL.u rfl rfl (Wt.plain rfl) (Ex.loadHp flat3 rfl hH rfl) ?_
      refine WL.u rfl rfl (Wt.plain rfl) (Ex.neq rfl rfl) ?_
      refine WL.u rfl rfl (Wt.plain rfl) (Ex.move rfl) ?_
      refine WL.split (t := 147) rfl (fun hg25_5 => ?_) (fun hg25_5 => ?_)
      · have hg25_5' := hg25_5; try simp only [decide_eq_true_eq, decide_eq_false_iff_not, Bool.not_eq_true', Bool.not_eq_false', Bool.not_eq_true, Bool.not_eq_false] at hg25_5'
        have hrn : rdV s (f + 1) p = none := by rw [rdV_bin4 hp h40 hr1 hqB hr2 hqC, if_neg]; rw [if_pos h124]; intro h; have h := of_decide_eq_true h; omega
        refine WL.pass rfl rfl (Wt.guard' rfl rfl rfl hg25_5 rfl) ?_
        refine WL.pass rfl rfl (Wt.guard' rfl rfl rfl hg25_5 rfl) ?_
        refine WL.pass rfl rfl (Wt.guard' rfl rfl rfl hg25_5 rfl) ?_
        refine WL.u rfl rfl (Wt.plain rfl) (Ex.pickT rfl hg25_5 rfl) ?_
        refine WL.next ?_
        refine WC.condT rfl rfl ?_
        refine WC.seq ?_
        refine WC.region ?_
        replace hH := hH.f4
        refine WL.u rfl rfl (Wt.plain rfl) (Ex.loadHp4 Try.underlying56 ty56 rfl hH) ?_
        replace hH := hH.f6
        refine WL.store4 ty56 rfl rfl rfl rfl rfl rfl (Wt.plain rfl) hH (fun wn hk hH => ?_)
        replace hV := hV.trans (hk.mono (by simp))
        refine WL.u rfl rfl (Wt.plain rfl) (Ex.assign rfl) ?_
        refine WL.next ?_
        refine WC.ret ?_
        refine WN.retThen ?_
        refine WN.cell24 rfl rfl rfl Try.underlying56 ty56 hH ?_
        exact ⟨(46, 1, 1, (some ⟨b16, 0, none⟩, 0, 0)), 0, rfl, hH.keep, by rw [hrn]; exact rfl⟩
      have hg25_5' := hg25_5; try simp only [decide_eq_true_eq, decide_eq_false_iff_not, Bool.not_eq_true', Bool.not_eq_false', Bool.not_eq_true, Bool.not_eq_false] at hg25_5'
      refine WL.u rfl rfl (Wt.guard' rfl rfl rfl hg25_5 rfl) (Ex.fieldAddr fd56_2 rfl) ?_
      replace hH := hH.f2
      refine WL.u rfl rfl (Wt.guard' rfl rfl rfl hg25_5 rfl) (Ex.loadHp flat3 rfl hH rfl) ?_
      refine WL.u rfl rfl (Wt.guard' rfl rfl rfl hg25_5 rfl) (Ex.gtr rfl rfl) ?_
      refine WL.u rfl rfl (Wt.plain rfl) (Ex.pickF rfl hg25_5 rfl) ?_
      refine WL.next ?_
      refine WC.cond rfl (fun hc9 => ?_) (fun hc9 => ?_)
      · have hc9' := hc9; try simp only [decide_eq_true_eq, decide_eq_false_iff_not, Bool.not_eq_true', Bool.not_eq_false', Bool.not_eq_true, Bool.not_eq_false] at hc9'
        have hrn : rdV s (f + 1) p = none := by rw [rdV_bin4 hp h40 hr1 hqB hr2 hqC, if_neg]; rw [if_pos h124]; intro h; have h := of_decide_eq_true h; omega
        refine WC.seq ?_
        refine WC.region ?_
        replace hH := hH.f4
        refine WL.u rfl rfl (Wt.plain rfl) (Ex.loadHp4 Try.underlying56 ty56 rfl hH) ?_
        replace hH := hH.f6
        refine WL.store4 ty56 rfl rfl rfl rfl rfl rfl (Wt.plain rfl) hH (fun wn hk hH => ?_)
        replace hV := hV.trans (hk.mono (by simp))
        refine WL.u rfl rfl (Wt.plain rfl) (Ex.assign rfl) ?_
        refine WL.next ?_
        refine WC.ret ?_
        refine WN.retThen ?_
        refine WN.cell24 rfl rfl rfl Try.underlying56 ty56 hH ?_
        exact ⟨(46, 1, 1, (some ⟨b16, 0, none⟩, 0, 0)), 0, rfl, hH.keep, by rw [hrn]; exact rfl⟩
      have hc9' := hc9; try simp only [decide_eq_true_eq, decide_eq_false_iff_not, Bool.not_eq_true', Bool.not_eq_false', Bool.not_eq_true, Bool.not_eq_false] at hc9'
      refine WC.skip ?_
      refine WN.next ?_
      refine WC.seq ?_
      refine WC.region ?_
      refine WL.u rfl rfl (Wt.plain rfl) (Ex.loadHp4 Try.underlying56 ty56 rfl hH) ?_
      refine WL.u rfl rfl (Wt.plain rfl) (Ex.move rfl) ?_
      refine WL.u rfl rfl (Wt.plain rfl) (Ex.add rfl rfl (by omega)) ?_
      replace hH := hH.f6
      refine WL.store4 ty56 rfl rfl rfl rfl rfl rfl (Wt.plain rfl) hH (fun wn hk hH => ?_)
      replace hV := hV.trans (hk.mono (by simp))
      refine WL.u rfl rfl (Wt.plain rfl) (Ex.assign rfl) ?_
      refine WL.next ?_
      refine WC.ret ?_
      refine WN.cell24 rfl rfl rfl Try.underlying56 ty56 hH ?_
      exact ⟨(s.getD e75 0, n75, m75 + m103, (some ⟨b130, 0, none⟩, 2, 2)), e103 + 1, rfl, hH.keep, by
        rw [rdV_bin4 hp h40 hr1 hqB hr2 hqC, if_pos (by rw [if_pos h124]; exact decide_eq_true ⟨by omega, by omega⟩)]
        refine ⟨rfl, by omega, b130, 2, _, _, ?_, hH.base 4 rfl, ho130.slAt hH 4 rfl, TQ.low hw75 (TQ.keep hV (by intro x hx; rw [List.mem_singleton.1 hx]; exact hl75) hT1), TQ.low hw103 (TQ.keep hV (by intro x hx; rw [List.mem_singleton.1 hx]; exact hl103) hT2)⟩
        unfold sz
        rw [if_pos h124]
        simp only [k11, k12, k21, k22]⟩
    have h124 : s.getD e75 0 ≠ 124 := ubF 124 (by decide) hc8
    refine WC.seq ?_
    refine WC.region ?_
    refine WL.u rfl rfl (Wt.plain rfl) (Ex.fieldAddr fd56_1 rfl) ?_
    replace hH := hH.f3
    refine WL.u rfl rfl (Wt.plain rfl) (Ex.loadHp flat3 rfl hH rfl) ?_
    refine WL.u rfl rfl (Wt.plain rfl) (Ex.fieldAddr fd56_1 rfl) ?_
    replace hH := hH.f3
    refine WL.u rfl rfl (Wt.plain rfl) (Ex.loadHp flat3 rfl hH rfl) ?_
    refine WL.u rfl rfl (Wt.plain rfl) ((Ex.add rfl rfl (by show I64 ((n75 : Int) + (n103 : Int)); omega)).to (show _ = vint ((n75 + n103 : Nat) : Int) by simp)) ?_
    refine WL.u rfl rfl (Wt.plain rfl) (Ex.fieldAddr fd56_1 rfl) ?_
    replace hH := hH.f2
    refine WL.store1 ty3 rfl rfl rfl (Wt.plain rfl) hH (by first | decide | simp) rfl (fun wn hk hH => ?_)
    replace hV := hV.shr hk (by intro x hx; rw [List.mem_singleton.1 hx]; omega)
    refine WL.next ?_
    refine WC.seq ?_
    refine WC.region ?_
    refine WL.u rfl rfl (Wt.plain rfl) (Ex.fieldAddr fd56_2 rfl) ?_
    replace hH := hH.f2
    refine WL.u rfl rfl (Wt.plain rfl) (Ex.loadHp flat3 rfl hH rfl) ?_
    refine WL.u rfl rfl (Wt.plain rfl) (Ex.fieldAddr fd56_2 rfl) ?_
    replace hH := hH.f2
    refine WL.u rfl rfl (Wt.plain rfl) (Ex.loadHp flat3 rfl hH rfl) ?_
    refine WL.u rfl rfl (Wt.plain rfl) (Ex.neq rfl rfl) ?_
    refine WL.u rfl rfl (Wt.plain rfl) (Ex.move rfl) ?_
    refine WL.split (t := 164) rfl (fun hg28_5 => ?_) (fun hg28_5 => ?_)
    · have hg28_5' := hg28_5; try simp only [decide_eq_true_eq, decide_eq_false_iff_not, Bool.not_eq_true', Bool.not_eq_false', Bool.not_eq_true, Bool.not_eq_false] at hg28_5'
      have hrn : rdV s (f + 1) p = none := by rw [rdV_bin4 hp h40 hr1 hqB hr2 hqC, if_neg]; rw [if_neg h124]; intro h; have h := of_decide_eq_true h; omega
      refine WL.pass rfl rfl (Wt.guard' rfl rfl rfl hg28_5 rfl) ?_
      refine WL.pass rfl rfl (Wt.guard' rfl rfl rfl hg28_5 rfl) ?_
      refine WL.pass rfl rfl (Wt.guard' rfl rfl rfl hg28_5 rfl) ?_
      refine WL.u rfl rfl (Wt.plain rfl) (Ex.pickT rfl hg28_5 rfl) ?_
      refine WL.next ?_
      refine WC.condT rfl rfl ?_
      refine WC.seq ?_
      refine WC.region ?_
      replace hH := hH.f4
      refine WL.u rfl rfl (Wt.plain rfl) (Ex.loadHp4 Try.underlying56 ty56 rfl hH) ?_
      replace hH := hH.f6
      refine WL.store4 ty56 rfl rfl rfl rfl rfl rfl (Wt.plain rfl) hH (fun wn hk hH => ?_)
      replace hV := hV.trans (hk.mono (by simp))
      refine WL.u rfl rfl (Wt.plain rfl) (Ex.assign rfl) ?_
      refine WL.next ?_
      refine WC.ret ?_
      refine WN.retThen ?_
      refine WN.cell24 rfl rfl rfl Try.underlying56 ty56 hH ?_
      exact ⟨(46, 1, 1, (some ⟨b16, 0, none⟩, 0, 0)), 0, rfl, hH.keep, by rw [hrn]; exact rfl⟩
    have hg28_5' := hg28_5; try simp only [decide_eq_true_eq, decide_eq_false_iff_not, Bool.not_eq_true', Bool.not_eq_false', Bool.not_eq_true, Bool.not_eq_false] at hg28_5'
    refine WL.u rfl rfl (Wt.guard' rfl rfl rfl hg28_5 rfl) (Ex.fieldAddr fd56_1 rfl) ?_
    replace hH := hH.f2
    refine WL.u rfl rfl (Wt.guard' rfl rfl rfl hg28_5 rfl) (Ex.loadHp flat3 rfl hH rfl) ?_
    refine WL.u rfl rfl (Wt.guard' rfl rfl rfl hg28_5 rfl) (Ex.gtr rfl rfl) ?_
    refine WL.u rfl rfl (Wt.plain rfl) (Ex.pickF rfl hg28_5 rfl) ?_
    refine WL.next ?_
    refine WC.cond rfl (fun hc10 => ?_) (fun hc10 => ?_)
    · have hc10' := hc10; try simp only [decide_eq_true_eq, decide_eq_false_iff_not, Bool.not_eq_true', Bool.not_eq_false', Bool.not_eq_true, Bool.not_eq_false] at hc10'
      have hrn : rdV s (f + 1) p = none := by rw [rdV_bin4 hp h40 hr1 hqB hr2 hqC, if_neg]; rw [if_neg h124]; intro h; have h := of_decide_eq_true h; omega
      refine WC.seq ?_
      refine WC.region ?_
      replace hH := hH.f4
      refine WL.u rfl rfl (Wt.plain rfl) (Ex.loadHp4 Try.underlying56 ty56 rfl hH) ?_
      replace hH := hH.f6
      refine WL.store4 ty56 rfl rfl rfl rfl rfl rfl (Wt.plain rfl) hH (fun wn hk hH => ?_)
      replace hV := hV.trans (hk.mono (by simp))
      refine WL.u rfl rfl (Wt.plain rfl) (Ex.assign rfl) ?_
      refine WL.next ?_
      refine WC.ret ?_
      refine WN.retThen ?_
      refine WN.cell24 rfl rfl rfl Try.underlying56 ty56 hH ?_
      exact ⟨(46, 1, 1, (some ⟨b16, 0, none⟩, 0, 0)), 0, rfl, hH.keep, by rw [hrn]; exact rfl⟩
    have hc10' := hc10; try simp only [decide_eq_true_eq, decide_eq_false_iff_not, Bool.not_eq_true', Bool.not_eq_false', Bool.not_eq_true, Bool.not_eq_false] at hc10'
    refine WC.skip ?_
    refine WN.next ?_
    refine WC.seq ?_
    refine WC.region ?_
    refine WL.u rfl rfl (Wt.plain rfl) (Ex.loadHp4 Try.underlying56 ty56 rfl hH) ?_
    refine WL.u rfl rfl (Wt.plain rfl) (Ex.move rfl) ?_
    refine WL.u rfl rfl (Wt.plain rfl) (Ex.add rfl rfl (by omega)) ?_
    replace hH := hH.f6
    refine WL.store4 ty56 rfl rfl rfl rfl rfl rfl (Wt.plain rfl) hH (fun wn hk hH => ?_)
    replace hV := hV.trans (hk.mono (by simp))
    refine WL.u rfl rfl (Wt.plain rfl) (Ex.assign rfl) ?_
    refine WL.next ?_
    refine WC.ret ?_
    refine WN.cell24 rfl rfl rfl Try.underlying56 ty56 hH ?_
    exact ⟨(s.getD e75 0, n75 + n103, m75, (some ⟨b130, 0, none⟩, 2, 2)), e103 + 1, rfl, hH.keep, by
      rw [rdV_bin4 hp h40 hr1 hqB hr2 hqC, if_pos (by rw [if_neg h124]; exact decide_eq_true ⟨by omega, by omega⟩)]
      refine ⟨rfl, by omega, b130, 2, _, _, ?_, hH.base 4 rfl, ho130.slAt hH 4 rfl, TQ.low hw75 (TQ.keep hV (by intro x hx; rw [List.mem_singleton.1 hx]; exact hl75) hT1), TQ.low hw103 (TQ.keep hV (by intro x hx; rw [List.mem_singleton.1 hx]; exact hl103) hT2)⟩
      unfold sz
      rw [if_neg h124]
      simp only [k11, k12, k21, k22]⟩
  have hsV15 := hV.size
  have hsR15 := hR.size
  refine WL.alloc ty56 rfl rfl (Wt.plain rfl) hH (fun b15 wn hb15 hk15 hH => ?_)
  replace hV := hV.trans (hk15.nil)
  replace hR := hR.trans (hk15.nil)
  refine WPt.b hR ?_
  refine WPt.f rfl ?_
  refine WL.buildSlice (pv := [(0, rQd.val (c75, n75, m75, (a75, l75, k75))), (1, rQd.val (c103, n103, m103, (a103, l103, k103)))]) Try.underlying54 ty56 rfl rfl rfl (fill_q2 (by simp) (c75, n75, m75, (a75, l75, k75)) (c103, n103, m103, (a103, l103, k103))) rfl (Wt.plain rfl) hH (fun b130 wn hb130 hk130 hH => ?_)
  have ho130 := Own.q2 (c75, n75, m75, (a75, l75, k75)) (c103, n103, m103, (a103, l103, k103))
  replace hV := hV.trans hk130.nil
  replace hR := hR.trans hk130.nil
  refine WPt.b hR ?_
  refine WPt.q rfl rfl rfl (Wt.plain rfl) (fun w hC => Ex.buildS bd56 rfl rfl rfl rfl rfl) ?_
  refine WPt.f rfl ?_
  replace hH := hH.f1
  refine WL.store4 ty56 rfl rfl rfl rfl rfl rfl (Wt.plain rfl) hH (fun wn hk hH => ?_)
  replace hV := hV.shr hk (by intro x hx; rw [List.mem_singleton.1 hx]; omega)
  replace hR := hR.shrink hk (by intro x hx; rw [List.mem_singleton.1 hx]; omega)
  refine WPt.b hR ?_
  refine WPt.nil (fun hC => ?_); clear hC
  refine WN.next ?_
  refine WC.seq ?_
  refine WC.seq ?_
  refine WC.region ?_
  refine WL.u rfl rfl (Wt.plain rfl) (Ex.move rfl) ?_
  refine WL.u rfl rfl (Wt.plain rfl) (Ex.move rfl) ?_
  refine WL.u rfl rfl (Wt.plain rfl) (Ex.indexStr Try.underlying9 rfl rfl (by omega)) ?_
  refine WL.u rfl rfl (Wt.plain rfl) (Ex.eql rfl rfl) ?_
  refine WL.next ?_
  refine WC.cond rfl (fun hc8 => ?_) (fun hc8 => ?_)
  · have h124 : s.getD e75 0 = 124 := ubT 124 (by decide) hc8
    refine WC.seq ?_
    refine WC.region ?_
    refine WL.u rfl rfl (Wt.plain rfl) (Ex.fieldAddr fd56_2 rfl) ?_
    replace hH := hH.f3
    refine WL.u rfl rfl (Wt.plain rfl) (Ex.loadHp flat3 rfl hH rfl) ?_
    refine WL.u rfl rfl (Wt.plain rfl) (Ex.fieldAddr fd56_2 rfl) ?_
    replace hH := hH.f3
    refine WL.u rfl rfl (Wt.plain rfl) (Ex.loadHp flat3 rfl hH rfl) ?_
    refine WL.u rfl rfl (Wt.plain rfl) ((Ex.add rfl rfl (by show I64 ((m75 : Int) + (m103 : Int)); omega)).to (show _ = vint ((m75 + m103 : Nat) : Int) by simp)) ?_
    refine WL.u rfl rfl (Wt.plain rfl) (Ex.fieldAddr fd56_2 rfl) ?_
    replace hH := hH.f2
    refine WL.store1 ty3 rfl rfl rfl (Wt.plain rfl) hH (by first | decide | simp) rfl (fun wn hk hH => ?_)
    replace hV := hV.shr hk (by intro x hx; rw [List.mem_singleton.1 hx]; omega)
    refine WL.next ?_
    refine WC.seq ?_
    refine WC.region ?_
    refine WL.u rfl rfl (Wt.plain rfl) (Ex.fieldAddr fd56_1 rfl) ?_
    replace hH := hH.f2
    refine WL.u rfl rfl (Wt.plain rfl) (Ex.loadHp flat3 rfl hH rfl) ?_
    refine WL.u rfl rfl (Wt.plain rfl) (Ex.fieldAddr fd56_1 rfl) ?_
    replace hH := hH.f2
    refine WL.u rfl rfl (Wt.plain rfl) (Ex.loadHp flat3 rfl hH rfl) ?_
    refine WL.u rfl rfl (Wt.plain rfl) (Ex.neq rfl rfl) ?_
    refine WL.u rfl rfl (Wt.plain rfl) (Ex.move rfl) ?_
    refine WL.split (t := 147) rfl (fun hg25_5 => ?_) (fun hg25_5 => ?_)
    · have hg25_5' := hg25_5; try simp only [decide_eq_true_eq, decide_eq_false_iff_not, Bool.not_eq_true', Bool.not_eq_false', Bool.not_eq_true, Bool.not_eq_false] at hg25_5'
      have hrn : rdV s (f + 1) p = none := by rw [rdV_bin4 hp h40 hr1 hqB hr2 hqC, if_neg]; rw [if_pos h124]; intro h; have h := of_decide_eq_true h; omega
      refine WL.pass rfl rfl (Wt.guard' rfl rfl rfl hg25_5 rfl) ?_
      refine WL.pass rfl rfl (Wt.guard' rfl rfl rfl hg25_5 rfl) ?_
      refine WL.pass rfl rfl (Wt.guard' rfl rfl rfl hg25_5 rfl) ?_
      refine WL.u rfl rfl (Wt.plain rfl) (Ex.pickT rfl hg25_5 rfl) ?_
      refine WL.next ?_
      refine WC.condT rfl rfl ?_
      refine WC.seq ?_
      refine WC.region ?_
      replace hH := hH.f4
      refine WL.u rfl rfl (Wt.plain rfl) (Ex.loadHp4 Try.underlying56 ty56 rfl hH) ?_
      replace hH := hH.f6
      refine WL.store4 ty56 rfl rfl rfl rfl rfl rfl (Wt.plain rfl) hH (fun wn hk hH => ?_)
      replace hV := hV.trans (hk.mono (by simp))
      refine WL.u rfl rfl (Wt.plain rfl) (Ex.assign rfl) ?_
      refine WL.next ?_
      refine WC.ret ?_
      refine WN.retThen ?_
      refine WN.cell24 rfl rfl rfl Try.underlying56 ty56 hH ?_
      exact ⟨(46, 1, 1, (some ⟨b16, 0, none⟩, 0, 0)), 0, rfl, hH.keep, by rw [hrn]; exact rfl⟩
    have hg25_5' := hg25_5; try simp only [decide_eq_true_eq, decide_eq_false_iff_not, Bool.not_eq_true', Bool.not_eq_false', Bool.not_eq_true, Bool.not_eq_false] at hg25_5'
    refine WL.u rfl rfl (Wt.guard' rfl rfl rfl hg25_5 rfl) (Ex.fieldAddr fd56_2 rfl) ?_
    replace hH := hH.f2
    refine WL.u rfl rfl (Wt.guard' rfl rfl rfl hg25_5 rfl) (Ex.loadHp flat3 rfl hH rfl) ?_
    refine WL.u rfl rfl (Wt.guard' rfl rfl rfl hg25_5 rfl) (Ex.gtr rfl rfl) ?_
    refine WL.u rfl rfl (Wt.plain rfl) (Ex.pickF rfl hg25_5 rfl) ?_
    refine WL.next ?_
    refine WC.cond rfl (fun hc9 => ?_) (fun hc9 => ?_)
    · have hc9' := hc9; try simp only [decide_eq_true_eq, decide_eq_false_iff_not, Bool.not_eq_true', Bool.not_eq_false', Bool.not_eq_true, Bool.not_eq_false] at hc9'
      have hrn : rdV s (f + 1) p = none := by rw [rdV_bin4 hp h40 hr1 hqB hr2 hqC, if_neg]; rw [if_pos h124]; intro h; have h := of_decide_eq_true h; omega
      refine WC.seq ?_
      refine WC.region ?_
      replace hH := hH.f4
      refine WL.u rfl rfl (Wt.plain rfl) (Ex.loadHp4 Try.underlying56 ty56 rfl hH) ?_
      replace hH := hH.f6
      refine WL.store4 ty56 rfl rfl rfl rfl rfl rfl (Wt.plain rfl) hH (fun wn hk hH => ?_)
      replace hV := hV.trans (hk.mono (by simp))
      refine WL.u rfl rfl (Wt.plain rfl) (Ex.assign rfl) ?_
      refine WL.next ?_
      refine WC.ret ?_
      refine WN.retThen ?_
      refine WN.cell24 rfl rfl rfl Try.underlying56 ty56 hH ?_
      exact ⟨(46, 1, 1, (some ⟨b16, 0, none⟩, 0, 0)), 0, rfl, hH.keep, by rw [hrn]; exact rfl⟩
    have hc9' := hc9; try simp only [decide_eq_true_eq, decide_eq_false_iff_not, Bool.not_eq_true', Bool.not_eq_false', Bool.not_eq_true, Bool.not_eq_false] at hc9'
    refine WC.skip ?_
    refine WN.next ?_
    refine WC.seq ?_
    refine WC.region ?_
    refine WL.u rfl rfl (Wt.plain rfl) (Ex.loadHp4 Try.underlying56 ty56 rfl hH) ?_
    refine WL.u rfl rfl (Wt.plain rfl) (Ex.move rfl) ?_
    refine WL.u rfl rfl (Wt.plain rfl) (Ex.add rfl rfl (by omega)) ?_
    replace hH := hH.f6
    refine WL.store4 ty56 rfl rfl rfl rfl rfl rfl (Wt.plain rfl) hH (fun wn hk hH => ?_)
    replace hV := hV.trans (hk.mono (by simp))
    refine WL.u rfl rfl (Wt.plain rfl) (Ex.assign rfl) ?_
    refine WL.next ?_
    refine WC.ret ?_
    refine WN.cell24 rfl rfl rfl Try.underlying56 ty56 hH ?_
    exact ⟨(s.getD e75 0, n75, m75 + m103, (some ⟨b130, 0, none⟩, 2, 2)), e103 + 1, rfl, hH.keep, by
      rw [rdV_bin4 hp h40 hr1 hqB hr2 hqC, if_pos (by rw [if_pos h124]; exact decide_eq_true ⟨by omega, by omega⟩)]
      refine ⟨rfl, by omega, b130, 2, _, _, ?_, hH.base 4 rfl, ho130.slAt hH 4 rfl, TQ.low hw75 (TQ.keep hV (by intro x hx; rw [List.mem_singleton.1 hx]; exact hl75) hT1), TQ.low hw103 (TQ.keep hV (by intro x hx; rw [List.mem_singleton.1 hx]; exact hl103) hT2)⟩
      unfold sz
      rw [if_pos h124]
      simp only [k11, k12, k21, k22]⟩
  have h124 : s.getD e75 0 ≠ 124 := ubF 124 (by decide) hc8
  refine WC.seq ?_
  refine WC.region ?_
  refine WL.u rfl rfl (Wt.plain rfl) (Ex.fieldAddr fd56_1 rfl) ?_
  replace hH := hH.f3
  refine WL.u rfl rfl (Wt.plain rfl) (Ex.loadHp flat3 rfl hH rfl) ?_
  refine WL.u rfl rfl (Wt.plain rfl) (Ex.fieldAddr fd56_1 rfl) ?_
  replace hH := hH.f3
  refine WL.u rfl rfl (Wt.plain rfl) (Ex.loadHp flat3 rfl hH rfl) ?_
  refine WL.u rfl rfl (Wt.plain rfl) ((Ex.add rfl rfl (by show I64 ((n75 : Int) + (n103 : Int)); omega)).to (show _ = vint ((n75 + n103 : Nat) : Int) by simp)) ?_
  refine WL.u rfl rfl (Wt.plain rfl) (Ex.fieldAddr fd56_1 rfl) ?_
  replace hH := hH.f2
  refine WL.store1 ty3 rfl rfl rfl (Wt.plain rfl) hH (by first | decide | simp) rfl (fun wn hk hH => ?_)
  replace hV := hV.shr hk (by intro x hx; rw [List.mem_singleton.1 hx]; omega)
  refine WL.next ?_
  refine WC.seq ?_
  refine WC.region ?_
  refine WL.u rfl rfl (Wt.plain rfl) (Ex.fieldAddr fd56_2 rfl) ?_
  replace hH := hH.f2
  refine WL.u rfl rfl (Wt.plain rfl) (Ex.loadHp flat3 rfl hH rfl) ?_
  refine WL.u rfl rfl (Wt.plain rfl) (Ex.fieldAddr fd56_2 rfl) ?_
  replace hH := hH.f2
  refine WL.u rfl rfl (Wt.plain rfl) (Ex.loadHp flat3 rfl hH rfl) ?_
  refine WL.u rfl rfl (Wt.plain rfl) (Ex.neq rfl rfl) ?_
  refine WL.u rfl rfl (Wt.plain rfl) (Ex.move rfl) ?_
  refine WL.split (t := 164) rfl (fun hg28_5 => ?_) (fun hg28_5 => ?_)
  · have hg28_5' := hg28_5; try simp only [decide_eq_true_eq, decide_eq_false_iff_not, Bool.not_eq_true', Bool.not_eq_false', Bool.not_eq_true, Bool.not_eq_false] at hg28_5'
    have hrn : rdV s (f + 1) p = none := by rw [rdV_bin4 hp h40 hr1 hqB hr2 hqC, if_neg]; rw [if_neg h124]; intro h; have h := of_decide_eq_true h; omega
    refine WL.pass rfl rfl (Wt.guard' rfl rfl rfl hg28_5 rfl) ?_
    refine WL.pass rfl rfl (Wt.guard' rfl rfl rfl hg28_5 rfl) ?_
    refine WL.pass rfl rfl (Wt.guard' rfl rfl rfl hg28_5 rfl) ?_
    refine WL.u rfl rfl (Wt.plain rfl) (Ex.pickT rfl hg28_5 rfl) ?_
    refine WL.next ?_
    refine WC.condT rfl rfl ?_
    refine WC.seq ?_
    refine WC.region ?_
    replace hH := hH.f4
    refine WL.u rfl rfl (Wt.plain rfl) (Ex.loadHp4 Try.underlying56 ty56 rfl hH) ?_
    replace hH := hH.f6
    refine WL.store4 ty56 rfl rfl rfl rfl rfl rfl (Wt.plain rfl) hH (fun wn hk hH => ?_)
    replace hV := hV.trans (hk.mono (by simp))
    refine WL.u rfl rfl (Wt.plain rfl) (Ex.assign rfl) ?_
    refine WL.next ?_
    refine WC.ret ?_
    refine WN.retThen ?_
    refine WN.cell24 rfl rfl rfl Try.underlying56 ty56 hH ?_
    exact ⟨(46, 1, 1, (some ⟨b16, 0, none⟩, 0, 0)), 0, rfl, hH.keep, by rw [hrn]; exact rfl⟩
  have hg28_5' := hg28_5; try simp only [decide_eq_true_eq, decide_eq_false_iff_not, Bool.not_eq_true', Bool.not_eq_false', Bool.not_eq_true, Bool.not_eq_false] at hg28_5'
  refine WL.u rfl rfl (Wt.guard' rfl rfl rfl hg28_5 rfl) (Ex.fieldAddr fd56_1 rfl) ?_
  replace hH := hH.f2
  refine WL.u rfl rfl (Wt.guard' rfl rfl rfl hg28_5 rfl) (Ex.loadHp flat3 rfl hH rfl) ?_
  refine WL.u rfl rfl (Wt.guard' rfl rfl rfl hg28_5 rfl) (Ex.gtr rfl rfl) ?_
  refine WL.u rfl rfl (Wt.plain rfl) (Ex.pickF rfl hg28_5 rfl) ?_
  refine WL.next ?_
  refine WC.cond rfl (fun hc10 => ?_) (fun hc10 => ?_)
  · have hc10' := hc10; try simp only [decide_eq_true_eq, decide_eq_false_iff_not, Bool.not_eq_true', Bool.not_eq_false', Bool.not_eq_true, Bool.not_eq_false] at hc10'
    have hrn : rdV s (f + 1) p = none := by rw [rdV_bin4 hp h40 hr1 hqB hr2 hqC, if_neg]; rw [if_neg h124]; intro h; have h := of_decide_eq_true h; omega
    refine WC.seq ?_
    refine WC.region ?_
    replace hH := hH.f4
    refine WL.u rfl rfl (Wt.plain rfl) (Ex.loadHp4 Try.underlying56 ty56 rfl hH) ?_
    replace hH := hH.f6
    refine WL.store4 ty56 rfl rfl rfl rfl rfl rfl (Wt.plain rfl) hH (fun wn hk hH => ?_)
    replace hV := hV.trans (hk.mono (by simp))
    refine WL.u rfl rfl (Wt.plain rfl) (Ex.assign rfl) ?_
    refine WL.next ?_
    refine WC.ret ?_
    refine WN.retThen ?_
    refine WN.cell24 rfl rfl rfl Try.underlying56 ty56 hH ?_
    exact ⟨(46, 1, 1, (some ⟨b16, 0, none⟩, 0, 0)), 0, rfl, hH.keep, by rw [hrn]; exact rfl⟩
  have hc10' := hc10; try simp only [decide_eq_true_eq, decide_eq_false_iff_not, Bool.not_eq_true', Bool.not_eq_false', Bool.not_eq_true, Bool.not_eq_false] at hc10'
  refine WC.skip ?_
  refine WN.next ?_
  refine WC.seq ?_
  refine WC.region ?_
  refine WL.u rfl rfl (Wt.plain rfl) (Ex.loadHp4 Try.underlying56 ty56 rfl hH) ?_
  refine WL.u rfl rfl (Wt.plain rfl) (Ex.move rfl) ?_
  refine WL.u rfl rfl (Wt.plain rfl) (Ex.add rfl rfl (by omega)) ?_
  replace hH := hH.f6
  refine WL.store4 ty56 rfl rfl rfl rfl rfl rfl (Wt.plain rfl) hH (fun wn hk hH => ?_)
  replace hV := hV.trans (hk.mono (by simp))
  refine WL.u rfl rfl (Wt.plain rfl) (Ex.assign rfl) ?_
  refine WL.next ?_
  refine WC.ret ?_
  refine WN.cell24 rfl rfl rfl Try.underlying56 ty56 hH ?_
  exact ⟨(s.getD e75 0, n75 + n103, m75, (some ⟨b130, 0, none⟩, 2, 2)), e103 + 1, rfl, hH.keep, by
    rw [rdV_bin4 hp h40 hr1 hqB hr2 hqC, if_pos (by rw [if_neg h124]; exact decide_eq_true ⟨by omega, by omega⟩)]
    refine ⟨rfl, by omega, b130, 2, _, _, ?_, hH.base 4 rfl, ho130.slAt hH 4 rfl, TQ.low hw75 (TQ.keep hV (by intro x hx; rw [List.mem_singleton.1 hx]; exact hl75) hT1), TQ.low hw103 (TQ.keep hV (by intro x hx; rw [List.mem_singleton.1 hx]; exact hl103) hT2)⟩
    unfold sz
    rw [if_neg h124]
    simp only [k11, k12, k21, k22]⟩


theorem sl11Read (s : Str) (h60 : s.length ≤ 60) (f : Nat) : ∀ (p : Nat) (w : World), p ≤ s.length → s.length < p + f → Fn Try.prog 90 [vstr s, vint p] w (fun v w1 => ∃ q e, v = .tuple #[rQd.val q, vint (e : Nat)] ∧ Keep [] w w1 ∧ RdQ w.heap.size w1 (rdV s f p) q e) := by
  induction f with
  | zero => intro p w h1 h2; omega
  | succ f ih => exact fun p w h1 h2 => sl11Read1 s f p w ih h60 h1 h2
end Go.Proofs.Ytnilefmlbedfcaa

/- Whole texts, grids of the reference's terms. -/
namespace Go.Proofs.Ytnilefmlbedfcaa
set_option maxRecDepth 100000
set_option linter.unusedSimpArgs false
set_option linter.unusedVariables false
open Go Go.RowKit
theorem Own.bt1 (c : UInt8) : Own rByte #[rByte.val c] 1 [c] := ⟨by simp [show rByte.sz = 1 from rfl], by simp, by decide, by unfold Rw; rw [flat_one rfl]; rfl⟩
theorem termT_rdV {s : Str} (h60 : s.length ≤ 60) : termT s = match rdV s (s.length + 1) 0 with
    | none => none
    | some (t, e) => if e = s.length then some t else none := by
  unfold termT readT rdV
  rw [if_neg (by omega)]
  cases hr : rdI s (s.length + 1) 0 with
  | none => rfl
  | some x =>
    obtain ⟨t, e⟩ := x
    dsimp only
    by_cases he : e = s.length
    · rw [if_pos he]
      dsimp only
      cases valid t <;> simp [he]
    · rw [if_neg he]
      dsimp only
      cases valid t <;> simp [he]
theorem termT_long {s : Str} (h : 60 < s.length) : termT s = none := termT_none (readT_long h)

theorem sl11Of (s : Str) (w : World) (hs : s.length ≤ 1048577) : Fn Try.prog 62 [vstr s] w (fun v w1 => ∃ q, v = .tuple #[rQd.val q, .bool (termT s).isSome] ∧ Keep [] w w1 ∧ ∀ t, termT s = some t → TQ w.heap.size w1 t q) := by
  refine Fn.enter (n := 25) Try.func62 rfl rfl rfl ?_
  show WC _ _ _ _ [(0, vstr s)] _
  have hH := Hp.start [] w
  refine WC.seq ?_
  refine WC.region ?_
  refine WL.alloc ty56 rfl rfl (Wt.plain rfl) hH (fun b2 wn hb2 hk2 hH => ?_)
  refine WL.u rfl rfl (Wt.plain rfl) (Ex.assign rfl) ?_
  refine WL.next ?_
  refine WC.seq ?_
  refine WC.seq ?_
  refine WC.region ?_
  refine WL.u rfl rfl (Wt.plain rfl) (Ex.move rfl) ?_
  refine WL.u rfl rfl (Wt.plain rfl) (Ex.lenStr Try.underlying9 rfl) ?_
  refine WL.u rfl rfl (Wt.plain rfl) (Ex.gtr rfl rfl) ?_
  refine WL.next ?_
  refine WC.cond rfl (fun hc1 => ?_) (fun hc1 => ?_)
  · have hc1' := hc1; try simp only [decide_eq_true_eq, decide_eq_false_iff_not, Bool.not_eq_true', Bool.not_eq_false', Bool.not_eq_true, Bool.not_eq_false] at hc1'
    have hrn : termT s = none := termT_long (by omega)
    refine WC.seq ?_
    refine WC.region ?_
    refine WL.lit0 Try.underlying54 ty56 rfl (Wt.plain rfl) hH (fun b9 wn hb9 hk9 hH => ?_)
    refine WL.u rfl rfl (Wt.plain rfl) (Ex.buildS bd56 rfl rfl rfl rfl rfl) ?_
    replace hH := hH.f1
    refine WL.store4 ty56 rfl rfl rfl rfl rfl rfl (Wt.plain rfl) hH (fun wn hk hH => ?_)
    refine WL.u rfl rfl (Wt.plain rfl) (Ex.assign rfl) ?_
    refine WL.next ?_
    refine WC.ret ?_
    refine WN.retThen ?_
    refine WN.cell24 rfl rfl rfl Try.underlying56 ty56 hH ?_
    exact ⟨(46, 1, 1, (some ⟨b9, 0, none⟩, 0, 0)), by rw [hrn]; rfl, hH.keep, fun t h => by rw [hrn] at h; cases h⟩
  have hc1' := hc1; try simp only [decide_eq_true_eq, decide_eq_false_iff_not, Bool.not_eq_true', Bool.not_eq_false', Bool.not_eq_true, Bool.not_eq_false] at hc1'
  have h60 : s.length ≤ 60 := by omega
  have hrt := termT_rdV h60
  refine WC.skip ?_
  refine WN.next ?_
  refine WC.seq ?_
  refine WC.region ?_
  refine WL.u rfl rfl (Wt.plain rfl) (Ex.move rfl) ?_
  have hl13 := hH.lt 0 rfl
  have hw13 := hH.keep.size
  refine WL.call callable90 rfl (Wt.plain rfl) rfl rfl (sl11Read s h60 (s.length + 1) 0 _ (by omega) (by omega)) ?_
  rintro _ wn ⟨q13, e13, rfl, hC, hR13⟩; obtain ⟨c13, n13, m13, a13, l13, k13⟩ := q13; replace hH := hH.call hC
  have hV := Keep.refl [b2] wn
  refine WL.u rfl rfl (Wt.plain rfl) (Ex.move rfl) ?_
  refine WL.u rfl rfl (Wt.plain rfl) (Ex.extract rfl rfl) ?_
  refine WL.u rfl rfl (Wt.plain rfl) (Ex.extract rfl rfl) ?_
  have hsV4 := hV.size
  refine WL.alloc ty56 rfl rfl (Wt.plain rfl) hH (fun b4 wn hb4 hk4 hH => ?_)
  replace hV := hV.trans (hk4.nil)
  refine WL.store4 ty56 rfl rfl rfl rfl rfl rfl (Wt.plain rfl) hH (fun wn hk hH => ?_)
  replace hV := hV.shr hk (by intro x hx; rw [List.mem_singleton.1 hx]; omega)
  refine WL.u rfl rfl (Wt.plain rfl) (Ex.assign rfl) ?_
  refine WL.next ?_
  refine WC.seq ?_
  refine WC.region ?_
  refine WL.u rfl rfl (Wt.plain rfl) (Ex.loadHp4 Try.underlying56 ty56 rfl hH) ?_
  refine WL.u rfl rfl (Wt.plain rfl) (Ex.move rfl) ?_
  refine WL.u rfl rfl (Wt.plain rfl) (Ex.gtr rfl rfl) ?_
  refine WL.u rfl rfl (Wt.plain rfl) (Ex.move rfl) ?_
  refine WL.split (t := 19) rfl (fun hg4_3 => ?_) (fun hg4_3 => ?_)
  · have hg4_3' := hg4_3; try simp only [decide_eq_true_eq, decide_eq_false_iff_not, Bool.not_eq_true', Bool.not_eq_false', Bool.not_eq_true, Bool.not_eq_false] at hg4_3'
    obtain ⟨t1, hr1, hT1⟩ := hR13.some (by omega)
    rw [hr1] at hrt
    dsimp only at hrt
    refine WL.u rfl rfl (Wt.guard' rfl rfl rfl hg4_3 rfl) (Ex.move rfl) ?_
    refine WL.u rfl rfl (Wt.guard' rfl rfl rfl hg4_3 rfl) (Ex.move rfl) ?_
    refine WL.u rfl rfl (Wt.guard' rfl rfl rfl hg4_3 rfl) (Ex.lenStr Try.underlying9 rfl) ?_
    refine WL.u rfl rfl (Wt.guard' rfl rfl rfl hg4_3 rfl) (Ex.eql rfl rfl) ?_
    refine WL.u rfl rfl (Wt.plain rfl) (Ex.pickT rfl hg4_3 rfl) ?_
    replace hH := hH.f1
    refine WL.store4 ty56 rfl rfl rfl rfl rfl rfl (Wt.plain rfl) hH (fun wn hk hH => ?_)
    replace hV := hV.trans (hk.mono (by simp))
    refine WL.u rfl rfl (Wt.plain rfl) (Ex.assign rfl) ?_
    refine WL.next ?_
    refine WC.ret ?_
    refine WN.cell24 rfl rfl rfl Try.underlying56 ty56 hH ?_
    refine ⟨(c13, n13, m13, (a13, l13, k13)), ?_, hH.keep, fun t h => ?_⟩
    · rw [hrt]
      by_cases he : e13 = s.length
      · rw [if_pos he, decide_eq_true (show (e13 : Int) = (s.length : Int) by omega)]; rfl
      · rw [if_neg he, decide_eq_false (show ¬ (e13 : Int) = (s.length : Int) by omega)]; rfl
    · rw [hrt] at h
      split at h
      · cases h; exact TQ.low hw13 (TQ.keep hV (by intro x hx; rw [List.mem_singleton.1 hx]; exact hl13) hT1)
      · cases h
  have hg4_3' := hg4_3; try simp only [decide_eq_true_eq, decide_eq_false_iff_not, Bool.not_eq_true', Bool.not_eq_false', Bool.not_eq_true, Bool.not_eq_false] at hg4_3'
  have hr1 := hR13.none (by omega)
  rw [hr1] at hrt
  dsimp only at hrt
  refine WL.pass rfl rfl (Wt.guard' rfl rfl rfl hg4_3 rfl) ?_
  refine WL.pass rfl rfl (Wt.guard' rfl rfl rfl hg4_3 rfl) ?_
  refine WL.pass rfl rfl (Wt.guard' rfl rfl rfl hg4_3 rfl) ?_
  refine WL.pass rfl rfl (Wt.guard' rfl rfl rfl hg4_3 rfl) ?_
  refine WL.u rfl rfl (Wt.plain rfl) (Ex.pickF rfl hg4_3 rfl) ?_
  replace hH := hH.f1
  refine WL.store4 ty56 rfl rfl rfl rfl rfl rfl (Wt.plain rfl) hH (fun wn hk hH => ?_)
  replace hV := hV.trans (hk.mono (by simp))
  refine WL.u rfl rfl (Wt.plain rfl) (Ex.assign rfl) ?_
  refine WL.next ?_
  refine WC.ret ?_
  refine WN.cell24 rfl rfl rfl Try.underlying56 ty56 hH ?_
  exact ⟨(c13, n13, m13, (a13, l13, k13)), by rw [hrt]; rfl, hH.keep, fun t h => by rw [hrt] at h; cases h⟩

theorem sTermIn (s : Str) (w : World) (hs : s.length ≤ 1048577) : Fn Try.prog 24 [vstr s] w (fun v w1 => v = .bool (termIn s) ∧ Keep [] w w1) := by
  refine Fn.enter (n := 11) Try.func24 rfl rfl rfl ?_
  show WC _ _ _ _ [(0, vstr s)] _
  have hH := Hp.start [] w
  refine WC.seq ?_
  refine WC.region ?_
  refine WL.u rfl rfl (Wt.plain rfl) (Ex.assign rfl) ?_
  refine WL.next ?_
  refine WC.seq ?_
  refine WC.region ?_
  refine WL.u rfl rfl (Wt.plain rfl) (Ex.move rfl) ?_
  refine WL.call callable62 rfl (Wt.plain rfl) rfl rfl (sl11Of _ _ (by omega)) ?_
  have hsK := hH.keep.size; rintro _ wn ⟨q7, rfl, hC, hT7⟩; obtain ⟨c7, n7, m7, a7, l7, k7⟩ := q7; replace hH := hH.call hC
  refine WL.u rfl rfl (Wt.plain rfl) (Ex.move rfl) ?_
  refine WL.u rfl rfl (Wt.plain rfl) (Ex.extract rfl rfl) ?_
  refine WL.u rfl rfl (Wt.plain rfl) (Ex.extract rfl rfl) ?_
  refine WL.alloc ty56 rfl rfl (Wt.plain rfl) hH (fun b3 wn hb3 hk3 hH => ?_)
  refine WL.store4 ty56 rfl rfl rfl rfl rfl rfl (Wt.plain rfl) hH (fun wn hk hH => ?_)
  refine WL.u rfl rfl (Wt.plain rfl) (Ex.assign rfl) ?_
  refine WL.next ?_
  refine WC.seq ?_
  refine WC.region ?_
  refine WL.u rfl rfl (Wt.plain rfl) (Ex.move rfl) ?_
  refine WL.u rfl rfl (Wt.plain rfl) (Ex.assign rfl) ?_
  refine WL.next ?_
  refine WC.ret ?_
  refine WN.body1 rfl rfl ?_
  exact ⟨rfl, hH.keep⟩

theorem sTermSize (s : Str) (w : World) (hs : s.length ≤ 1048577) : Fn Try.prog 26 [vstr s] w (fun v w1 => v = .tuple #[vint (termSize s).1.1, vint (termSize s).1.2, .bool (termSize s).2] ∧ Keep [] w w1) := by
  refine Fn.enter (n := 18) Try.func26 rfl rfl rfl ?_
  show WC _ _ _ _ [(0, vstr s)] _
  have hH := Hp.start [] w
  refine WC.seq ?_
  refine WC.region ?_
  refine WL.u rfl rfl (Wt.plain rfl) (Ex.assign rfl) ?_
  refine WL.u rfl rfl (Wt.plain rfl) (Ex.assign rfl) ?_
  refine WL.u rfl rfl (Wt.plain rfl) (Ex.assign rfl) ?_
  refine WL.next ?_
  refine WC.seq ?_
  refine WC.region ?_
  refine WL.u rfl rfl (Wt.plain rfl) (Ex.move rfl) ?_
  refine WL.call callable62 rfl (Wt.plain rfl) rfl rfl (sl11Of _ _ (by omega)) ?_
  have hsK := hH.keep.size; rintro _ wn ⟨q9, rfl, hC, hT9⟩; obtain ⟨c9, n9, m9, a9, l9, k9⟩ := q9; replace hH := hH.call hC
  refine WL.u rfl rfl (Wt.plain rfl) (Ex.move rfl) ?_
  refine WL.u rfl rfl (Wt.plain rfl) (Ex.extract rfl rfl) ?_
  refine WL.u rfl rfl (Wt.plain rfl) (Ex.extract rfl rfl) ?_
  refine WL.alloc ty56 rfl rfl (Wt.plain rfl) hH (fun b5 wn hb5 hk5 hH => ?_)
  refine WL.store4 ty56 rfl rfl rfl rfl rfl rfl (Wt.plain rfl) hH (fun wn hk hH => ?_)
  refine WL.u rfl rfl (Wt.plain rfl) (Ex.assign rfl) ?_
  refine WL.next ?_
  refine WC.seq ?_
  refine WC.seq ?_
  refine WC.region ?_
  refine WL.u rfl rfl (Wt.plain rfl) (Ex.move rfl) ?_
  refine WL.u rfl rfl (Wt.plain rfl) (Ex.not rfl) ?_
  refine WL.next ?_
  refine WC.cond rfl (fun hc1 => ?_) (fun hc1 => ?_)
  · have htn : termT s = none := by simpa using hc1
    refine WC.seq ?_
    refine WC.region ?_
    refine WL.u rfl rfl (Wt.plain rfl) (Ex.assign rfl) ?_
    refine WL.u rfl rfl (Wt.plain rfl) (Ex.assign rfl) ?_
    refine WL.u rfl rfl (Wt.plain rfl) (Ex.assign rfl) ?_
    refine WL.next ?_
    refine WC.ret ?_
    refine WN.retThen ?_
    refine WN.body3 rfl rfl rfl rfl ?_
    have e := termSize_not htn
    exact ⟨by rw [e] <;> rfl, hH.keep⟩
  have hts : (termT s).isSome = true := by simpa using hc1
  obtain ⟨t, ht⟩ := Option.isSome_iff_exists.1 hts
  obtain ⟨hk1, hk2, _⟩ := (hT9 t ht).size
  dsimp only at hk1 hk2
  subst hk1 hk2
  refine WC.skip ?_
  refine WN.next ?_
  refine WC.seq ?_
  refine WC.quietK rfl (by kernel_rfl) ?_
  refine WQ.u rfl rfl (Wt.plain rfl) (fun w hC => Ex.fieldAddr fd56_1 rfl) ?_
  refine WQ.u rfl rfl (Wt.plain rfl) (fun w hC => Ex.loadHp flat3 rfl (hH.call hC) rfl) ?_
  refine WQ.u rfl rfl (Wt.plain rfl) (fun w hC => Ex.fieldAddr fd56_2 rfl) ?_
  refine WQ.u rfl rfl (Wt.plain rfl) (fun w hC => Ex.loadHp flat3 rfl (hH.call hC) rfl) ?_
  refine WQ.u rfl rfl (Wt.plain rfl) (fun w hC => Ex.assign rfl) ?_
  refine WQ.u rfl rfl (Wt.plain rfl) (fun w hC => Ex.assign rfl) ?_
  refine WQ.u rfl rfl (Wt.plain rfl) (fun w hC => Ex.assign rfl) ?_
  refine WQ.nil ?_
  intro wn hC; replace hH := hH.call hC; clear hC
  refine WN.next ?_
  refine WC.ret ?_
  refine WN.body3 rfl rfl rfl rfl ?_
  have e := termSize_at ht
  exact ⟨by rw [e] <;> rfl, hH.keep⟩

theorem sl1None  (w : World) : Fn Try.prog 70 [] w (fun v w1 => ∃ x, v = .tuple #[x, .bool false] ∧ Keep [] w w1 ∧ New rStr 9 w w1 x []) := by
  refine Fn.enter (n := 3) Try.func70 rfl rfl rfl ?_
  show WC _ _ _ _ [] _
  have hH := Hp.start [] w
  refine WC.seq ?_
  refine WC.region ?_
  refine WL.u rfl rfl (Wt.plain rfl) (Ex.assign rfl) ?_
  refine WL.u rfl rfl (Wt.plain rfl) (Ex.assign rfl) ?_
  refine WL.next ?_
  refine WC.seq ?_
  refine WC.region ?_
  refine WL.lit0 Try.underlying22 ty9 rfl (Wt.plain rfl) hH (fun b2 wn hb2 hk2 hH => ?_)
  have ho2 := Own.nil rStr
  refine WL.u rfl rfl (Wt.plain rfl) (Ex.assign rfl) ?_
  refine WL.u rfl rfl (Wt.plain rfl) (Ex.assign rfl) ?_
  refine WL.next ?_
  refine WC.ret ?_
  refine WN.body2 rfl rfl rfl ?_
  exact ⟨_, rfl, hH.keep, New.of hH ho2 (hH.base 0 rfl)⟩

theorem sgridLeaf (c : UInt8) (h : Hd) (w : World) (hc : okL c = true) : Fn Try.prog 71 [.agg #[.int .u8 c.toNat, vint 1, vint 1, .slice h.1 h.2.1 h.2.2]] w (fun v w1 => Keep [] w w1 ∧ New rStr 9 w w1 v (gridT (.leaf c))) := by
  refine Fn.enter (n := 68) Try.func71 rfl rfl rfl ?_
  show WC _ _ _ _ [(0, .agg #[.int .u8 c.toNat, vint 1, vint 1, .slice h.1 h.2.1 h.2.2])] _
  have hH := Hp.start [] w
  have hne : ∀ k : UInt8, okL k = false → c ≠ k := fun k hk e => by rw [← e, hc] at hk; cases hk
  refine WC.seq ?_
  refine WC.region ?_
  refine WL.box rfl rfl rfl (Wt.plain rfl) hH (fun b1 wn hb1 hk1 hH => ?_)
  refine WL.u rfl rfl (Wt.plain rfl) (Ex.assign rfl) ?_
  refine WL.next ?_
  refine WC.seq ?_
  refine WC.seq ?_
  refine WC.region ?_
  refine WL.u rfl rfl (Wt.plain rfl) (Ex.fieldAddr fd56_0 rfl) ?_
  refine WL.u rfl rfl (Wt.plain rfl) (Ex.loadHp flat5 rfl hH rfl) ?_
  refine WL.next ?_
  refine WC.block ?_
  refine WC.seq ?_
  refine WC.region ?_
  refine WL.u rfl rfl (Wt.plain rfl) (Ex.eql rfl rfl) ?_
  refine WL.u rfl rfl (Wt.plain rfl) (Ex.assign rfl) ?_
  refine WL.next ?_
  refine WC.condF rfl (decide_eq_false (fun h => hne 62 (by decide) ((u8eq c 62 (by decide)).1 h))) ?_
  refine WC.seq ?_
  refine WC.region ?_
  refine WL.u rfl rfl (Wt.plain rfl) (Ex.eql rfl rfl) ?_
  refine WL.u rfl rfl (Wt.plain rfl) (Ex.assign rfl) ?_
  refine WL.next ?_
  refine WC.condF rfl (decide_eq_false (fun h => hne 94 (by decide) ((u8eq c 94 (by decide)).1 h))) ?_
  refine WC.seq ?_
  refine WC.region ?_
  refine WL.u rfl rfl (Wt.plain rfl) (Ex.eql rfl rfl) ?_
  refine WL.u rfl rfl (Wt.plain rfl) (Ex.assign rfl) ?_
  refine WL.next ?_
  refine WC.condF rfl (decide_eq_false (fun h => hne 42 (by decide) ((u8eq c 42 (by decide)).1 h))) ?_
  refine WC.seq ?_
  refine WC.region ?_
  refine WL.u rfl rfl (Wt.plain rfl) (Ex.eql rfl rfl) ?_
  refine WL.u rfl rfl (Wt.plain rfl) (Ex.assign rfl) ?_
  refine WL.next ?_
  refine WC.condF rfl (decide_eq_false (fun h => hne 124 (by decide) ((u8eq c 124 (by decide)).1 h))) ?_
  refine WC.seq ?_
  refine WC.region ?_
  refine WL.u rfl rfl (Wt.plain rfl) (Ex.eql rfl rfl) ?_
  refine WL.u rfl rfl (Wt.plain rfl) (Ex.assign rfl) ?_
  refine WL.next ?_
  refine WC.condF rfl (decide_eq_false (fun h => hne 45 (by decide) ((u8eq c 45 (by decide)).1 h))) ?_
  refine WC.skip ?_
  refine WN.normalBlock ?_
  refine WN.next ?_
  refine WC.seq ?_
  refine WC.region ?_
  refine WL.u rfl rfl (Wt.plain rfl) (Ex.fieldAddr fd56_0 rfl) ?_
  refine WL.u rfl rfl (Wt.plain rfl) (Ex.loadHp flat5 rfl hH rfl) ?_
  refine WL.lit Try.underlying32 ty5 rfl rfl rfl rfl rfl rfl rfl (Wt.plain rfl) hH (fun b65 wn hb65 hk65 hH => ?_)
  have ho65 := Own.bt1 c
  refine WL.u rfl rfl (Wt.plain rfl) (Ex.bytesStr Try.underlying32 Try.underlying5 Try.underlying9 rfl (ho65.slAt hH 0 rfl)) ?_
  refine WL.lit Try.underlying22 ty9 rfl rfl rfl rfl rfl rfl rfl (Wt.plain rfl) hH (fun b67 wn hb67 hk67 hH => ?_)
  have ho67 := Own.str1 [c]
  refine WL.u rfl rfl (Wt.plain rfl) (Ex.assign rfl) ?_
  refine WL.next ?_
  refine WC.ret ?_
  refine WN.body1 rfl rfl ?_
  exact ⟨hH.keep, New.of hH ho67 (hH.base 0 rfl)⟩

theorem sgridUna (lo b cap nn mm : Nat) (s : UInt8) (a : Tm) (qa : Qd) (w : World) (iha : ∀ (w2 : World) (q : Qd), TQ lo w2 a q → Fn Try.prog 71 [rQd.val q] w2 (fun v w3 => Keep [] w2 w3 ∧ New rStr 9 w2 w3 v (gridT a))) (hU : isU s = true) (hWa : Wf a) (hva : valid a = true) (hs : Sl rQd w (some ⟨b, 0, none⟩) [qa]) (hTa : TQ lo w a qa) : Fn Try.prog 71 [.agg #[.int .u8 s.toNat, vint nn, vint mm, .slice (some ⟨b, 0, none⟩) 1 cap]] w (fun v w1 => Keep [] w w1 ∧ New rStr 9 w w1 v (gridT (.una s a))) := by
  refine Fn.enter (n := 68) Try.func71 rfl rfl rfl ?_
  show WC _ _ _ _ [(0, .agg #[.int .u8 s.toNat, vint nn, vint mm, .slice (some ⟨b, 0, none⟩) 1 cap])] _
  have hH := Hp.start [] w
  obtain ⟨hGa, hRa, hCa⟩ := gridT_ok hWa hva
  refine WC.seq ?_
  refine WC.region ?_
  refine WL.box rfl rfl rfl (Wt.plain rfl) hH (fun b1 wn hb1 hk1 hH => ?_)
  refine WL.u rfl rfl (Wt.plain rfl) (Ex.assign rfl) ?_
  refine WL.next ?_
  refine WC.seq ?_
  refine WC.seq ?_
  refine WC.region ?_
  refine WL.u rfl rfl (Wt.plain rfl) (Ex.fieldAddr fd56_0 rfl) ?_
  refine WL.u rfl rfl (Wt.plain rfl) (Ex.loadHp flat5 rfl hH rfl) ?_
  refine WL.next ?_
  refine WC.block ?_
  refine WC.seq ?_
  refine WC.region ?_
  refine WL.u rfl rfl (Wt.plain rfl) (Ex.eql rfl rfl) ?_
  refine WL.u rfl rfl (Wt.plain rfl) (Ex.assign rfl) ?_
  refine WL.next ?_
  refine WC.cond rfl (fun hc1 => ?_) (fun hc1 => ?_)
  · have he : s = 62 := ubT 62 (by decide) hc1
    refine WC.seq ?_
    refine WC.region ?_
    refine WL.u rfl rfl (Wt.plain rfl) (Ex.fieldAddr fd56_3 rfl) ?_
    refine WL.u rfl rfl (Wt.plain rfl) (Ex.loadHp flat54 rfl hH rfl) ?_
    refine WL.u rfl rfl (Wt.plain rfl) (Ex.indexAddr Try.underlying54 ty56 rfl rfl (by omega)) ?_
    refine WL.u rfl rfl (Wt.plain rfl) (Ex.loadSlS Try.underlying56 ty56 (hs.kept hH.keep) rfl (rfl) rfl) ?_
    refine WL.call callable71 rfl (Wt.plain rfl) rfl rfl (iha _ qa (hTa.kept hH.keep)) ?_
    rintro _ wn ⟨hC, hN⟩; obtain ⟨b13, cap13, cur13, rfl, hge13, hbb13, ho13⟩ := hN.own; replace hH := hH.push hC hge13 hbb13; clear hC hN
    refine WL.call callable96 rfl (Wt.plain rfl) rfl rfl (sl1Turn (gridT a) _ _ _ (ho13.slAt hH 0 rfl) hGa) ?_
    rintro _ wn ⟨hC, hN⟩; obtain ⟨b14, cap14, cur14, rfl, hge14, hbb14, ho14⟩ := hN.own; replace hH := hH.push hC hge14 hbb14; clear hC hN
    refine WL.u rfl rfl (Wt.plain rfl) (Ex.assign rfl) ?_
    refine WL.next ?_
    refine WC.ret ?_
    refine WN.retBlock ?_
    refine WN.retThen ?_
    refine WN.body1 rfl rfl ?_
    exact ⟨hH.keep, by rw [show gridT (.una s a) = _ from by rw [gridT, if_pos he]]; exact New.of hH ho14 (hH.base 0 rfl)⟩
  have hs1 : s ≠ 62 := ubF 62 (by decide) hc1
  refine WC.seq ?_
  refine WC.region ?_
  refine WL.u rfl rfl (Wt.plain rfl) (Ex.eql rfl rfl) ?_
  refine WL.u rfl rfl (Wt.plain rfl) (Ex.assign rfl) ?_
  refine WL.next ?_
  refine WC.cond rfl (fun hc2 => ?_) (fun hc2 => ?_)
  · have he : s = 94 := ubT 94 (by decide) hc2
    refine WC.seq ?_
    refine WC.region ?_
    refine WL.u rfl rfl (Wt.plain rfl) (Ex.fieldAddr fd56_3 rfl) ?_
    refine WL.u rfl rfl (Wt.plain rfl) (Ex.loadHp flat54 rfl hH rfl) ?_
    refine WL.u rfl rfl (Wt.plain rfl) (Ex.indexAddr Try.underlying54 ty56 rfl rfl (by omega)) ?_
    refine WL.u rfl rfl (Wt.plain rfl) (Ex.loadSlS Try.underlying56 ty56 (hs.kept hH.keep) rfl (rfl) rfl) ?_
    refine WL.call callable71 rfl (Wt.plain rfl) rfl rfl (iha _ qa (hTa.kept hH.keep)) ?_
    rintro _ wn ⟨hC, hN⟩; obtain ⟨b21, cap21, cur21, rfl, hge21, hbb21, ho21⟩ := hN.own; replace hH := hH.push hC hge21 hbb21; clear hC hN
    refine WL.call callable97 rfl (Wt.plain rfl) rfl rfl (sl1Flip (gridT a) _ _ _ (ho21.slAt hH 0 rfl) hGa) ?_
    rintro _ wn ⟨hC, hN⟩; obtain ⟨b22, cap22, cur22, rfl, hge22, hbb22, ho22⟩ := hN.own; replace hH := hH.push hC hge22 hbb22; clear hC hN
    refine WL.u rfl rfl (Wt.plain rfl) (Ex.assign rfl) ?_
    refine WL.next ?_
    refine WC.ret ?_
    refine WN.retBlock ?_
    refine WN.retThen ?_
    refine WN.body1 rfl rfl ?_
    exact ⟨hH.keep, by rw [show gridT (.una s a) = _ from by rw [gridT, if_neg hs1, if_pos he]]; exact New.of hH ho22 (hH.base 0 rfl)⟩
  have hs2 : s ≠ 94 := ubF 94 (by decide) hc2
  refine WC.seq ?_
  refine WC.region ?_
  refine WL.u rfl rfl (Wt.plain rfl) (Ex.eql rfl rfl) ?_
  refine WL.u rfl rfl (Wt.plain rfl) (Ex.assign rfl) ?_
  refine WL.next ?_
  refine WC.cond rfl (fun hc3 => ?_) (fun hc3 => ?_)
  · have he : s = 42 := ubT 42 (by decide) hc3
    refine WC.seq ?_
    refine WC.region ?_
    refine WL.u rfl rfl (Wt.plain rfl) (Ex.fieldAddr fd56_3 rfl) ?_
    refine WL.u rfl rfl (Wt.plain rfl) (Ex.loadHp flat54 rfl hH rfl) ?_
    refine WL.u rfl rfl (Wt.plain rfl) (Ex.indexAddr Try.underlying54 ty56 rfl rfl (by omega)) ?_
    refine WL.u rfl rfl (Wt.plain rfl) (Ex.loadSlS Try.underlying56 ty56 (hs.kept hH.keep) rfl (rfl) rfl) ?_
    refine WL.call callable71 rfl (Wt.plain rfl) rfl rfl (iha _ qa (hTa.kept hH.keep)) ?_
    rintro _ wn ⟨hC, hN⟩; obtain ⟨b30, cap30, cur30, rfl, hge30, hbb30, ho30⟩ := hN.own; replace hH := hH.push hC hge30 hbb30; clear hC hN
    refine WL.call callable98 rfl (Wt.plain rfl) rfl rfl (sGridOther (gridT a) _ _ _ (ho30.slAt hH 0 rfl) hGa) ?_
    rintro _ wn ⟨_, rfl, hC, hN⟩; obtain ⟨b31, cap31, cur31, rfl, hge31, hbb31, ho31⟩ := hN.own; replace hH := hH.push hC hge31 hbb31; clear hC hN
    refine WL.u rfl rfl (Wt.plain rfl) (Ex.move rfl) ?_
    refine WL.u rfl rfl (Wt.plain rfl) (Ex.extract rfl rfl) ?_
    refine WL.u rfl rfl (Wt.plain rfl) (Ex.extract rfl rfl) ?_
    refine WL.u rfl rfl (Wt.plain rfl) (Ex.assign rfl) ?_
    refine WL.u rfl rfl (Wt.plain rfl) (Ex.assign rfl) ?_
    refine WL.next ?_
    refine WC.seq ?_
    refine WC.region ?_
    refine WL.u rfl rfl (Wt.plain rfl) (Ex.move rfl) ?_
    refine WL.u rfl rfl (Wt.plain rfl) (Ex.assign rfl) ?_
    refine WL.next ?_
    refine WC.ret ?_
    refine WN.retBlock ?_
    refine WN.retThen ?_
    refine WN.body1 rfl rfl ?_
    exact ⟨hH.keep, by rw [show gridT (.una s a) = _ from by rw [gridT, if_neg hs1, if_neg hs2]]; exact New.of hH ho31 (hH.base 0 rfl)⟩
  exfalso
  have hs3 : s ≠ 42 := ubF 42 (by decide) hc3
  rcases isU_lt hU with h | h | h
  · exact hs1 h
  · exact hs2 h
  · exact hs3 h

set_option maxHeartbeats 1000000 in
theorem sgridBin (lo b cap nn mm : Nat) (s : UInt8) (a c : Tm) (qa qc : Qd) (w : World) (iha : ∀ (w2 : World) (q : Qd), TQ lo w2 a q → Fn Try.prog 71 [rQd.val q] w2 (fun v w3 => Keep [] w2 w3 ∧ New rStr 9 w2 w3 v (gridT a))) (ihc : ∀ (w2 : World) (q : Qd), TQ lo w2 c q → Fn Try.prog 71 [rQd.val q] w2 (fun v w3 => Keep [] w2 w3 ∧ New rStr 9 w2 w3 v (gridT c))) (hU : isB s = true) (hWa : Wf a) (hWc : Wf c) (hv : valid (.bin s a c) = true) (hs : Sl rQd w (some ⟨b, 0, none⟩) [qa, qc]) (hTa : TQ lo w a qa) (hTc : TQ lo w c qc) : Fn Try.prog 71 [.agg #[.int .u8 s.toNat, vint nn, vint mm, .slice (some ⟨b, 0, none⟩) 2 cap]] w (fun v w1 => Keep [] w w1 ∧ New rStr 9 w w1 v (gridT (.bin s a c))) := by
  refine Fn.enter (n := 68) Try.func71 rfl rfl rfl ?_
  show WC _ _ _ _ [(0, .agg #[.int .u8 s.toNat, vint nn, vint mm, .slice (some ⟨b, 0, none⟩) 2 cap])] _
  have hH := Hp.start [] w
  have hn62 : s ≠ 62 := by rcases isB_or hU with rfl | rfl <;> decide
  have hn94 : s ≠ 94 := by rcases isB_or hU with rfl | rfl <;> decide
  have hn42 : s ≠ 42 := by rcases isB_or hU with rfl | rfl <;> decide
  have hv0 := hv
  rw [valid, Bool.and_eq_true, Bool.and_eq_true] at hv0
  obtain ⟨⟨hva, hvc⟩, hvq⟩ := hv0
  obtain ⟨hGa, hRa, hCa⟩ := gridT_ok hWa hva
  obtain ⟨hGc, hRc, hCc⟩ := gridT_ok hWc hvc
  have hga5 := hGa.n5
  have hgc5 := hGc.n5
  refine WC.seq ?_
  refine WC.region ?_
  refine WL.box rfl rfl rfl (Wt.plain rfl) hH (fun b1 wn hb1 hk1 hH => ?_)
  refine WL.u rfl rfl (Wt.plain rfl) (Ex.assign rfl) ?_
  refine WL.next ?_
  refine WC.seq ?_
  refine WC.seq ?_
  refine WC.region ?_
  refine WL.u rfl rfl (Wt.plain rfl) (Ex.fieldAddr fd56_0 rfl) ?_
  refine WL.u rfl rfl (Wt.plain rfl) (Ex.loadHp flat5 rfl hH rfl) ?_
  refine WL.next ?_
  refine WC.block ?_
  refine WC.seq ?_
  refine WC.region ?_
  refine WL.u rfl rfl (Wt.plain rfl) (Ex.eql rfl rfl) ?_
  refine WL.u rfl rfl (Wt.plain rfl) (Ex.assign rfl) ?_
  refine WL.next ?_
  refine WC.condF rfl (decide_eq_false (fun h => hn62 ((u8eq s 62 (by decide)).1 h))) ?_
  refine WC.seq ?_
  refine WC.region ?_
  refine WL.u rfl rfl (Wt.plain rfl) (Ex.eql rfl rfl) ?_
  refine WL.u rfl rfl (Wt.plain rfl) (Ex.assign rfl) ?_
  refine WL.next ?_
  refine WC.condF rfl (decide_eq_false (fun h => hn94 ((u8eq s 94 (by decide)).1 h))) ?_
  refine WC.seq ?_
  refine WC.region ?_
  refine WL.u rfl rfl (Wt.plain rfl) (Ex.eql rfl rfl) ?_
  refine WL.u rfl rfl (Wt.plain rfl) (Ex.assign rfl) ?_
  refine WL.next ?_
  refine WC.condF rfl (decide_eq_false (fun h => hn42 ((u8eq s 42 (by decide)).1 h))) ?_
  refine WC.seq ?_
  refine WC.region ?_
  refine WL.u rfl rfl (Wt.plain rfl) (Ex.eql rfl rfl) ?_
  refine WL.u rfl rfl (Wt.plain rfl) (Ex.assign rfl) ?_
  refine WL.next ?_
  refine WC.cond rfl (fun hc4 => ?_) (fun hc4 => ?_)
  · have he : s = 124 := ubT 124 (by decide) hc4
    rw [if_pos he] at hvq
    have hvq := of_decide_eq_true hvq
    have hll : (gridT a).length = (gridT c).length := by have e1 := hvq.1; rw [← hRa, ← hRc] at e1; exact e1
    refine WC.seq ?_
    have hQ := hH
    refine WC.plan (Keep [] _) [(0, true), (1, true), (2, true), (3, true), (5, true), (6, true), (7, true), (8, true), (4, false), (9, false), (10, false), (11, true)] rfl (by kernel_rfl) (Keep.drew _ _) (fun hR => ?_)
    replace hH := hH.drew
    refine WPl.q rfl rfl rfl (Wt.plain rfl) (fun w hC => Ex.fieldAddr fd56_3 rfl) ?_
    refine WPl.q rfl rfl rfl (Wt.plain rfl) (fun w hC => Ex.loadK flat54 rfl (hQ.at 0 rfl) hC (by simp) rfl) ?_
    refine WPl.q rfl rfl rfl (Wt.plain rfl) (fun w hC => Ex.indexAddr Try.underlying54 ty56 rfl rfl (by omega)) ?_
    refine WPl.q rfl rfl rfl (Wt.plain rfl) (fun w hC => Ex.loadSlS Try.underlying56 ty56 ((hs.kept hQ.keep).kept hC) rfl (rfl) rfl) ?_
    refine WPl.q rfl rfl rfl (Wt.plain rfl) (fun w hC => Ex.fieldAddr fd56_3 rfl) ?_
    refine WPl.q rfl rfl rfl (Wt.plain rfl) (fun w hC => Ex.loadK flat54 rfl (hQ.at 0 rfl) hC (by simp) rfl) ?_
    refine WPl.q rfl rfl rfl (Wt.plain rfl) (fun w hC => Ex.indexAddr Try.underlying54 ty56 rfl rfl (by omega)) ?_
    refine WPl.q rfl rfl rfl (Wt.plain rfl) (fun w hC => Ex.loadSlS Try.underlying56 ty56 ((hs.kept hQ.keep).kept hC) rfl (rfl) rfl) ?_
    refine WPl.f rfl ?_
    refine WL.call callable71 rfl (Wt.plain rfl) rfl rfl (iha _ qa (hTa.kept hH.keep)) ?_
    rintro _ wn ⟨hC, hN⟩; obtain ⟨b41, cap41, cur41, rfl, hge41, hbb41, ho41⟩ := hN.own; replace hH := hH.push hC hge41 hbb41; replace hR := hR.trans hC.nil; clear hC hN
    refine WPl.b hR ?_
    refine WPl.f rfl ?_
    refine WL.call callable71 rfl (Wt.plain rfl) rfl rfl (ihc _ qc (hTc.kept hH.keep)) ?_
    rintro _ wn ⟨hC, hN⟩; obtain ⟨b46, cap46, cur46, rfl, hge46, hbb46, ho46⟩ := hN.own; replace hH := hH.push hC hge46 hbb46; replace hR := hR.trans hC.nil; clear hC hN
    refine WPl.b hR ?_
    refine WPl.f rfl ?_
    refine WL.call callable99 rfl (Wt.plain rfl) rfl rfl (sl1Beside (gridT a) (gridT c) _ _ _ _ _ (ho41.slAt hH 1 rfl) (ho46.slAt hH 0 rfl) hGa hGc hll) ?_
    rintro _ wn ⟨hC, hN⟩; obtain ⟨b47, cap47, cur47, rfl, hge47, hbb47, ho47⟩ := hN.own; replace hH := hH.push hC hge47 hbb47; replace hR := hR.trans hC.nil; clear hC hN
    refine WPl.b hR ?_
    refine WPl.q rfl rfl rfl (Wt.plain rfl) (fun w hC => Ex.assign rfl) ?_
    refine WPl.nil (fun hC => ?_); clear hC
    refine WN.next ?_
    refine WC.ret ?_
    refine WN.retBlock ?_
    refine WN.retThen ?_
    refine WN.body1 rfl rfl ?_
    exact ⟨hH.keep, by rw [show gridT (.bin s a c) = _ from by rw [gridT, if_pos he]]; exact New.of hH ho47 (hH.base 0 rfl)⟩
  have he : s ≠ 124 := ubF 124 (by decide) hc4
  refine WC.seq ?_
  refine WC.region ?_
  refine WL.u rfl rfl (Wt.plain rfl) (Ex.eql rfl rfl) ?_
  refine WL.u rfl rfl (Wt.plain rfl) (Ex.assign rfl) ?_
  refine WL.next ?_
  refine WC.cond rfl (fun hc5 => ?_) (fun hc5 => ?_)
  · have hc5' := hc5; try simp only [decide_eq_true_eq, decide_eq_false_iff_not, Bool.not_eq_true', Bool.not_eq_false', Bool.not_eq_true, Bool.not_eq_false] at hc5'
    refine WC.seq ?_
    have hQ := hH
    refine WC.ptree (Keep [] _) (.q 1 (.q 2 (.q 3 (.q 4 (.q 7 (.q 8 (.q 9 (.q 10 (.alt 0 5 (.f 5 (.f 6 (.f 11 (.f 12 (.q 13 .nil))))) (.f 0 (.f 6 (.f 11 (.f 12 (.q 13 .nil)))))))))))))) rfl (by kernel_rfl) (Keep.drew _ _) (fun hR => ?_)
    replace hH := hH.drew
    refine WPt.q rfl rfl rfl (Wt.plain rfl) (fun w hC => Ex.fieldAddr fd56_3 rfl) ?_
    refine WPt.q rfl rfl rfl (Wt.plain rfl) (fun w hC => Ex.loadK flat54 rfl (hQ.at 0 rfl) hC (by simp) rfl) ?_
    refine WPt.q rfl rfl rfl (Wt.plain rfl) (fun w hC => Ex.indexAddr Try.underlying54 ty56 rfl rfl (by omega)) ?_
    refine WPt.q rfl rfl rfl (Wt.plain rfl) (fun w hC => Ex.loadSlS Try.underlying56 ty56 ((hs.kept hQ.keep).kept hC) rfl (rfl) rfl) ?_
    refine WPt.q rfl rfl rfl (Wt.plain rfl) (fun w hC => Ex.fieldAddr fd56_3 rfl) ?_
    refine WPt.q rfl rfl rfl (Wt.plain rfl) (fun w hC => Ex.loadK flat54 rfl (hQ.at 0 rfl) hC (by simp) rfl) ?_
    refine WPt.q rfl rfl rfl (Wt.plain rfl) (fun w hC => Ex.indexAddr Try.underlying54 ty56 rfl rfl (by omega)) ?_
    refine WPt.q rfl rfl rfl (Wt.plain rfl) (fun w hC => Ex.loadSlS Try.underlying56 ty56 ((hs.kept hQ.keep).kept hC) rfl (rfl) rfl) ?_
    refine WPt.alt rfl rfl ?_ ?_
    · have hsR50 := hR.size
      refine WL.lit0 Try.underlying22 ty9 rfl (Wt.plain rfl) hH (fun b50 wn hb50 hk50 hH => ?_)
      replace hR := hR.trans (hk50.nil)
      have ho50 := Own.nil rStr
      refine WPt.b hR ?_
      refine WPt.f rfl ?_
      refine WL.call callable71 rfl (Wt.plain rfl) rfl rfl (iha _ qa (hTa.kept hH.keep)) ?_
      rintro _ wn ⟨hC, hN⟩; obtain ⟨b55, cap55, cur55, rfl, hge55, hbb55, ho55⟩ := hN.own; replace hH := hH.push hC hge55 hbb55; replace hR := hR.trans hC.nil; clear hC hN
      refine WPt.b hR ?_
      refine WPt.f rfl ?_
      replace hH := hH.f1
      have hsR56 := hR.size
      refine WL.appendS (r := rStr) (m := gridT a) Try.underlying22 ty9 rfl rfl rfl ((ho55.slAt hH 1 rfl)) rfl (Wt.plain rfl) hH ho50 (by simp only [List.length_nil]; omega) (by simp only [List.length_nil]; omega) (fun b50 cap50 cur50 wn x50 hk50 hH ho50 => ?_)
      replace hR := hR.shrink hk50 (by intro x hx; rw [List.mem_singleton.1 hx]; omega)
      refine WPt.b hR ?_
      refine WPt.f rfl ?_
      refine WL.call callable71 rfl (Wt.plain rfl) rfl rfl (ihc _ qc (hTc.kept hH.keep)) ?_
      rintro _ wn ⟨hC, hN⟩; obtain ⟨b61, cap61, cur61, rfl, hge61, hbb61, ho61⟩ := hN.own; replace hH := hH.push hC hge61 hbb61; replace hR := hR.trans hC.nil; clear hC hN
      refine WPt.b hR ?_
      refine WPt.f rfl ?_
      replace hH := hH.f1
      have hsR62 := hR.size
      refine WL.appendS (r := rStr) (m := gridT c) Try.underlying22 ty9 rfl rfl rfl ((ho61.slAt hH 1 rfl)) rfl (Wt.plain rfl) hH ho50 (by simp only [List.length_append, List.length_nil]; omega) (by simp only [List.length_append, List.length_nil]; omega) (fun b50 cap50 cur50 wn x50 hk50 hH ho50 => ?_)
      replace hR := hR.shrink hk50 (by intro x hx; rw [List.mem_singleton.1 hx]; omega)
      refine WPt.b hR ?_
      refine WPt.q rfl rfl rfl (Wt.plain rfl) (fun w hC => Ex.assign rfl) ?_
      refine WPt.nil (fun hC => ?_); clear hC
      refine WN.next ?_
      refine WC.ret ?_
      refine WN.retBlock ?_
      refine WN.retThen ?_
      refine WN.body1 rfl rfl ?_
      exact ⟨hH.keep, by rw [show gridT (.bin s a c) = _ from by rw [gridT, if_neg he]]; exact New.of hH ho50 (hH.base 0 rfl)⟩
    refine WL.call callable71 rfl (Wt.plain rfl) rfl rfl (iha _ qa (hTa.kept hH.keep)) ?_
    rintro _ wn ⟨hC, hN⟩; obtain ⟨b55, cap55, cur55, rfl, hge55, hbb55, ho55⟩ := hN.own; replace hH := hH.push hC hge55 hbb55; replace hR := hR.trans hC.nil; clear hC hN
    refine WPt.b hR ?_
    refine WPt.f rfl ?_
    have hsR50 := hR.size
    refine WL.lit0 Try.underlying22 ty9 rfl (Wt.plain rfl) hH (fun b50 wn hb50 hk50 hH => ?_)
    replace hR := hR.trans (hk50.nil)
    have ho50 := Own.nil rStr
    refine WPt.b hR ?_
    refine WPt.f rfl ?_
    have hsR56 := hR.size
    refine WL.appendS (r := rStr) (m := gridT a) Try.underlying22 ty9 rfl rfl rfl ((ho55.slAt hH 1 rfl)) rfl (Wt.plain rfl) hH ho50 (by simp only [List.length_nil]; omega) (by simp only [List.length_nil]; omega) (fun b50 cap50 cur50 wn x50 hk50 hH ho50 => ?_)
    replace hR := hR.shrink hk50 (by intro x hx; rw [List.mem_singleton.1 hx]; omega)
    refine WPt.b hR ?_
    refine WPt.f rfl ?_
    refine WL.call callable71 rfl (Wt.plain rfl) rfl rfl (ihc _ qc (hTc.kept hH.keep)) ?_
    rintro _ wn ⟨hC, hN⟩; obtain ⟨b61, cap61, cur61, rfl, hge61, hbb61, ho61⟩ := hN.own; replace hH := hH.push hC hge61 hbb61; replace hR := hR.trans hC.nil; clear hC hN
    refine WPt.b hR ?_
    refine WPt.f rfl ?_
    replace hH := hH.f1
    have hsR62 := hR.size
    refine WL.appendS (r := rStr) (m := gridT c) Try.underlying22 ty9 rfl rfl rfl ((ho61.slAt hH 1 rfl)) rfl (Wt.plain rfl) hH ho50 (by simp only [List.length_append, List.length_nil]; omega) (by simp only [List.length_append, List.length_nil]; omega) (fun b50 cap50 cur50 wn x50 hk50 hH ho50 => ?_)
    replace hR := hR.shrink hk50 (by intro x hx; rw [List.mem_singleton.1 hx]; omega)
    refine WPt.b hR ?_
    refine WPt.q rfl rfl rfl (Wt.plain rfl) (fun w hC => Ex.assign rfl) ?_
    refine WPt.nil (fun hC => ?_); clear hC
    refine WN.next ?_
    refine WC.ret ?_
    refine WN.retBlock ?_
    refine WN.retThen ?_
    refine WN.body1 rfl rfl ?_
    exact ⟨hH.keep, by rw [show gridT (.bin s a c) = _ from by rw [gridT, if_neg he]]; exact New.of hH ho50 (hH.base 0 rfl)⟩
  exfalso
  have hs3 : s ≠ 45 := ubF 45 (by decide) hc5
  rcases isB_or hU with h | h
  · exact he h
  · exact hs3 h


end Go.Proofs.Ytnilefmlbedfcaa
