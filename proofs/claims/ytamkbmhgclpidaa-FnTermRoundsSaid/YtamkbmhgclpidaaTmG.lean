/- Grids turned, flipped, exchanged, side by side, one under the other. -/
import Derived.Test.YtamkbmhgclpidaaAll
import Derived.Test.YtamkbmhgclpidaaTmA
import Derived.Test.YtamkbmhgclpidaaConv
namespace Go.Proofs.Ytamkbmhgclpidaa
set_option maxRecDepth 100000
set_option linter.unusedSimpArgs false
set_option linter.unusedVariables false
open Go Go.RowKit
theorem gshort {g : Grid} (h : GridOk g) : Short g := fun i => by
  by_cases hi : i < g.length
  · have h1 := h.row i hi
    have h2 := h.m5
    omega
  · have e : g.getD i [] = [] := by simp [List.getD_eq_getElem?_getD, List.getElem?_eq_none (Nat.le_of_not_lt hi)]
    rw [e]; simp
theorem beside_short {g h : Grid} (hg : GridOk g) (hh : GridOk h) : Short (besideG g h) := fun i => by
  by_cases hi : i < nR g
  · rw [besideG_row hi, List.length_append]
    have h2 := hg.row i hi
    have h3 := hg.m5
    by_cases hj : i < nR h
    · have h4 := hh.row i hj
      have h5 := hh.m5
      omega
    · have e : h.getD i [] = [] := by simp [List.getD_eq_getElem?_getD, List.getElem?_eq_none (Nat.le_of_not_lt hj)]
      rw [e, List.length_nil]; omega
  · have e : (besideG g h).getD i [] = [] := by simp [List.getD_eq_getElem?_getD, List.getElem?_eq_none (show (besideG g h).length ≤ i by rw [besideG_len]; exact Nat.le_of_not_lt hi)]
    rw [e]; simp
theorem under_short {g h : Grid} (hg : GridOk g) (hh : GridOk h) : Short (g ++ h) := fun i => by
  rw [under_get]
  split
  · exact gshort hg i
  · exact gshort hh _
theorem Own.str1 (x : Str) : Own rStr #[rStr.val x] 1 [x] := ⟨by simp [show rStr.sz = 1 from rfl], by simp, by decide, by unfold Rw; rw [flat_one rfl]; rfl⟩
theorem beside_in {g h : Grid} (hg : GridOk g) (hh : GridOk h) (hn : nR g = nR h) : gridIn (besideG g h) = decide (nC g + nC h ≤ 5) := by
  rw [Bool.eq_iff_iff, decide_eq_true_eq, gridOk_iff]
  refine ⟨fun h5 => ?_, fun h5 => (besideG_ok hg hh hn h5).1⟩
  have h6 := h5.m5
  rw [besideG_row hg.n1, List.length_append] at h6
  exact h6
theorem under_in {g h : Grid} (hg : GridOk g) (hh : GridOk h) : gridIn (g ++ h) = decide (nC g = nC h ∧ nR g + nR h ≤ 5) := by
  rw [Bool.eq_iff_iff, decide_eq_true_eq, gridOk_iff]
  refine ⟨fun h5 => ?_, fun h5 => (under_ok hg hh h5.1 h5.2).1⟩
  have n1 := hg.n1
  have n2 := hh.n1
  have hl : (g ++ h).length = g.length + h.length := List.length_append
  have h6 := h5.n5
  have h7 := h5.row g.length (by omega)
  rw [under_get, if_neg (by omega), under_get, if_pos (by omega), Nat.sub_self] at h7
  exact ⟨h7.symm, by rw [hl] at h6; exact h6⟩

theorem iTurn1 (g : Grid) (a : Option Addr) (cap i k b2 b3 : Nat) (w : World) (hg : Sl rStr w a g) (hG : GridOk g) (h2 : w.cell? ⟨b2, 0, none⟩ = some (.slice a g.length cap)) (h3 : w.cell? ⟨b3, 0, none⟩ = some (vint (nR g))) (hi : i < nC g) (hk : k < nR g) : Fn Try.prog 60 [vint i, vint k, vptr b2 0, vptr b3 0] w (fun v w1 => v = .int .u8 (exch ((g.getD (nR g - 1 - k) []).getD i 0)).toNat ∧ w1 = w) := by
  refine Fn.enter (n := 17) Try.func60 rfl rfl rfl ?_
  show WC _ _ _ _ [(0, vint i), (1, vint k), (2, vptr b2 0), (3, vptr b3 0)] _
  have hn5 := hG.n5
  have hm5 := hG.m5
  have hn1 := hG.n1
  have hm1 := hG.m1
  obtain ⟨b, off, rfl⟩ := hg.addr (by omega)
  have hrow := hG.row (g.length - 1 - k) (show g.length - 1 - k < g.length by dsimp only [nR] at hk; omega)
  dsimp only [nR, nC] at hi hk h3 ⊢
  refine WC.seq ?_
  refine WC.region ?_
  refine WL.u rfl rfl (Wt.plain rfl) (Ex.assign rfl) ?_
  refine WL.next ?_
  refine WC.seq ?_
  refine WC.region ?_
  refine WL.u rfl rfl (Wt.plain rfl) (Ex.load flat32 rfl h2) ?_
  refine WL.u rfl rfl (Wt.plain rfl) (Ex.load flat3 rfl h3) ?_
  refine WL.u rfl rfl (Wt.plain rfl) ((Ex.sub rfl rfl (by omega)).to (congrArg (Value.int IntKind.i64) (show _ = ((g.length - 1 : Nat) : Int) by omega))) ?_
  refine WL.u rfl rfl (Wt.plain rfl) (Ex.move rfl) ?_
  refine WL.u rfl rfl (Wt.plain rfl) ((Ex.sub rfl rfl (by omega)).to (congrArg (Value.int IntKind.i64) (show _ = ((g.length - 1 - k : Nat) : Int) by omega))) ?_
  refine WL.u rfl rfl (Wt.plain rfl) (Ex.indexAddr Try.underlying32 ty9 rfl rfl (by omega)) ?_
  refine WL.u rfl rfl (Wt.plain rfl) (Ex.loadSl flat9 hg rfl rfl (getD_get g (g.length - 1 - k) [] (by omega))) ?_
  refine WL.u rfl rfl (Wt.plain rfl) (Ex.move rfl) ?_
  refine WL.u rfl rfl (Wt.plain rfl) (Ex.indexStr Try.underlying9 rfl rfl (by omega)) ?_
  refine WL.call callable61 rfl (Wt.plain rfl) rfl rfl (iexchanged _ _) ?_
  rintro _ _ ⟨rfl, hw⟩; obtain rfl := hw.symm
  refine WL.u rfl rfl (Wt.plain rfl) (Ex.assign rfl) ?_
  refine WL.next ?_
  refine WC.ret ?_
  refine WN.body1 rfl rfl ?_
  exact ⟨rfl, rfl⟩

theorem iFlip1 (g : Grid) (a : Option Addr) (cap i k b2 b3 : Nat) (w : World) (hg : Sl rStr w a g) (hG : GridOk g) (h2 : w.cell? ⟨b2, 0, none⟩ = some (.slice a g.length cap)) (h3 : w.cell? ⟨b3, 0, none⟩ = some (vint (nC g))) (hi : i < nR g) (hk : k < nC g) : Fn Try.prog 62 [vint i, vint k, vptr b2 0, vptr b3 0] w (fun v w1 => v = .int .u8 (exch ((g.getD i []).getD (nC g - 1 - k) 0)).toNat ∧ Dr w w1) := by
  refine Fn.enter (n := 17) Try.func62 rfl rfl rfl ?_
  show WC _ _ _ _ [(0, vint i), (1, vint k), (2, vptr b2 0), (3, vptr b3 0)] _
  have hn5 := hG.n5
  have hm5 := hG.m5
  have hn1 := hG.n1
  have hm1 := hG.m1
  obtain ⟨b, off, rfl⟩ := hg.addr (by omega)
  have hrow := hG.row i hi
  dsimp only [nR, nC] at hi hk h3 ⊢
  have hD := Dr.refl w
  refine WC.seq ?_
  refine WC.region ?_
  refine WL.u rfl rfl (Wt.plain rfl) (Ex.assign rfl) ?_
  refine WL.next ?_
  refine WC.seq ?_
  refine WC.quiet rfl (by kernel_rfl) ?_
  refine WQ.u rfl rfl (Wt.plain rfl) (fun w hC => Ex.load flat32 rfl ((hC.keep []).cell h2 (by simp))) ?_
  refine WQ.u rfl rfl (Wt.plain rfl) (fun w hC => Ex.move rfl) ?_
  refine WQ.u rfl rfl (Wt.plain rfl) (fun w hC => Ex.indexAddr Try.underlying32 ty9 rfl rfl (by omega)) ?_
  refine WQ.u rfl rfl (Wt.plain rfl) (fun w hC => Ex.loadSl flat9 (hg.dr (hD.trans hC)) rfl rfl (getD_get g i [] (by omega))) ?_
  refine WQ.u rfl rfl (Wt.plain rfl) (fun w hC => Ex.load flat3 rfl ((hC.keep []).cell h3 (by simp))) ?_
  refine WQ.u rfl rfl (Wt.plain rfl) (fun w hC => (Ex.sub rfl rfl (by omega)).to (congrArg (Value.int IntKind.i64) (show _ = (((g.getD 0 []).length - 1 : Nat) : Int) by omega))) ?_
  refine WQ.u rfl rfl (Wt.plain rfl) (fun w hC => Ex.move rfl) ?_
  refine WQ.u rfl rfl (Wt.plain rfl) (fun w hC => (Ex.sub rfl rfl (by omega)).to (congrArg (Value.int IntKind.i64) (show _ = (((g.getD 0 []).length - 1 - k : Nat) : Int) by omega))) ?_
  refine WQ.u rfl rfl (Wt.plain rfl) (fun w hC => Ex.indexStr Try.underlying9 rfl rfl (by omega)) ?_
  refine WQ.call callable61 rfl (Wt.plain rfl) rfl rfl (fun w hC => Fn.e hC (iexchanged _ _)) ?_
  refine WQ.u rfl rfl (Wt.plain rfl) (fun w hC => Ex.assign rfl) ?_
  refine WQ.nil ?_
  intro wn hC; replace hD := hD.trans hC; clear hC
  refine WN.next ?_
  refine WC.ret ?_
  refine WN.body1 rfl rfl ?_
  exact ⟨rfl, hD⟩

theorem iOther1 (g : Grid) (a : Option Addr) (cap i k b2 b3 : Nat) (w : World) (hg : Sl rStr w a g) (hG : GridOk g) (h2 : w.cell? ⟨b2, 0, none⟩ = some (.slice a g.length cap)) (hi : i < nR g) (hk : k < nC g) : Fn Try.prog 63 [vint i, vint k, vptr b2 0] w (fun v w1 => v = .int .u8 (exch ((g.getD i []).getD k 0)).toNat ∧ w1 = w) := by
  refine Fn.enter (n := 13) Try.func63 rfl rfl rfl ?_
  show WC _ _ _ _ [(0, vint i), (1, vint k), (2, vptr b2 0)] _
  have hn5 := hG.n5
  have hm5 := hG.m5
  have hn1 := hG.n1
  have hm1 := hG.m1
  obtain ⟨b, off, rfl⟩ := hg.addr (by omega)
  have hrow := hG.row i hi
  dsimp only [nR, nC] at hi hk ⊢
  refine WC.seq ?_
  refine WC.region ?_
  refine WL.u rfl rfl (Wt.plain rfl) (Ex.assign rfl) ?_
  refine WL.next ?_
  refine WC.seq ?_
  refine WC.region ?_
  refine WL.u rfl rfl (Wt.plain rfl) (Ex.load flat32 rfl h2) ?_
  refine WL.u rfl rfl (Wt.plain rfl) (Ex.move rfl) ?_
  refine WL.u rfl rfl (Wt.plain rfl) (Ex.indexAddr Try.underlying32 ty9 rfl rfl (by omega)) ?_
  refine WL.u rfl rfl (Wt.plain rfl) (Ex.loadSl flat9 hg rfl rfl (getD_get g i [] (by omega))) ?_
  refine WL.u rfl rfl (Wt.plain rfl) (Ex.move rfl) ?_
  refine WL.u rfl rfl (Wt.plain rfl) (Ex.indexStr Try.underlying9 rfl rfl (by omega)) ?_
  refine WL.call callable61 rfl (Wt.plain rfl) rfl rfl (iexchanged _ _) ?_
  rintro _ _ ⟨rfl, hw⟩; obtain rfl := hw.symm
  refine WL.u rfl rfl (Wt.plain rfl) (Ex.assign rfl) ?_
  refine WL.next ?_
  refine WC.ret ?_
  refine WN.body1 rfl rfl ?_
  exact ⟨rfl, rfl⟩

theorem iGridTurn (g : Grid) (a : Option Addr) (cap : Nat) (w : World) (hg : Sl rStr w a g) (hG : GridOk g) : Fn Try.prog 46 [.slice a g.length cap] w (fun v w1 => ∃ x, v = .tuple #[x, .bool true] ∧ Keep [] w w1 ∧ New rStr 9 w w1 x (turnG g)) := by
  refine Fn.enter (n := 18) Try.func46 rfl rfl rfl ?_
  show WC _ _ _ _ [(0, .slice a g.length cap)] _
  have hH := Hp.start [] w
  have hn1 := hG.n1
  have hn5 := hG.n5
  have hm1 := hG.m1
  have hm5 := hG.m5
  obtain ⟨b, off, rfl⟩ := hg.addr (by omega)
  refine WC.seq ?_
  refine WC.region ?_
  refine WL.box rfl rfl rfl (Wt.plain rfl) hH (fun b1 wn hb1 hk1 hH => ?_)
  refine WL.u rfl rfl (Wt.plain rfl) (Ex.assign rfl) ?_
  refine WL.u rfl rfl (Wt.plain rfl) (Ex.assign rfl) ?_
  refine WL.next ?_
  refine WC.seq ?_
  refine WC.seq ?_
  refine WC.region ?_
  refine WL.u rfl rfl (Wt.plain rfl) (Ex.loadHp flat32 rfl hH rfl) ?_
  refine WL.call callable25 rfl (Wt.plain rfl) rfl rfl (iGridIn g _ _ _ (hg.kept hH.keep) (gshort hG)) ?_
  rintro _ _ ⟨rfl, hw⟩; obtain rfl := hw.symm
  refine WL.u rfl rfl (Wt.plain rfl) (Ex.not rfl) ?_
  refine WL.next ?_
  refine WC.condF rfl (by rw [gridIn_true hG] <;> rfl) ?_
  refine WC.skip ?_
  refine WN.next ?_
  refine WC.seq ?_
  refine WC.region ?_
  refine WL.u rfl rfl (Wt.plain rfl) (Ex.loadHp flat32 rfl hH rfl) ?_
  refine WL.u rfl rfl (Wt.plain rfl) (Ex.lenSl Try.underlying32 rfl) ?_
  refine WL.alloc ty3 rfl rfl (Wt.plain rfl) hH (fun b4 wn hb4 hk4 hH => ?_)
  refine WL.store1 ty3 rfl rfl rfl (Wt.plain rfl) hH (by first | decide | simp) rfl (fun wn hk hH => ?_)
  refine WL.next ?_
  refine WC.seq ?_
  refine WC.tail 6 rfl (by kernel_rfl) ?_
  replace hH := hH.drew
  replace hH := hH.f1
  refine WS.u rfl rfl (Wt.plain rfl) (Ex.loadHp flat32 rfl hH rfl) ?_
  refine WS.u rfl rfl (Wt.plain rfl) (Ex.indexAddr Try.underlying32 ty9 rfl rfl (by omega)) ?_
  refine WS.u rfl rfl (Wt.plain rfl) (Ex.loadSl flat9 (hg.kept hH.keep) rfl rfl (getD_get g 0 [] (by omega))) ?_
  refine WS.u rfl rfl (Wt.plain rfl) (Ex.lenStr Try.underlying9 rfl) ?_
  replace hH := hH.f1
  refine WS.u rfl rfl (Wt.plain rfl) (Ex.loadHp flat3 rfl hH rfl) ?_
  refine WS.u rfl rfl (Wt.plain rfl) (Ex.makeFunc rfl) ?_
  refine WS.nil ?_
  refine WL.call callable59 rfl (Wt.plain rfl) rfl rfl (makeGrid0 (nC g) (nR g) 60 [vptr b1 0, vptr b4 0] _ _ callable60 (by dsimp only [nR, nC]; omega) (by dsimp only [nR, nC]; omega) (fun w2 i k hk hi hk2 => ((iTurn1 g _ cap i k b1 b4 w2 ((hg.kept hH.keep).kept hk) hG (hk.cell (hH.cellAt 1 rfl 0 rfl) (by simp)) (hk.cell (hH.cellAt 0 rfl 0 rfl) (by simp)) hi hk2)).mono (fun v w3 h => ⟨h.1, by rw [h.2]; exact Keep.refl _ _⟩))) ?_
  rintro _ wn ⟨hC, hN⟩; obtain ⟨b17, cap17, cur17, rfl, hge17, hbb17, ho17⟩ := hN.own; replace hH := hH.push hC hge17 hbb17; clear hC hN
  refine WL.u rfl rfl (Wt.plain rfl) (Ex.assign rfl) ?_
  refine WL.u rfl rfl (Wt.plain rfl) (Ex.assign rfl) ?_
  refine WL.next ?_
  refine WC.ret ?_
  refine WN.body2 rfl rfl rfl ?_
  exact ⟨_, rfl, hH.keep, New.of hH ho17 (hH.base 0 rfl)⟩

theorem iGridFlip (g : Grid) (a : Option Addr) (cap : Nat) (w : World) (hg : Sl rStr w a g) (hG : GridOk g) : Fn Try.prog 47 [.slice a g.length cap] w (fun v w1 => ∃ x, v = .tuple #[x, .bool true] ∧ Keep [] w w1 ∧ New rStr 9 w w1 x (flipG g)) := by
  refine Fn.enter (n := 18) Try.func47 rfl rfl rfl ?_
  show WC _ _ _ _ [(0, .slice a g.length cap)] _
  have hH := Hp.start [] w
  have hn1 := hG.n1
  have hn5 := hG.n5
  have hm1 := hG.m1
  have hm5 := hG.m5
  obtain ⟨b, off, rfl⟩ := hg.addr (by omega)
  refine WC.seq ?_
  refine WC.region ?_
  refine WL.box rfl rfl rfl (Wt.plain rfl) hH (fun b1 wn hb1 hk1 hH => ?_)
  refine WL.u rfl rfl (Wt.plain rfl) (Ex.assign rfl) ?_
  refine WL.u rfl rfl (Wt.plain rfl) (Ex.assign rfl) ?_
  refine WL.next ?_
  refine WC.seq ?_
  refine WC.seq ?_
  refine WC.region ?_
  refine WL.u rfl rfl (Wt.plain rfl) (Ex.loadHp flat32 rfl hH rfl) ?_
  refine WL.call callable25 rfl (Wt.plain rfl) rfl rfl (iGridIn g _ _ _ (hg.kept hH.keep) (gshort hG)) ?_
  rintro _ _ ⟨rfl, hw⟩; obtain rfl := hw.symm
  refine WL.u rfl rfl (Wt.plain rfl) (Ex.not rfl) ?_
  refine WL.next ?_
  refine WC.condF rfl (by rw [gridIn_true hG] <;> rfl) ?_
  refine WC.skip ?_
  refine WN.next ?_
  refine WC.seq ?_
  refine WC.region ?_
  refine WL.u rfl rfl (Wt.plain rfl) (Ex.loadHp flat32 rfl hH rfl) ?_
  refine WL.u rfl rfl (Wt.plain rfl) (Ex.indexAddr Try.underlying32 ty9 rfl rfl (by omega)) ?_
  refine WL.u rfl rfl (Wt.plain rfl) (Ex.loadSl flat9 (hg.kept hH.keep) rfl rfl (getD_get g 0 [] (by omega))) ?_
  refine WL.u rfl rfl (Wt.plain rfl) (Ex.lenStr Try.underlying9 rfl) ?_
  refine WL.alloc ty3 rfl rfl (Wt.plain rfl) hH (fun b4 wn hb4 hk4 hH => ?_)
  refine WL.store1 ty3 rfl rfl rfl (Wt.plain rfl) hH (by first | decide | simp) rfl (fun wn hk hH => ?_)
  refine WL.next ?_
  refine WC.seq ?_
  refine WC.region ?_
  replace hH := hH.f1
  refine WL.u rfl rfl (Wt.plain rfl) (Ex.loadHp flat32 rfl hH rfl) ?_
  refine WL.u rfl rfl (Wt.plain rfl) (Ex.lenSl Try.underlying32 rfl) ?_
  replace hH := hH.f1
  refine WL.u rfl rfl (Wt.plain rfl) (Ex.loadHp flat3 rfl hH rfl) ?_
  refine WL.u rfl rfl (Wt.plain rfl) (Ex.makeFunc rfl) ?_
  refine WL.call callable59 rfl (Wt.plain rfl) rfl rfl (makeGrid0 (nR g) (nC g) 62 [vptr b1 0, vptr b4 0] _ _ callable62 (by dsimp only [nR, nC]; omega) (by dsimp only [nR, nC]; omega) (fun w2 i k hk hi hk2 => ((iFlip1 g _ cap i k b1 b4 w2 ((hg.kept hH.keep).kept hk) hG (hk.cell (hH.cellAt 1 rfl 0 rfl) (by simp)) (hk.cell (hH.cellAt 0 rfl 0 rfl) (by simp)) hi hk2)).mono (fun v w3 h => ⟨h.1, h.2.keep _⟩))) ?_
  rintro _ wn ⟨hC, hN⟩; obtain ⟨b17, cap17, cur17, rfl, hge17, hbb17, ho17⟩ := hN.own; replace hH := hH.push hC hge17 hbb17; clear hC hN
  refine WL.u rfl rfl (Wt.plain rfl) (Ex.assign rfl) ?_
  refine WL.u rfl rfl (Wt.plain rfl) (Ex.assign rfl) ?_
  refine WL.next ?_
  refine WC.ret ?_
  refine WN.body2 rfl rfl rfl ?_
  exact ⟨_, rfl, hH.keep, New.of hH ho17 (hH.base 0 rfl)⟩

theorem iGridOther (g : Grid) (a : Option Addr) (cap : Nat) (w : World) (hg : Sl rStr w a g) (hG : GridOk g) : Fn Try.prog 48 [.slice a g.length cap] w (fun v w1 => ∃ x, v = .tuple #[x, .bool true] ∧ Keep [] w w1 ∧ New rStr 9 w w1 x (otherG g)) := by
  refine Fn.enter (n := 16) Try.func48 rfl rfl rfl ?_
  show WC _ _ _ _ [(0, .slice a g.length cap)] _
  have hH := Hp.start [] w
  have hn1 := hG.n1
  have hn5 := hG.n5
  have hm1 := hG.m1
  have hm5 := hG.m5
  obtain ⟨b, off, rfl⟩ := hg.addr (by omega)
  refine WC.seq ?_
  refine WC.region ?_
  refine WL.box rfl rfl rfl (Wt.plain rfl) hH (fun b1 wn hb1 hk1 hH => ?_)
  refine WL.u rfl rfl (Wt.plain rfl) (Ex.assign rfl) ?_
  refine WL.u rfl rfl (Wt.plain rfl) (Ex.assign rfl) ?_
  refine WL.next ?_
  refine WC.seq ?_
  refine WC.seq ?_
  refine WC.region ?_
  refine WL.u rfl rfl (Wt.plain rfl) (Ex.loadHp flat32 rfl hH rfl) ?_
  refine WL.call callable25 rfl (Wt.plain rfl) rfl rfl (iGridIn g _ _ _ (hg.kept hH.keep) (gshort hG)) ?_
  rintro _ _ ⟨rfl, hw⟩; obtain rfl := hw.symm
  refine WL.u rfl rfl (Wt.plain rfl) (Ex.not rfl) ?_
  refine WL.next ?_
  refine WC.condF rfl (by rw [gridIn_true hG] <;> rfl) ?_
  refine WC.skip ?_
  refine WN.next ?_
  refine WC.seq ?_
  refine WC.tail 7 rfl (by kernel_rfl) ?_
  replace hH := hH.drew
  refine WS.u rfl rfl (Wt.plain rfl) (Ex.loadHp flat32 rfl hH rfl) ?_
  refine WS.u rfl rfl (Wt.plain rfl) (Ex.lenSl Try.underlying32 rfl) ?_
  refine WS.u rfl rfl (Wt.plain rfl) (Ex.loadHp flat32 rfl hH rfl) ?_
  refine WS.u rfl rfl (Wt.plain rfl) (Ex.indexAddr Try.underlying32 ty9 rfl rfl (by omega)) ?_
  refine WS.u rfl rfl (Wt.plain rfl) (Ex.loadSl flat9 (hg.kept hH.keep) rfl rfl (getD_get g 0 [] (by omega))) ?_
  refine WS.u rfl rfl (Wt.plain rfl) (Ex.lenStr Try.underlying9 rfl) ?_
  refine WS.u rfl rfl (Wt.plain rfl) (Ex.makeFunc rfl) ?_
  refine WS.nil ?_
  refine WL.call callable59 rfl (Wt.plain rfl) rfl rfl (makeGrid0 (nR g) (nC g) 63 [vptr b1 0] _ _ callable63 (by dsimp only [nR, nC]; omega) (by dsimp only [nR, nC]; omega) (fun w2 i k hk hi hk2 => ((iOther1 g _ cap i k b1 0 w2 ((hg.kept hH.keep).kept hk) hG (hk.cell (hH.cellAt 0 rfl 0 rfl) (by simp))  hi hk2)).mono (fun v w3 h => ⟨h.1, by rw [h.2]; exact Keep.refl _ _⟩))) ?_
  rintro _ wn ⟨hC, hN⟩; obtain ⟨b15, cap15, cur15, rfl, hge15, hbb15, ho15⟩ := hN.own; replace hH := hH.push hC hge15 hbb15; clear hC hN
  refine WL.u rfl rfl (Wt.plain rfl) (Ex.assign rfl) ?_
  refine WL.u rfl rfl (Wt.plain rfl) (Ex.assign rfl) ?_
  refine WL.next ?_
  refine WC.ret ?_
  refine WN.body2 rfl rfl rfl ?_
  exact ⟨_, rfl, hH.keep, New.of hH ho15 (hH.base 0 rfl)⟩

theorem iGridBeside (g h : Grid) (a : Option Addr) (cap : Nat) (a2 : Option Addr) (cap2 : Nat) (w : World) (hg : Sl rStr w a g) (hh : Sl rStr w a2 h) (hG : GridOk g) (hF : GridOk h) : Fn Try.prog 49 [.slice a g.length cap, .slice a2 h.length cap2] w (fun v w1 => ∃ x, v = .tuple #[x, .bool (decide (nR g = nR h ∧ nC g + nC h ≤ 5))] ∧ Keep [] w w1 ∧ New rStr 9 w w1 x (if nR g = nR h ∧ nC g + nC h ≤ 5 then besideG g h else [])) := by
  refine Fn.enter (n := 48) Try.func49 rfl rfl rfl ?_
  show WC _ _ _ _ [(0, .slice a g.length cap), (1, .slice a2 h.length cap2)] _
  have hH := Hp.start [] w
  have hn1 := hG.n1
  have hn5 := hG.n5
  have hm1 := hG.m1
  have hm5 := hG.m5
  have hn1h := hF.n1
  have hn5h := hF.n5
  have hm5h := hF.m5
  obtain ⟨b, off, rfl⟩ := hg.addr (by omega)
  obtain ⟨b2, off2, rfl⟩ := hh.addr (by omega)
  refine WC.seq ?_
  refine WC.region ?_
  refine WL.u rfl rfl (Wt.plain rfl) (Ex.assign rfl) ?_
  refine WL.u rfl rfl (Wt.plain rfl) (Ex.assign rfl) ?_
  refine WL.next ?_
  refine WC.seq ?_
  refine WC.seq ?_
  refine WC.region ?_
  refine WL.u rfl rfl (Wt.plain rfl) (Ex.move rfl) ?_
  refine WL.call callable25 rfl (Wt.plain rfl) rfl rfl (iGridIn g _ _ _ (hg.kept hH.keep) (gshort hG)) ?_
  rintro _ _ ⟨rfl, hw⟩; obtain rfl := hw.symm
  refine WL.u rfl rfl (Wt.plain rfl) (Ex.not rfl) ?_
  refine WL.u rfl rfl (Wt.plain rfl) (Ex.move rfl) ?_
  refine WL.u rfl rfl (Wt.guard' rfl rfl rfl (by rw [gridIn_true hG] <;> rfl) rfl) (Ex.move rfl) ?_
  refine WL.call callable25 rfl (Wt.guard' rfl rfl rfl (by rw [gridIn_true hG] <;> rfl) rfl) rfl rfl (iGridIn h _ _ _ (hh.kept hH.keep) (gshort hF)) ?_
  rintro _ _ ⟨rfl, hw⟩; obtain rfl := hw.symm
  refine WL.u rfl rfl (Wt.guard' rfl rfl rfl (by rw [gridIn_true hG] <;> rfl) rfl) (Ex.not rfl) ?_
  refine WL.u rfl rfl (Wt.plain rfl) (Ex.pickF rfl (by rw [gridIn_true hG] <;> rfl) rfl) ?_
  refine WL.u rfl rfl (Wt.plain rfl) (Ex.move rfl) ?_
  refine WL.u rfl rfl (Wt.guard' rfl rfl rfl (by rw [gridIn_true hF] <;> rfl) rfl) (Ex.move rfl) ?_
  refine WL.u rfl rfl (Wt.guard' rfl rfl rfl (by rw [gridIn_true hF] <;> rfl) rfl) (Ex.lenSl Try.underlying32 rfl) ?_
  refine WL.u rfl rfl (Wt.guard' rfl rfl rfl (by rw [gridIn_true hF] <;> rfl) rfl) (Ex.move rfl) ?_
  refine WL.u rfl rfl (Wt.guard' rfl rfl rfl (by rw [gridIn_true hF] <;> rfl) rfl) (Ex.lenSl Try.underlying32 rfl) ?_
  refine WL.u rfl rfl (Wt.guard' rfl rfl rfl (by rw [gridIn_true hF] <;> rfl) rfl) (Ex.neq rfl rfl) ?_
  refine WL.u rfl rfl (Wt.plain rfl) (Ex.pickF rfl (by rw [gridIn_true hF] <;> rfl) rfl) ?_
  refine WL.next ?_
  refine WC.cond rfl (fun hc1 => ?_) (fun hc1 => ?_)
  · have hc1' := hc1; try simp only [decide_eq_true_eq, decide_eq_false_iff_not, Bool.not_eq_true', Bool.not_eq_false', Bool.not_eq_true, Bool.not_eq_false] at hc1'
    refine WC.seq ?_
    refine WC.region ?_
    refine WL.lit0 Try.underlying32 ty9 rfl (Wt.plain rfl) hH (fun b23 wn hb23 hk23 hH => ?_)
    have ho23 := Own.nil rStr
    refine WL.u rfl rfl (Wt.plain rfl) (Ex.assign rfl) ?_
    refine WL.u rfl rfl (Wt.plain rfl) (Ex.assign rfl) ?_
    refine WL.next ?_
    refine WC.ret ?_
    refine WN.retThen ?_
    refine WN.body2 rfl rfl rfl ?_
    have e : ¬ (nR g = nR h ∧ nC g + nC h ≤ 5) := fun e => by have e1 : g.length = h.length := e.1; omega
    exact ⟨_, by rw [decide_eq_false e], hH.keep, by rw [if_neg e]; exact New.of hH ho23 (hH.base 0 rfl)⟩
  have hc1' := hc1; try simp only [decide_eq_true_eq, decide_eq_false_iff_not, Bool.not_eq_true', Bool.not_eq_false', Bool.not_eq_true, Bool.not_eq_false] at hc1'
  refine WC.skip ?_
  refine WN.next ?_
  refine WC.seq ?_
  refine WC.region ?_
  refine WL.lit0 Try.underlying32 ty9 rfl (Wt.plain rfl) hH (fun b24 wn hb24 hk24 hH => ?_)
  have ho24 := Own.nil rStr
  refine WL.u rfl rfl (Wt.plain rfl) (Ex.assign rfl) ?_
  refine WL.next ?_
  refine WC.seq ?_
  refine WC.seq ?_
  refine WC.region ?_
  refine WL.u rfl rfl (Wt.plain rfl) (Ex.move rfl) ?_
  refine WL.u rfl rfl (Wt.plain rfl) (Ex.lenSl Try.underlying32 rfl) ?_
  refine WL.u rfl rfl (Wt.plain rfl) (Ex.move rfl) ?_
  refine WL.next ?_
  refine WC.block ?_
  refine WC.loop (ι := Nat × Nat × Nat × (Array Value) × Grid) (fun (i, b24, cap24, cur24, l) => [(0, .slice (some ⟨b, off, none⟩) g.length cap), (1, .slice (some ⟨b2, off2, none⟩) h.length cap2), (6, vsl b24 l.length cap24), (26, vint g.length), (27, vint i)]) (fun (i, b24, cap24, cur24, l) wn => Hp [] w wn [(b24, .cells cur24 9 (0, 0))] ∧ Own rStr cur24 cap24 l ∧ l = ((List.range i).map fun i => g.getD i [] ++ h.getD i []) ∧ i ≤ g.length) (fun (i, b24, cap24, cur24, l) => g.length - i) ((0, b24, 0, #[], [])) (by exact ⟨rfl, rfl, rfl, rfl, rfl, trivial⟩) ?_ ?_
  · exact ⟨hH, ho24, rfl, Nat.zero_le _⟩
  rintro ⟨i, b24, cap24, cur24, l⟩ wn ⟨hH, ho24, hl, hi⟩
  intro mu0 hmu; try dsimp only at hmu
  show WC _ _ _ _ [(0, .slice (some ⟨b, off, none⟩) g.length cap), (1, .slice (some ⟨b2, off2, none⟩) h.length cap2), (6, vsl b24 l.length cap24), (26, vint g.length), (27, vint i)] _
  refine WC.seq ?_
  refine WC.region ?_
  refine WL.u rfl rfl (Wt.plain rfl) (Ex.lss rfl rfl) ?_
  refine WL.next ?_
  refine WC.seq ?_
  refine WC.cond rfl (fun hc2 => ?_) (fun hc2 => ?_)
  · have hc2' := hc2; try simp only [decide_eq_true_eq, decide_eq_false_iff_not, Bool.not_eq_true', Bool.not_eq_false', Bool.not_eq_true, Bool.not_eq_false] at hc2'
    have hli : i < g.length := by omega
    have hll : l.length = i := by rw [hl]; simp
    have hr1 := hG.row i (by omega)
    have hr2 := hF.row i (by omega)
    refine WC.skip ?_
    refine WN.next ?_
    refine WC.seq ?_
    refine WC.block ?_
    refine WC.seq ?_
    refine WC.region ?_
    refine WL.u rfl rfl (Wt.plain rfl) (Ex.move rfl) ?_
    refine WL.u rfl rfl (Wt.plain rfl) (Ex.assign rfl) ?_
    refine WL.next ?_
    have hQ := hH
    refine WC.plan (Keep [b24] _) [(0, true), (1, true), (2, true), (3, true), (4, true), (5, true), (6, true), (7, true), (8, true), (9, true), (10, false), (11, false), (12, true)] rfl (by kernel_rfl) (Keep.drew _ _) (fun hR => ?_)
    replace hH := hH.drew
    refine WPl.q rfl rfl rfl (Wt.plain rfl) (fun w hC => Ex.move rfl) ?_
    refine WPl.q rfl rfl rfl (Wt.plain rfl) (fun w hC => Ex.move rfl) ?_
    refine WPl.q rfl rfl rfl (Wt.plain rfl) (fun w hC => Ex.move rfl) ?_
    refine WPl.q rfl rfl rfl (Wt.plain rfl) (fun w hC => Ex.indexAddr Try.underlying32 ty9 rfl rfl (by omega)) ?_
    refine WPl.q rfl rfl rfl (Wt.plain rfl) (fun w hC => Ex.loadSl flat9 (hQ.ro1 0 rfl hC hg) rfl rfl (getD_get g i [] (by omega))) ?_
    refine WPl.q rfl rfl rfl (Wt.plain rfl) (fun w hC => Ex.move rfl) ?_
    refine WPl.q rfl rfl rfl (Wt.plain rfl) (fun w hC => Ex.move rfl) ?_
    refine WPl.q rfl rfl rfl (Wt.plain rfl) (fun w hC => Ex.indexAddr Try.underlying32 ty9 rfl rfl (by omega)) ?_
    refine WPl.q rfl rfl rfl (Wt.plain rfl) (fun w hC => Ex.loadSl flat9 (hQ.ro1 0 rfl hC hh) rfl rfl (getD_get h i [] (by omega))) ?_
    refine WPl.q rfl rfl rfl (Wt.plain rfl) (fun w hC => Ex.concat rfl rfl (by omega)) ?_
    refine WPl.f rfl ?_
    have hsR40 := hR.size
    refine WL.lit Try.underlying32 ty9 rfl rfl rfl rfl rfl rfl rfl (Wt.plain rfl) hH (fun b40 wn hb40 hk40 hH => ?_)
    replace hR := hR.trans (hk40.nil)
    have ho40 := Own.str1 (g.getD i [] ++ h.getD i [])
    refine WPl.b hR ?_
    refine WPl.f rfl ?_
    replace hH := hH.f1
    have hsR41 := hR.size
    refine WL.appendS (r := rStr) (m := [g.getD i [] ++ h.getD i []]) Try.underlying32 ty9 rfl rfl rfl ((ho40.slAt hH 1 rfl)) rfl (Wt.plain rfl) hH ho24 (by simp only [List.length_nil, List.length_cons]; omega) (by simp only [List.length_nil, List.length_cons]; omega) (fun b24 cap24 cur24 wn x24 hk24 hH ho24 => ?_)
    replace hR := hR.trans (hk24)
    refine WPl.b hR ?_
    refine WPl.q rfl rfl rfl (Wt.plain rfl) (fun w hC => Ex.assign rfl) ?_
    refine WPl.nil (fun hC => ?_); clear hC
    refine WN.normalBlock ?_
    refine WN.next ?_
    refine WC.region ?_
    refine WL.u rfl rfl (Wt.plain rfl) (Ex.add rfl rfl (by omega)) ?_
    refine WL.u rfl rfl (Wt.plain rfl) (Ex.move rfl) ?_
    refine WL.last ?_
    replace hH := hH.first1
    refine WN.round (i + 1, b24, cap24, cur24, l ++ [g.getD i [] ++ h.getD i []]) (by exact ⟨rfl, rfl, rfl, rfl, rfl, trivial⟩) ?_ ?_
    · exact ⟨hH, ho24, by rw [range_snoc, ← hl], by omega⟩
    · (try dsimp only); omega
  have hc2' := hc2; try simp only [decide_eq_true_eq, decide_eq_false_iff_not, Bool.not_eq_true', Bool.not_eq_false', Bool.not_eq_true, Bool.not_eq_false] at hc2'
  have hlg : i = g.length := by omega
  have hlb : l = besideG g h := by rw [hl, hlg]; rfl
  clear hl
  subst hlb
  refine WC.exit ?_
  refine WN.exitThen ?_
  refine WN.exitThen ?_
  refine WN.exitHere ?_
  refine WN.next ?_
  refine WC.seq ?_
  refine WC.seq ?_
  have hbi := beside_in hG hF (show g.length = h.length by omega)
  refine WC.region ?_
  refine WL.u rfl rfl (Wt.plain rfl) (Ex.move rfl) ?_
  refine WL.call callable25 rfl (Wt.plain rfl) rfl rfl (iGridIn (besideG g h) _ _ _ (ho24.slAt hH 0 rfl) (beside_short hG hF)) ?_
  rintro _ _ ⟨rfl, hw⟩; obtain rfl := hw.symm
  refine WL.u rfl rfl (Wt.plain rfl) (Ex.not rfl) ?_
  refine WL.next ?_
  refine WC.cond rfl (fun hc3 => ?_) (fun hc3 => ?_)
  · rw [hbi] at hc3
    have e5 : ¬ (nR g = nR h ∧ nC g + nC h ≤ 5) := fun e => by rw [decide_eq_true e.2] at hc3; simp at hc3
    refine WC.seq ?_
    refine WC.region ?_
    refine WL.lit0 Try.underlying32 ty9 rfl (Wt.plain rfl) hH (fun b46 wn hb46 hk46 hH => ?_)
    have ho46 := Own.nil rStr
    refine WL.u rfl rfl (Wt.plain rfl) (Ex.assign rfl) ?_
    refine WL.u rfl rfl (Wt.plain rfl) (Ex.assign rfl) ?_
    refine WL.next ?_
    refine WC.ret ?_
    refine WN.retThen ?_
    refine WN.body2 rfl rfl rfl ?_
    exact ⟨_, by rw [decide_eq_false e5], hH.keep, by rw [if_neg e5]; exact New.of hH ho46 (hH.base 0 rfl)⟩
  rw [hbi] at hc3
  have e5 : nR g = nR h ∧ nC g + nC h ≤ 5 := ⟨show g.length = h.length by omega, by simpa using hc3⟩
  refine WC.skip ?_
  refine WN.next ?_
  refine WC.seq ?_
  refine WC.region ?_
  refine WL.u rfl rfl (Wt.plain rfl) (Ex.move rfl) ?_
  refine WL.u rfl rfl (Wt.plain rfl) (Ex.assign rfl) ?_
  refine WL.u rfl rfl (Wt.plain rfl) (Ex.assign rfl) ?_
  refine WL.next ?_
  refine WC.ret ?_
  refine WN.body2 rfl rfl rfl ?_
  exact ⟨_, by rw [decide_eq_true e5], hH.keep, by rw [if_pos e5]; exact New.of hH ho24 (hH.base 0 rfl)⟩

theorem iGridUnder (g h : Grid) (a : Option Addr) (cap : Nat) (a2 : Option Addr) (cap2 : Nat) (w : World) (hg : Sl rStr w a g) (hh : Sl rStr w a2 h) (hG : GridOk g) (hF : GridOk h) : Fn Try.prog 50 [.slice a g.length cap, .slice a2 h.length cap2] w (fun v w1 => ∃ x, v = .tuple #[x, .bool (decide (nC g = nC h ∧ nR g + nR h ≤ 5))] ∧ Keep [] w w1 ∧ New rStr 9 w w1 x (if nC g = nC h ∧ nR g + nR h ≤ 5 then g ++ h else [])) := by
  refine Fn.enter (n := 26) Try.func50 rfl rfl rfl ?_
  show WC _ _ _ _ [(0, .slice a g.length cap), (1, .slice a2 h.length cap2)] _
  have hH := Hp.start [] w
  have hn1 := hG.n1
  have hn5 := hG.n5
  have hm1 := hG.m1
  have hm5 := hG.m5
  have hn1h := hF.n1
  have hn5h := hF.n5
  have hm5h := hF.m5
  obtain ⟨b, off, rfl⟩ := hg.addr (by omega)
  obtain ⟨b2, off2, rfl⟩ := hh.addr (by omega)
  have hbi := under_in hG hF
  refine WC.seq ?_
  refine WC.region ?_
  refine WL.u rfl rfl (Wt.plain rfl) (Ex.assign rfl) ?_
  refine WL.u rfl rfl (Wt.plain rfl) (Ex.assign rfl) ?_
  refine WL.next ?_
  refine WC.seq ?_
  refine WC.seq ?_
  refine WC.region ?_
  refine WL.u rfl rfl (Wt.plain rfl) (Ex.move rfl) ?_
  refine WL.call callable25 rfl (Wt.plain rfl) rfl rfl (iGridIn g _ _ _ (hg.kept hH.keep) (gshort hG)) ?_
  rintro _ _ ⟨rfl, hw⟩; obtain rfl := hw.symm
  refine WL.u rfl rfl (Wt.plain rfl) (Ex.not rfl) ?_
  refine WL.u rfl rfl (Wt.plain rfl) (Ex.move rfl) ?_
  refine WL.u rfl rfl (Wt.guard' rfl rfl rfl (by rw [gridIn_true hG] <;> rfl) rfl) (Ex.move rfl) ?_
  refine WL.call callable25 rfl (Wt.guard' rfl rfl rfl (by rw [gridIn_true hG] <;> rfl) rfl) rfl rfl (iGridIn h _ _ _ (hh.kept hH.keep) (gshort hF)) ?_
  rintro _ _ ⟨rfl, hw⟩; obtain rfl := hw.symm
  refine WL.u rfl rfl (Wt.guard' rfl rfl rfl (by rw [gridIn_true hG] <;> rfl) rfl) (Ex.not rfl) ?_
  refine WL.u rfl rfl (Wt.plain rfl) (Ex.pickF rfl (by rw [gridIn_true hG] <;> rfl) rfl) ?_
  refine WL.next ?_
  refine WC.condF rfl (by rw [gridIn_true hF] <;> rfl) ?_
  refine WC.skip ?_
  refine WN.next ?_
  refine WC.seq ?_
  refine WC.region ?_
  refine WL.lit0 Try.underlying32 ty9 rfl (Wt.plain rfl) hH (fun b16 wn hb16 hk16 hH => ?_)
  have ho16 := Own.nil rStr
  refine WL.u rfl rfl (Wt.plain rfl) (Ex.move rfl) ?_
  refine WL.appendS (r := rStr) (m := g) Try.underlying32 ty9 rfl rfl rfl ((hg.kept hH.keep)) rfl (Wt.plain rfl) hH ho16 (by simp only [List.length_nil, List.length_cons]; omega) (by simp only [List.length_nil, List.length_cons]; omega) (fun b16 cap16 cur16 wn x16 hk16 hH ho16 => ?_)
  refine WL.u rfl rfl (Wt.plain rfl) (Ex.move rfl) ?_
  refine WL.appendS (r := rStr) (m := h) Try.underlying32 ty9 rfl rfl rfl ((hh.kept hH.keep)) rfl (Wt.plain rfl) hH ho16 (by simp only [List.length_append, List.length_nil]; omega) (by simp only [List.length_append, List.length_nil]; omega) (fun b16 cap16 cur16 wn x16 hk16 hH ho16 => ?_)
  refine WL.u rfl rfl (Wt.plain rfl) (Ex.assign rfl) ?_
  refine WL.next ?_
  refine WC.seq ?_
  refine WC.seq ?_
  refine WC.region ?_
  refine WL.u rfl rfl (Wt.plain rfl) (Ex.move rfl) ?_
  refine WL.call callable25 rfl (Wt.plain rfl) rfl rfl (iGridIn (g ++ h) _ _ _ (ho16.slAt hH 0 rfl) (under_short hG hF)) ?_
  rintro _ _ ⟨rfl, hw⟩; obtain rfl := hw.symm
  refine WL.u rfl rfl (Wt.plain rfl) (Ex.not rfl) ?_
  refine WL.next ?_
  refine WC.cond rfl (fun hc2 => ?_) (fun hc2 => ?_)
  · rw [hbi] at hc2
    have e5 : ¬ (nC g = nC h ∧ nR g + nR h ≤ 5) := fun e => by rw [decide_eq_true e] at hc2; simp at hc2
    refine WC.seq ?_
    refine WC.region ?_
    refine WL.lit0 Try.underlying32 ty9 rfl (Wt.plain rfl) hH (fun b24 wn hb24 hk24 hH => ?_)
    have ho23 := Own.nil rStr
    refine WL.u rfl rfl (Wt.plain rfl) (Ex.assign rfl) ?_
    refine WL.u rfl rfl (Wt.plain rfl) (Ex.assign rfl) ?_
    refine WL.next ?_
    refine WC.ret ?_
    refine WN.retThen ?_
    refine WN.body2 rfl rfl rfl ?_
    exact ⟨_, by rw [decide_eq_false e5], hH.keep, by rw [if_neg e5]; exact New.of hH ho23 (hH.base 0 rfl)⟩
  rw [hbi] at hc2
  have e5 : nC g = nC h ∧ nR g + nR h ≤ 5 := by simpa using hc2
  refine WC.skip ?_
  refine WN.next ?_
  refine WC.seq ?_
  refine WC.region ?_
  refine WL.u rfl rfl (Wt.plain rfl) (Ex.move rfl) ?_
  refine WL.u rfl rfl (Wt.plain rfl) (Ex.assign rfl) ?_
  refine WL.u rfl rfl (Wt.plain rfl) (Ex.assign rfl) ?_
  refine WL.next ?_
  refine WC.ret ?_
  refine WN.body2 rfl rfl rfl ?_
  exact ⟨_, by rw [decide_eq_true e5], hH.keep, by rw [if_pos e5]; exact New.of hH ho16 (hH.base 0 rfl)⟩

end Go.Proofs.Ytamkbmhgclpidaa
