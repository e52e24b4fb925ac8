/- Grids with another letter in a cell. -/
import Derived.Test.YtjejdebmlgjdeaaFull
import Derived.Test.YtjejdebmlgjdeaaBound
import Derived.Test.YtjejdebmlgjdeaaAim
import Derived.Test.YtjejdebmlgjdeaaPBIs
namespace Go.Proofs.Ytjejdebmlgjdeaa
set_option maxRecDepth 100000
set_option linter.unusedSimpArgs false
set_option linter.unusedVariables false
open Go Go.RowKit
theorem GridOk.short {g : Grid} (h : GridOk g) : Short g := fun i => by
  by_cases hi : i < g.length
  · have h1 := h.row i hi
    have h2 := h.m5
    omega
  · have e : g.getD i [] = [] := by simp [List.getD_eq_getElem?_getD, List.getElem?_eq_none (Nat.le_of_not_lt hi)]
    rw [e]; simp
theorem GridOk.portIn {g : Grid} (hG : GridOk g) {p : Nat} (hp : p < ports g) : portIn g (p : Int) = true := by
  rw [Go.Proofs.Ytjejdebmlgjdeaa.portIn, gridIn_true hG, decide_eq_true (show (0 : Int) ≤ p ∧ (p : Int) < ports g by omega)]; rfl
theorem beamEnd_of {g : Grid} (hG : GridOk g) {p : Nat} (hp : p < ports g) : beamEnd g (p : Int) = ((((way g p).2 : Nat) : Int), true) := by
  rw [beamEnd, if_pos (hG.portIn hp)]; rfl
def gridPut (g : Grid) (cell : Int) (t : Str) : Grid × Bool := if gridIn g = true ∧ (0 ≤ cell ∧ cell < (nR g * nC g : Nat)) ∧ t.length = 1 ∧ okL (t.getD 0 0) = true then (putG g cell.toNat (t.getD 0 0), true) else ([], false)

theorem iput1 (g : Grid) (a : Option Addr) (cap i k cell b7 b4 b5 b3 : Nat) (c : UInt8) (w : World) (hg : Sl rStr w a g) (hG : GridOk g) (hi : i < nR g) (hk : k < nC g) (h7 : w.cell? ⟨b7, 0, none⟩ = some (vint (nC g))) (h4 : w.cell? ⟨b4, 0, none⟩ = some (vint cell)) (h5 : w.cell? ⟨b5, 0, none⟩ = some (.int .u8 c.toNat)) (h3 : w.cell? ⟨b3, 0, none⟩ = some (.slice a g.length cap)) : Fn Try.prog 117 [vint i, vint k, vptr b7 0, vptr b4 0, vptr b5 0, vptr b3 0] w (fun v w1 => v = .int .u8 (if i * nC g + k = cell then c else (g.getD i []).getD k 0).toNat ∧ w1 = w) := by
  refine Fn.enter (n := 23) Try.func117 rfl rfl rfl ?_
  show WC _ _ _ _ [(0, vint i), (1, vint k), (2, vptr b7 0), (3, vptr b4 0), (4, vptr b5 0), (5, vptr b3 0)] _
  have hn5 := hG.n5
  have hm5 := hG.m5
  have hrow := hG.row i hi
  dsimp only [nR, nC] at hi hk
  obtain ⟨b, off, rfl⟩ := hg.addr (by omega)
  have hmb := mulB (i : Int) ((g.getD 0 []).length : Int) (by omega) (by omega)
  have hmI : (i : Int) * ((g.getD 0 []).length : Int) = ((i * (g.getD 0 []).length : Nat) : Int) := (Int.natCast_mul _ _).symm
  refine WC.seq ?_
  refine WC.region ?_
  refine WL.u rfl rfl (Wt.plain rfl) (Ex.assign rfl) ?_
  refine WL.next ?_
  refine WC.seq ?_
  refine WC.seq ?_
  refine WC.region ?_
  refine WL.u rfl rfl (Wt.plain rfl) (Ex.move rfl) ?_
  refine WL.u rfl rfl (Wt.plain rfl) (Ex.load flat3 rfl h7) ?_
  refine WL.u rfl rfl (Wt.plain rfl) ((Ex.mul rfl rfl (by show I64 ((i : Int) * ((g.getD 0 []).length : Int)); omega)).to (congrArg (Value.int IntKind.i64) (show _ = ((i * nC g : Nat) : Int) from hmI))) ?_
  refine WL.u rfl rfl (Wt.plain rfl) (Ex.move rfl) ?_
  refine WL.u rfl rfl (Wt.plain rfl) ((Ex.add rfl rfl (by show I64 (((i * (g.getD 0 []).length : Nat) : Int) + k); omega)).to (congrArg (Value.int IntKind.i64) (show _ = ((i * nC g + k : Nat) : Int) from (Int.natCast_add _ _).symm))) ?_
  refine WL.u rfl rfl (Wt.plain rfl) (Ex.load flat3 rfl h4) ?_
  refine WL.u rfl rfl (Wt.plain rfl) (Ex.eql rfl rfl) ?_
  refine WL.next ?_
  refine WC.cond rfl (fun hc1 => ?_) (fun hc1 => ?_)
  · have hc1' := hc1; try simp only [decide_eq_true_eq, decide_eq_false_iff_not, Bool.not_eq_true', Bool.not_eq_false', Bool.not_eq_true, Bool.not_eq_false] at hc1'
    refine WC.seq ?_
    refine WC.region ?_
    refine WL.u rfl rfl (Wt.plain rfl) (Ex.load flat5 rfl h5) ?_
    refine WL.u rfl rfl (Wt.plain rfl) (Ex.assign rfl) ?_
    refine WL.next ?_
    refine WC.ret ?_
    refine WN.retThen ?_
    refine WN.body1 rfl rfl ?_
    exact ⟨by rw [if_pos (show i * nC g + k = cell by omega)], rfl⟩
  have hc1' := hc1; try simp only [decide_eq_true_eq, decide_eq_false_iff_not, Bool.not_eq_true', Bool.not_eq_false', Bool.not_eq_true, Bool.not_eq_false] at hc1'
  refine WC.skip ?_
  refine WN.next ?_
  refine WC.seq ?_
  refine WC.region ?_
  refine WL.u rfl rfl (Wt.plain rfl) (Ex.load flat22 rfl h3) ?_
  refine WL.u rfl rfl (Wt.plain rfl) (Ex.move rfl) ?_
  refine WL.u rfl rfl (Wt.plain rfl) (Ex.indexAddr Try.underlying22 ty9 rfl rfl (by omega)) ?_
  refine WL.u rfl rfl (Wt.plain rfl) (Ex.loadSl flat9 hg rfl rfl (getD_get g i [] (by omega))) ?_
  refine WL.u rfl rfl (Wt.plain rfl) (Ex.move rfl) ?_
  refine WL.u rfl rfl (Wt.plain rfl) (Ex.indexStr Try.underlying9 rfl rfl (by (try simp only [List.length_cons, List.length_nil]); omega)) ?_
  refine WL.u rfl rfl (Wt.plain rfl) (Ex.assign rfl) ?_
  refine WL.next ?_
  refine WC.ret ?_
  refine WN.body1 rfl rfl ?_
  exact ⟨by rw [if_neg (show ¬ i * nC g + k = cell by omega)]; rfl, rfl⟩

theorem iput (g : Grid) (a : Option Addr) (cap cell : Nat) (c : UInt8) (w : World) (hg : Sl rStr w a g) (hG : GridOk g) : Fn Try.prog 88 [.slice a g.length cap, vint cell, .int .u8 c.toNat] w (fun v w1 => Keep [] w w1 ∧ New rStr 9 w w1 v (putG g cell c)) := by
  refine Fn.enter (n := 17) Try.func88 rfl rfl rfl ?_
  show WC _ _ _ _ [(0, .slice a g.length cap), (1, vint cell), (2, .int .u8 c.toNat)] _
  have hH := Hp.start [] w
  have hn1 := hG.n1
  have hn5 := hG.n5
  have hm5 := hG.m5
  obtain ⟨b, off, rfl⟩ := hg.addr (by omega)
  refine WC.seq ?_
  refine WC.region ?_
  refine WL.box rfl rfl rfl (Wt.plain rfl) hH (fun b3 wn hb3 hk3 hH => ?_)
  refine WL.box rfl rfl rfl (Wt.plain rfl) hH (fun b4 wn hb4 hk4 hH => ?_)
  refine WL.box rfl rfl rfl (Wt.plain rfl) hH (fun b5 wn hb5 hk5 hH => ?_)
  refine WL.u rfl rfl (Wt.plain rfl) (Ex.assign rfl) ?_
  refine WL.next ?_
  refine WC.seq ?_
  refine WC.region ?_
  replace hH := hH.f2
  refine WL.u rfl rfl (Wt.plain rfl) (Ex.loadHp flat22 rfl hH rfl) ?_
  refine WL.u rfl rfl (Wt.plain rfl) (Ex.indexAddr Try.underlying22 ty9 rfl rfl (by omega)) ?_
  refine WL.u rfl rfl (Wt.plain rfl) (Ex.loadSl flat9 (hg.kept hH.keep) rfl rfl (getD_get g 0 [] (by omega))) ?_
  refine WL.u rfl rfl (Wt.plain rfl) (Ex.lenStr Try.underlying9 rfl) ?_
  refine WL.alloc ty3 rfl rfl (Wt.plain rfl) hH (fun b7 wn hb7 hk7 hH => ?_)
  refine WL.store1 ty3 rfl rfl rfl (Wt.plain rfl) hH (by first | decide | simp) rfl (fun wn hk hH => ?_)
  refine WL.next ?_
  refine WC.seq ?_
  refine WC.region ?_
  replace hH := hH.f1
  refine WL.u rfl rfl (Wt.plain rfl) (Ex.loadHp flat22 rfl hH rfl) ?_
  refine WL.u rfl rfl (Wt.plain rfl) (Ex.lenSl Try.underlying22 rfl) ?_
  replace hH := hH.f1
  refine WL.u rfl rfl (Wt.plain rfl) (Ex.loadHp flat3 rfl hH rfl) ?_
  refine WL.u rfl rfl (Wt.plain rfl) (Ex.makeFunc rfl) ?_
  refine WL.call callable54 rfl (Wt.plain rfl) rfl rfl (makeGrid0 (nR g) (nC g) 117 [vptr b7 0, vptr b4 0, vptr b5 0, vptr b3 0] _ _ callable117 (by dsimp only [nR]; omega) (by dsimp only [nC]; omega) (fun w2 i k hk hi hkm => (iput1 g _ cap i k cell b7 b4 b5 b3 c w2 ((hg.kept hH.keep).kept hk) hG hi hkm (hk.cell (hH.cellAt 0 rfl 0 rfl) (by simp)) (hk.cell (hH.cellAt 3 rfl 0 rfl) (by simp)) (hk.cell (hH.cellAt 2 rfl 0 rfl) (by simp)) (hk.cell (hH.cellAt 1 rfl 0 rfl) (by simp))).mono (fun v w3 h => ⟨h.1, by rw [h.2]; exact Keep.refl _ _⟩))) ?_
  rintro _ wn ⟨hC, hN⟩; obtain ⟨b16, cap16, cur16, rfl, hge16, hbb16, ho16⟩ := hN.own; replace hH := hH.push hC hge16 hbb16; clear hC hN
  refine WL.u rfl rfl (Wt.plain rfl) (Ex.assign rfl) ?_
  refine WL.next ?_
  refine WC.ret ?_
  refine WN.body1 rfl rfl ?_
  exact ⟨hH.keep, New.of hH ho16 (hH.base 0 rfl)⟩

end Go.Proofs.Ytjejdebmlgjdeaa
