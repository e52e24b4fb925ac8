/- Structs of five cells; a result behind another. -/
import Derived.Test.YtmlkabddhdkpaaaHd
namespace Go.Proofs.Ytmlkabddhdkpaaa
set_option maxRecDepth 100000
set_option linter.unusedSimpArgs false
set_option linter.unusedVariables false
open Go Go.RowKit
section
variable {P : Program} {n : Nat} {Q : Exit → Act → World → Prop} {σ : Env} {w w0 : World} {S : List Nat} {L : List (Nat × Obj)} {ops rest : List Oper} {opsA : Array Oper}
variable {d : Option Nat} {ty : TypeId} {pos : String} {af : Array Edge} {g : Option (Nat × Bool)} {x y : Operand} {t e : TypeId}
theorem run_load5 {b : Nat} {u0 u1 u2 u3 u4 : Value} {e : TypeId} {fr : Nat × Nat} (hb : w.heap[b]? = some (.cells #[u0, u1, u2, u3, u4] e fr)) : (loadCells ⟨b, 0, none⟩ 5).run P w = .ok #[u0, u1, u2, u3, u4] w := by
  have := run_loadCells_list (P := P) (w := w) ⟨b, 0, none⟩ [u0, u1, u2, u3, u4] (fun j y hy => by
    rw [Addr.add_lit, cell_of_row w b _ _ e fr hb, Nat.zero_add]
    simpa using hy)
  exact this
theorem Ex.loadHp5 {b : Nat} {u0 u1 u2 u3 u4 : Value} {e : TypeId} {fr : Nat × Nat} {z : Value} {by' : Nat} {fs : Array Field} (ht : P.underlying t = some (.struct fs)) (hz : Ty P t z 5 by') (hx : ev σ x = some (vptr b 0)) (hH : Hp S w0 w ((b, .cells #[u0, u1, u2, u3, u4] e fr) :: L)) : Ex P n ⟨d, .load t x, ty, pos, af, g⟩ σ w (.agg #[u0, u1, u2, u3, u4]) w := fun a ha => by
  obtain ⟨i, h1, h2, h3, h4⟩ := hz
  have hl := run_load5 (P := P) (hH.at 0 rfl)
  simp [execOp, ha.evl hx, Instr.loadAt, Instr.sureAddr, loadVar, isAgg, run_underlying ht, sizeOf, typeInfo, h1, h3, hl]
theorem Ex.loadK5 {b : Nat} {u0 u1 u2 u3 u4 : Value} {e : TypeId} {fr : Nat × Nat} {z : Value} {by' : Nat} {fs : Array Field} {T : List Nat} {w' : World} (ht : P.underlying t = some (.struct fs)) (hz : Ty P t z 5 by') (hx : ev σ x = some (vptr b 0)) (hb : w.heap[b]? = some (.cells #[u0, u1, u2, u3, u4] e fr)) (hk : Keep T w w') (hn : b ∉ T) : Ex P n ⟨d, .load t x, ty, pos, af, g⟩ σ w' (.agg #[u0, u1, u2, u3, u4]) w' := fun a ha => by
  obtain ⟨i, h1, h2, h3, h4⟩ := hz
  have hl := run_load5 (P := P) (hk.heap hb hn)
  simp [execOp, ha.evl hx, Instr.loadAt, Instr.sureAddr, loadVar, isAgg, run_underlying ht, sizeOf, typeInfo, h1, h3, hl]
theorem WN.tcell2 {fn : Func} {R : Value → World → Prop} {q q' b : Nat} {u v v' : Value} {z : Value} {by' : Nat} {fs : Array Field} {fr : Nat × Nat} (hr : fn.results = #[.tmp q', .cell q t]) (hv : look σ q = some (vptr b 0)) (hv' : look σ q' = some v') (ht : P.underlying t = some (.struct fs)) (hz : Ty P t z 2 by') (hH : Hp S w0 w ((b, .cells #[u, v] e fr) :: L)) (h : R (.tuple #[v', .agg #[u, v]]) w) : WN n (bodyPost P fn (Ret R) .ret) σ w :=
  fun a ha => ⟨ha.defers, _, by
    have e1 := ha.val q _ hv
    have e2 := ha.val q' _ hv'
    rw [Array.getD_eq_getD_getElem?] at e1 e2
    simp [results, hr, e1, e2, asAddr, run_loadVar2 ht hz (hH.at 0 rfl)], h⟩
/-- a store of five -/
theorem WL.store5 {b : Nat} {v0 v1 v2 v3 v4 u0 u1 u2 u3 u4 : Value} {te : TypeId} {z : Value} {by' : Nat} (ht : Ty P t z 5 by') (hx : ev σ x = some (vptr b 0)) (hy : ev σ y = some (.agg #[v0, v1, v2, v3, v4])) (hv0 : v0.oneCell' = true) (hv1 : v1.oneCell' = true) (hv2 : v2.oneCell' = true) (hv3 : v3.oneCell' = true) (hv4 : v4.oneCell' = true) (hw : Wt opsA ⟨none, .store t x y, ty, pos, af, g⟩ σ true)
    (hH : Hp S w0 w ((b, .cells #[u0, u1, u2, u3, u4] te (0, 0)) :: L))
    (h : ∀ w', Keep [b] w w' → Hp S w0 w' ((b, .cells #[v0, v1, v2, v3, v4] te (0, 0)) :: L) → WL P n opsA Q rest σ w') : WL P n opsA Q (⟨none, .store t x y, ty, pos, af, g⟩ :: rest) σ w := by
  obtain ⟨i, h1, h2, h3, h4⟩ := ht
  have hb := hH.at 0 rfl
  have hH1 := hH.setCell 0 v0
  have hb1 := hH1.at 0 rfl
  have hH2 := hH1.setCell 1 v1
  have hb2 := hH2.at 0 rfl
  have hH3 := hH2.setCell 2 v2
  have hb3 := hH3.at 0 rfl
  have hH4 := hH3.setCell 3 v3
  have hb4 := hH4.at 0 rfl
  have hH5 := hH4.setCell 4 v4
  refine WL.s rfl hw (w' := ((((w.setCell ⟨b, 0, none⟩ v0).setCell ⟨b, 1, none⟩ v1).setCell ⟨b, 2, none⟩ v2).setCell ⟨b, 3, none⟩ v3).setCell ⟨b, 4, none⟩ v4) (fun a ha => ?_) (h _ (((((keep_setCell w b 0 v0).trans (keep_setCell _ b 1 v1)).trans (keep_setCell _ b 2 v2)).trans (keep_setCell _ b 3 v3)).trans (keep_setCell _ b 4 v4)) hH5)
  have hc : w.cell? ⟨b, 0, none⟩ = some u0 := by rw [cell_of_row w b 0 _ te _ hb]; rfl
  have hc1 : (w.setCell ⟨b, 0, none⟩ v0).cell? ⟨b, 1, none⟩ = some u1 := by rw [cell_of_row _ b 1 _ te _ hb1]; rfl
  have hc2 : ((w.setCell ⟨b, 0, none⟩ v0).setCell ⟨b, 1, none⟩ v1).cell? ⟨b, 2, none⟩ = some u2 := by rw [cell_of_row _ b 2 _ te _ hb2]; rfl
  have hc3 : (((w.setCell ⟨b, 0, none⟩ v0).setCell ⟨b, 1, none⟩ v1).setCell ⟨b, 2, none⟩ v2).cell? ⟨b, 3, none⟩ = some u3 := by rw [cell_of_row _ b 3 _ te _ hb3]; rfl
  have hc4 : ((((w.setCell ⟨b, 0, none⟩ v0).setCell ⟨b, 1, none⟩ v1).setCell ⟨b, 2, none⟩ v2).setCell ⟨b, 3, none⟩ v3).cell? ⟨b, 4, none⟩ = some u4 := by rw [cell_of_row _ b 4 _ te _ hb4]; rfl
  have hfr : w.frozen? ⟨b, 0, none⟩ = false := (frozen_at hb).trans (by simp)
  have hfr1 : (w.setCell ⟨b, 0, none⟩ v0).frozen? ⟨b, 1, none⟩ = false := (frozen_at hb1).trans (by simp)
  have hfr2 : ((w.setCell ⟨b, 0, none⟩ v0).setCell ⟨b, 1, none⟩ v1).frozen? ⟨b, 2, none⟩ = false := (frozen_at hb2).trans (by simp)
  have hfr3 : (((w.setCell ⟨b, 0, none⟩ v0).setCell ⟨b, 1, none⟩ v1).setCell ⟨b, 2, none⟩ v2).frozen? ⟨b, 3, none⟩ = false := (frozen_at hb3).trans (by simp)
  have hfr4 : ((((w.setCell ⟨b, 0, none⟩ v0).setCell ⟨b, 1, none⟩ v1).setCell ⟨b, 2, none⟩ v2).setCell ⟨b, 3, none⟩ v3).frozen? ⟨b, 4, none⟩ = false := (frozen_at hb4).trans (by simp)
  have h6 := run_store P w ⟨b, 0, none⟩ v0 .plain hv0
  have h7 := run_store P (w.setCell ⟨b, 0, none⟩ v0) ⟨b, 1, none⟩ v1 .plain hv1
  have h8 := run_store P ((w.setCell ⟨b, 0, none⟩ v0).setCell ⟨b, 1, none⟩ v1) ⟨b, 2, none⟩ v2 .plain hv2
  have h9 := run_store P (((w.setCell ⟨b, 0, none⟩ v0).setCell ⟨b, 1, none⟩ v1).setCell ⟨b, 2, none⟩ v2) ⟨b, 3, none⟩ v3 .plain hv3
  have h10 := run_store P ((((w.setCell ⟨b, 0, none⟩ v0).setCell ⟨b, 1, none⟩ v1).setCell ⟨b, 2, none⟩ v2).setCell ⟨b, 3, none⟩ v3) ⟨b, 4, none⟩ v4 .plain hv4
  simp only [hc, hfr] at h6
  simp only [hc1, hfr1] at h7
  simp only [hc2, hfr2] at h8
  simp only [hc3, hfr3] at h9
  simp only [hc4, hfr4] at h10
  simp [execOp, ha.evl hx, ha.evl hy, Instr.storeAt, Instr.sureAddr, storeVar, sizeOf, typeInfo, h1, h3, Value.cells, storeCells, Addr.add_lit, h6, h7, h8, h9, h10]
end
end Go.Proofs.Ytmlkabddhdkpaaa
