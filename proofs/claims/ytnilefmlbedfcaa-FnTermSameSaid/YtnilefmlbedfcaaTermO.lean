/- Terms of grids. -/
import Derived.Test.YtnilefmlbedfcaaAll
namespace Go.Proofs.Ytnilefmlbedfcaa
set_option maxRecDepth 100000
set_option linter.unusedSimpArgs false
set_option linter.unusedVariables false
open Go Go.RowKit
def rowT : Str → Str
  | [] => []
  | [c] => [c]
  | c :: d :: r => [40] ++ [c] ++ [124] ++ rowT (d :: r) ++ [41]
def writeT : Grid → Str
  | [] => []
  | [r] => rowT r
  | r :: s :: g => [40] ++ rowT r ++ [45] ++ writeT (s :: g) ++ [41]
theorem rowT_len : ∀ (r : Str), 0 < r.length → (rowT r).length + 3 = 4 * r.length
  | [], h => by simp at h
  | [c], _ => rfl
  | c :: d :: r, _ => by
    have := rowT_len (d :: r) (by simp)
    rw [rowT]
    simp only [List.length_append, List.length_cons, List.length_nil] at this ⊢
    omega
theorem rowT_step {r : Str} (h : 2 ≤ r.length) : rowT r = [40] ++ r.take 1 ++ [124] ++ rowT (r.drop 1) ++ [41] := by
  match r, h with
  | c :: d :: r, _ => rfl
theorem rowT_one {r : Str} (h : r.length = 1) : rowT r = r := by
  match r, h with
  | [c], _ => rfl
theorem writeT_len {m : Nat} : ∀ (g : Grid), (∀ r ∈ g, 0 < r.length ∧ r.length ≤ m) → (writeT g).length ≤ (4 * m + 3) * g.length
  | [], _ => by simp [writeT]
  | [r], h => by
    have h1 := h r (by simp)
    have := rowT_len r h1.1
    rw [writeT, List.length_singleton, Nat.mul_one]; omega
  | r :: s :: g, h => by
    have h1 := h r (by simp)
    have h2 := rowT_len r h1.1
    have h3 := writeT_len (m := m) (s :: g) (fun x hx => h x (by simp [hx]))
    rw [writeT]
    simp only [List.length_append, List.length_cons, List.length_nil] at h3 ⊢
    rw [Nat.mul_add (4 * m + 3) (g.length + 1) 1]
    omega
theorem writeT_step {g : Grid} (h : 2 ≤ g.length) : writeT g = [40] ++ rowT (g.getD 0 []) ++ [45] ++ writeT (g.drop 1) ++ [41] := by
  match g, h with
  | r :: s :: g, _ => rfl
theorem writeT_one {g : Grid} (h : g.length = 1) : writeT g = rowT (g.getD 0 []) := by
  match g, h with
  | [r], _ => rfl
theorem drop_step {g : Grid} {i : Nat} (h : i + 1 < g.length) : writeT (g.drop i) = [40] ++ rowT (g.getD i []) ++ [45] ++ writeT (g.drop (i + 1)) ++ [41] := by
  rw [writeT_step (by rw [List.length_drop]; omega), List.drop_drop]
  have : (g.drop i).getD 0 [] = g.getD i [] := by simp [List.getD_eq_getElem?_getD]
  rw [this]
theorem drop_last {g : Grid} {i : Nat} (h : i + 1 = g.length) : writeT (g.drop i) = rowT (g.getD i []) := by
  rw [writeT_one (by rw [List.length_drop]; omega)]
  have : (g.drop i).getD 0 [] = g.getD i [] := by simp [List.getD_eq_getElem?_getD]
  rw [this]
def termOf (g : Grid) : Str × Bool := if gridIn g = true ∧ (writeT g).length ≤ 60 then (writeT g, true) else ([], false)
theorem termOf_not {g : Grid} (h : ¬ (gridIn g = true ∧ (writeT g).length ≤ 60)) : termOf g = ([], false) := by rw [termOf, if_neg h]
theorem termOf_at {g : Grid} (h : gridIn g = true) (h2 : (writeT g).length ≤ 60) : termOf g = (writeT g, true) := by rw [termOf, if_pos ⟨h, h2⟩]
theorem GridOk.rows {g : Grid} (h : GridOk g) : ∀ r ∈ g, 0 < r.length ∧ r.length ≤ 5 := fun r hr => by
  obtain ⟨i, hi, rfl⟩ := List.getElem_of_mem hr
  have := h.row i hi
  rw [List.getD_eq_getElem?_getD, List.getElem?_eq_getElem hi, Option.getD_some] at this
  have := h.m1
  have := h.m5
  omega
theorem Sl.drop {α : Type} {r : Rep α} {w : World} {b off : Nat} {l : List α} (h1 : r.sz = 1) (h : Sl r w (some ⟨b, off, none⟩) l) (k : Nat) : Sl r w (some ⟨b, off + k * 1, none⟩) (l.drop k) := by
  refine ⟨by have := h.1; rw [List.length_drop]; omega, .inr ⟨b, off + k * 1, rfl, fun j u hu => ?_⟩⟩
  rcases h.2 with rfl | ⟨b', off', e, hc⟩
  · simp at hu
  · cases e
    rw [flat_one h1, List.map_drop, List.getElem?_drop] at hu
    have := hc (k + j) u (by rw [flat_one h1]; exact hu)
    rw [Nat.mul_one, Nat.add_assoc]; exact this

theorem irow1 (row : Str) (w : World) (ih : ∀ (r : Str) (w2 : World), r.length < row.length → 1 ≤ r.length → Fn Try.prog 61 [vstr r] w2 (fun v w3 => v = vstr (rowT r) ∧ Dr w2 w3)) (h1 : 1 ≤ row.length) (h5 : row.length ≤ 5) : Fn Try.prog 61 [vstr row] w (fun v w1 => v = vstr (rowT row) ∧ Dr w w1) := by
  refine Fn.enter (n := 16) Try.func61 rfl rfl rfl ?_
  show WC _ _ _ _ [(0, vstr row)] _
  have hD := Dr.refl w
  refine WC.seq ?_
  refine WC.region ?_
  refine WL.u rfl rfl (Wt.plain rfl) (Ex.assign rfl) ?_
  refine WL.next ?_
  refine WC.seq ?_
  refine WC.seq ?_
  refine WC.region ?_
  refine WL.u rfl rfl (Wt.plain rfl) (Ex.move rfl) ?_
  refine WL.u rfl rfl (Wt.plain rfl) (Ex.lenStr Try.underlying9 rfl) ?_
  refine WL.u rfl rfl (Wt.plain rfl) (Ex.eql rfl rfl) ?_
  refine WL.next ?_
  refine WC.cond rfl (fun hc1 => ?_) (fun hc1 => ?_)
  · have hc1' := hc1; try simp only [decide_eq_true_eq, decide_eq_false_iff_not, Bool.not_eq_true', Bool.not_eq_false', Bool.not_eq_true, Bool.not_eq_false] at hc1'
    refine WC.seq ?_
    refine WC.region ?_
    refine WL.u rfl rfl (Wt.plain rfl) (Ex.move rfl) ?_
    refine WL.u rfl rfl (Wt.plain rfl) (Ex.assign rfl) ?_
    refine WL.next ?_
    refine WC.ret ?_
    refine WN.retThen ?_
    refine WN.body1 rfl rfl ?_
    exact ⟨by rw [rowT_one (by omega)], hD⟩
  have hc1' := hc1; try simp only [decide_eq_true_eq, decide_eq_false_iff_not, Bool.not_eq_true', Bool.not_eq_false', Bool.not_eq_true, Bool.not_eq_false] at hc1'
  have hrl := rowT_len (row.drop 1) (by rw [List.length_drop]; omega)
  rw [List.length_drop] at hrl
  refine WC.skip ?_
  refine WN.next ?_
  refine WC.seq ?_
  refine WC.quiet rfl (by kernel_rfl) ?_
  refine WQ.u rfl rfl (Wt.plain rfl) (fun w hC => Ex.move rfl) ?_
  refine WQ.u rfl rfl (Wt.plain rfl) (fun w hC => (Ex.sliceStrTo Try.underlying9 rfl rfl (by omega)).to ((show _ = vstr (row.take 1) from rfl))) ?_
  refine WQ.u rfl rfl (Wt.plain rfl) (fun w hC => Ex.concat rfl rfl (by simp only [List.length_append, List.length_cons, List.length_nil, List.length_take, List.length_drop]; omega)) ?_
  refine WQ.u rfl rfl (Wt.plain rfl) (fun w hC => Ex.concat rfl rfl (by simp only [List.length_append, List.length_cons, List.length_nil, List.length_take, List.length_drop]; omega)) ?_
  refine WQ.u rfl rfl (Wt.plain rfl) (fun w hC => Ex.move rfl) ?_
  refine WQ.u rfl rfl (Wt.plain rfl) (fun w hC => (Ex.sliceStrFrom Try.underlying9 rfl rfl (by omega)).to ((show _ = vstr (row.drop 1) from rfl))) ?_
  refine WQ.call callable61 rfl (Wt.plain rfl) rfl rfl (fun w hC => Fn.r hC (ih (row.drop 1) _ (by rw [List.length_drop]; omega) (by rw [List.length_drop]; omega))) ?_
  refine WQ.u rfl rfl (Wt.plain rfl) (fun w hC => Ex.concat rfl rfl (by simp only [List.length_append, List.length_cons, List.length_nil, List.length_take, List.length_drop]; omega)) ?_
  refine WQ.u rfl rfl (Wt.plain rfl) (fun w hC => Ex.concat rfl rfl (by simp only [List.length_append, List.length_cons, List.length_nil, List.length_take, List.length_drop]; omega)) ?_
  refine WQ.u rfl rfl (Wt.plain rfl) (fun w hC => Ex.assign rfl) ?_
  refine WQ.nil ?_
  intro wn hC; replace hD := hD.trans hC; clear hC
  refine WN.next ?_
  refine WC.ret ?_
  refine WN.body1 rfl rfl ?_
  exact ⟨by rw [rowT_step (r := row) (by omega)], hD⟩


theorem irowTerm (f : Nat) : ∀ (row : Str) (w : World), row.length ≤ f → 1 ≤ row.length → row.length ≤ 5 → Fn Try.prog 61 [vstr row] w (fun v w1 => v = vstr (rowT row) ∧ Dr w w1) := by
  induction f with
  | zero => intro row w h h1 _; omega
  | succ f ih => exact fun row w h h1 h5 => irow1 row w (fun r w2 hr hr1 => ih r w2 (by omega) hr1 (by omega)) h1 h5

theorem srow1 (row : Str) (w : World) (ih : ∀ (r : Str) (w2 : World), r.length < row.length → 1 ≤ r.length → Fn Try.prog 89 [vstr r] w2 (fun v w3 => v = vstr (rowT r) ∧ Dr w2 w3)) (h1 : 1 ≤ row.length) (h5 : row.length ≤ 5) : Fn Try.prog 89 [vstr row] w (fun v w1 => v = vstr (rowT row) ∧ Dr w w1) := by
  refine Fn.enter (n := 16) Try.func89 rfl rfl rfl ?_
  show WC _ _ _ _ [(0, vstr row)] _
  have hD := Dr.refl w
  refine WC.seq ?_
  refine WC.region ?_
  refine WL.u rfl rfl (Wt.plain rfl) (Ex.assign rfl) ?_
  refine WL.next ?_
  refine WC.seq ?_
  refine WC.seq ?_
  refine WC.region ?_
  refine WL.u rfl rfl (Wt.plain rfl) (Ex.move rfl) ?_
  refine WL.u rfl rfl (Wt.plain rfl) (Ex.lenStr Try.underlying9 rfl) ?_
  refine WL.u rfl rfl (Wt.plain rfl) (Ex.eql rfl rfl) ?_
  refine WL.next ?_
  refine WC.cond rfl (fun hc1 => ?_) (fun hc1 => ?_)
  · have hc1' := hc1; try simp only [decide_eq_true_eq, decide_eq_false_iff_not, Bool.not_eq_true', Bool.not_eq_false', Bool.not_eq_true, Bool.not_eq_false] at hc1'
    refine WC.seq ?_
    refine WC.region ?_
    refine WL.u rfl rfl (Wt.plain rfl) (Ex.move rfl) ?_
    refine WL.u rfl rfl (Wt.plain rfl) (Ex.assign rfl) ?_
    refine WL.next ?_
    refine WC.ret ?_
    refine WN.retThen ?_
    refine WN.body1 rfl rfl ?_
    exact ⟨by rw [rowT_one (by omega)], hD⟩
  have hc1' := hc1; try simp only [decide_eq_true_eq, decide_eq_false_iff_not, Bool.not_eq_true', Bool.not_eq_false', Bool.not_eq_true, Bool.not_eq_false] at hc1'
  have hrl := rowT_len (row.drop 1) (by rw [List.length_drop]; omega)
  rw [List.length_drop] at hrl
  refine WC.skip ?_
  refine WN.next ?_
  refine WC.seq ?_
  refine WC.quiet rfl (by kernel_rfl) ?_
  refine WQ.u rfl rfl (Wt.plain rfl) (fun w hC => Ex.move rfl) ?_
  refine WQ.u rfl rfl (Wt.plain rfl) (fun w hC => (Ex.sliceStrTo Try.underlying9 rfl rfl (by omega)).to ((show _ = vstr (row.take 1) from rfl))) ?_
  refine WQ.u rfl rfl (Wt.plain rfl) (fun w hC => Ex.concat rfl rfl (by simp only [List.length_append, List.length_cons, List.length_nil, List.length_take, List.length_drop]; omega)) ?_
  refine WQ.u rfl rfl (Wt.plain rfl) (fun w hC => Ex.concat rfl rfl (by simp only [List.length_append, List.length_cons, List.length_nil, List.length_take, List.length_drop]; omega)) ?_
  refine WQ.u rfl rfl (Wt.plain rfl) (fun w hC => Ex.move rfl) ?_
  refine WQ.u rfl rfl (Wt.plain rfl) (fun w hC => (Ex.sliceStrFrom Try.underlying9 rfl rfl (by omega)).to ((show _ = vstr (row.drop 1) from rfl))) ?_
  refine WQ.call callable89 rfl (Wt.plain rfl) rfl rfl (fun w hC => Fn.r hC (ih (row.drop 1) _ (by rw [List.length_drop]; omega) (by rw [List.length_drop]; omega))) ?_
  refine WQ.u rfl rfl (Wt.plain rfl) (fun w hC => Ex.concat rfl rfl (by simp only [List.length_append, List.length_cons, List.length_nil, List.length_take, List.length_drop]; omega)) ?_
  refine WQ.u rfl rfl (Wt.plain rfl) (fun w hC => Ex.concat rfl rfl (by simp only [List.length_append, List.length_cons, List.length_nil, List.length_take, List.length_drop]; omega)) ?_
  refine WQ.u rfl rfl (Wt.plain rfl) (fun w hC => Ex.assign rfl) ?_
  refine WQ.nil ?_
  intro wn hC; replace hD := hD.trans hC; clear hC
  refine WN.next ?_
  refine WC.ret ?_
  refine WN.body1 rfl rfl ?_
  exact ⟨by rw [rowT_step (r := row) (by omega)], hD⟩


theorem srowTerm (f : Nat) : ∀ (row : Str) (w : World), row.length ≤ f → 1 ≤ row.length → row.length ≤ 5 → Fn Try.prog 89 [vstr row] w (fun v w1 => v = vstr (rowT row) ∧ Dr w w1) := by
  induction f with
  | zero => intro row w h h1 _; omega
  | succ f ih => exact fun row w h h1 h5 => srow1 row w (fun r w2 hr hr1 => ih r w2 (by omega) hr1 (by omega)) h1 h5

theorem iTermOf (g : Grid) (a : Option Addr) (cap : Nat) (w : World) (hg : Sl rStr w a g) (hs : Short g) : Fn Try.prog 22 [.slice a g.length cap] w (fun v w1 => v = .tuple #[vstr (termOf g).1, .bool (termOf g).2] ∧ Dr w w1) := by
  refine Fn.enter (n := 38) Try.func22 rfl rfl rfl ?_
  show WC _ _ _ _ [(0, .slice a g.length cap)] _
  have hD := Dr.refl w
  refine WC.seq ?_
  refine WC.region ?_
  refine WL.u rfl rfl (Wt.plain rfl) (Ex.assign rfl) ?_
  refine WL.u rfl rfl (Wt.plain rfl) (Ex.assign rfl) ?_
  refine WL.next ?_
  refine WC.seq ?_
  refine WC.seq ?_
  refine WC.region ?_
  refine WL.u rfl rfl (Wt.plain rfl) (Ex.move rfl) ?_
  refine WL.call callable42 rfl (Wt.plain rfl) rfl rfl (iGridIn _ _ _ _ (hg.dr hD) hs) ?_
  rintro _ _ ⟨rfl, hw⟩; obtain rfl := hw.symm
  refine WL.u rfl rfl (Wt.plain rfl) (Ex.not rfl) ?_
  refine WL.next ?_
  refine WC.cond rfl (fun hc1 => ?_) (fun hc1 => ?_)
  · have hc1' := hc1; try simp only [decide_eq_true_eq, decide_eq_false_iff_not, Bool.not_eq_true', Bool.not_eq_false', Bool.not_eq_true, Bool.not_eq_false] at hc1'
    have hgi : gridIn g = false := by simpa using hc1
    refine WC.seq ?_
    refine WC.region ?_
    refine WL.u rfl rfl (Wt.plain rfl) (Ex.assign rfl) ?_
    refine WL.u rfl rfl (Wt.plain rfl) (Ex.assign rfl) ?_
    refine WL.next ?_
    refine WC.ret ?_
    refine WN.retThen ?_
    refine WN.body2 rfl rfl rfl ?_
    exact ⟨by rw [termOf_not (fun h => by rw [hgi] at h; cases h.1)] <;> rfl, hD⟩
  have hc1' := hc1; try simp only [decide_eq_true_eq, decide_eq_false_iff_not, Bool.not_eq_true', Bool.not_eq_false', Bool.not_eq_true, Bool.not_eq_false] at hc1'
  have hgi : gridIn g = true := by simpa using hc1
  have hG := (gridOk_iff g).1 hgi
  have hn1 := hG.n1
  have hn5 := hG.n5
  have hm1 := hG.m1
  have hm5 := hG.m5
  have hrow := hG.row
  obtain ⟨b, off, rfl⟩ := hg.addr (by omega)
  have hwl : ∀ i, (writeT (g.drop i)).length ≤ 115 := fun i => by have h := writeT_len (m := 5) (g.drop i) (fun r hr => hG.rows r (List.mem_of_mem_drop hr)); rw [List.length_drop] at h; have h2 : (4 * 5 + 3) * (g.length - i) ≤ 23 * 5 := Nat.mul_le_mul (Nat.le_refl _) (by omega); omega
  refine WC.skip ?_
  refine WN.next ?_
  refine WC.seq ?_
  refine WC.region ?_
  refine WL.u rfl rfl (Wt.plain rfl) (Ex.move rfl) ?_
  refine WL.u rfl rfl (Wt.plain rfl) (Ex.lenSl Try.underlying22 rfl) ?_
  refine WL.u rfl rfl (Wt.plain rfl) ((Ex.sub rfl rfl (by omega)).to (congrArg (Value.int IntKind.i64) (show _ = ((g.length - 1 : Nat) : Int) by omega))) ?_
  refine WL.u rfl rfl (Wt.plain rfl) (Ex.assign rfl) ?_
  refine WL.next ?_
  refine WC.seq ?_
  refine WC.region ?_
  refine WL.u rfl rfl (Wt.plain rfl) (Ex.move rfl) ?_
  refine WL.u rfl rfl (Wt.plain rfl) (Ex.move rfl) ?_
  refine WL.u rfl rfl (Wt.plain rfl) (Ex.indexAddr Try.underlying22 ty9 rfl rfl (by omega)) ?_
  refine WL.u rfl rfl (Wt.plain rfl) (Ex.loadSl flat9 (hg.dr hD) rfl rfl (getD_get g (g.length - 1) [] (by omega))) ?_
  refine WL.call callable61 rfl (Wt.plain rfl) rfl rfl (irowTerm 5 (g.getD (g.length - 1) []) _ (by have := hrow (g.length - 1) (by omega); omega) (by have := hrow (g.length - 1) (by omega); omega) (by have := hrow (g.length - 1) (by omega); omega)) ?_
  rintro _ wn ⟨rfl, hC⟩; replace hD := hD.trans hC; clear hC
  refine WL.u rfl rfl (Wt.plain rfl) (Ex.assign rfl) ?_
  refine WL.next ?_
  refine WC.seq ?_
  refine WC.seq ?_
  refine WC.region ?_
  refine WL.u rfl rfl (Wt.plain rfl) (Ex.move rfl) ?_
  refine WL.u rfl rfl (Wt.plain rfl) (Ex.sub rfl rfl (by omega)) ?_
  refine WL.u rfl rfl (Wt.plain rfl) (Ex.assign rfl) ?_
  refine WL.next ?_
  refine WC.block ?_
  refine WC.loop (ι := Nat) (fun i => [(0, .slice (some ⟨b, off, none⟩) g.length cap), (5, vstr (writeT (g.drop i))), (6, vint ((i : Int) - 1))]) (fun i wn => Dr w wn ∧ i + 1 ≤ g.length) (fun i => i) (g.length - 1) (by exact ⟨rfl, congrArg (fun x => some (vstr x)) (drop_last (by omega)).symm, congrArg (fun x : Int => some (vint x)) (show _ = _ by omega), trivial⟩) ?_ ?_
  · exact ⟨hD, by omega⟩
  rintro i wn ⟨hD, hi⟩
  have hwi := hwl i
  intro mu0 hmu; try dsimp only at hmu
  show WC _ _ _ _ [(0, .slice (some ⟨b, off, none⟩) g.length cap), (5, vstr (writeT (g.drop i))), (6, vint ((i : Int) - 1))] _
  refine WC.seq ?_
  refine WC.seq ?_
  refine WC.region ?_
  refine WL.u rfl rfl (Wt.plain rfl) (Ex.move rfl) ?_
  refine WL.u rfl rfl (Wt.plain rfl) (Ex.geq rfl rfl) ?_
  refine WL.next ?_
  refine WC.cond rfl (fun hc2 => ?_) (fun hc2 => ?_)
  · have hc2' := hc2; try simp only [decide_eq_true_eq, decide_eq_false_iff_not, Bool.not_eq_true', Bool.not_eq_false', Bool.not_eq_true, Bool.not_eq_false] at hc2'
    obtain ⟨i1, rfl⟩ : ∃ k, i = k + 1 := ⟨i - 1, by omega⟩
    rw [show ((i1 + 1 : Nat) : Int) - 1 = (i1 : Int) by omega]
    have hri := hrow i1 (by omega)
    have hrl := rowT_len (g.getD i1 []) (by omega)
    refine WC.skip ?_
    refine WN.next ?_
    refine WC.seq ?_
    refine WC.block ?_
    refine WC.region ?_
    refine WL.u rfl rfl (Wt.plain rfl) (Ex.move rfl) ?_
    refine WL.u rfl rfl (Wt.plain rfl) (Ex.move rfl) ?_
    refine WL.u rfl rfl (Wt.plain rfl) (Ex.indexAddr Try.underlying22 ty9 rfl rfl (by omega)) ?_
    refine WL.u rfl rfl (Wt.plain rfl) (Ex.loadSl flat9 (hg.dr hD) rfl rfl (getD_get g i1 [] (by omega))) ?_
    refine WL.call callable61 rfl (Wt.plain rfl) rfl rfl (irowTerm 5 (g.getD i1 []) _ (by omega) (by omega) (by omega)) ?_
    rintro _ wn ⟨rfl, hC⟩; replace hD := hD.trans hC; clear hC
    refine WL.u rfl rfl (Wt.plain rfl) (Ex.concat rfl rfl (by simp only [List.length_append, List.length_cons, List.length_nil, List.length_take, List.length_drop]; omega)) ?_
    refine WL.u rfl rfl (Wt.plain rfl) (Ex.concat rfl rfl (by simp only [List.length_append, List.length_cons, List.length_nil, List.length_take, List.length_drop]; omega)) ?_
    refine WL.u rfl rfl (Wt.plain rfl) (Ex.move rfl) ?_
    refine WL.u rfl rfl (Wt.plain rfl) (Ex.concat rfl rfl (by simp only [List.length_append, List.length_cons, List.length_nil, List.length_take, List.length_drop]; omega)) ?_
    refine WL.u rfl rfl (Wt.plain rfl) (Ex.concat rfl rfl (by simp only [List.length_append, List.length_cons, List.length_nil, List.length_take, List.length_drop]; omega)) ?_
    refine WL.u rfl rfl (Wt.plain rfl) (Ex.assign rfl) ?_
    refine WL.last ?_
    refine WN.normalBlock ?_
    refine WN.next ?_
    refine WC.region ?_
    refine WL.u rfl rfl (Wt.plain rfl) (Ex.move rfl) ?_
    refine WL.u rfl rfl (Wt.plain rfl) (Ex.sub rfl rfl (by omega)) ?_
    refine WL.u rfl rfl (Wt.plain rfl) (Ex.assign rfl) ?_
    refine WL.last ?_
    refine WN.round i1 (by exact ⟨rfl, congrArg (fun x => some (vstr x)) (show _ = writeT (g.drop i1) by rw [drop_step (i := i1) (by omega)]), rfl, trivial⟩) ?_ ?_
    · exact ⟨hD, by omega⟩
    · (try dsimp only); omega
  have hc2' := hc2; try simp only [decide_eq_true_eq, decide_eq_false_iff_not, Bool.not_eq_true', Bool.not_eq_false', Bool.not_eq_true, Bool.not_eq_false] at hc2'
  obtain rfl : i = 0 := by omega
  rw [List.drop_zero] at *
  refine WC.exit ?_
  refine WN.exitThen ?_
  refine WN.exitThen ?_
  refine WN.exitHere ?_
  refine WN.next ?_
  refine WC.seq ?_
  refine WC.seq ?_
  refine WC.region ?_
  refine WL.u rfl rfl (Wt.plain rfl) (Ex.move rfl) ?_
  refine WL.u rfl rfl (Wt.plain rfl) (Ex.lenStr Try.underlying9 rfl) ?_
  refine WL.u rfl rfl (Wt.plain rfl) (Ex.gtr rfl rfl) ?_
  refine WL.next ?_
  refine WC.cond rfl (fun hc3 => ?_) (fun hc3 => ?_)
  · have hc3' := hc3; try simp only [decide_eq_true_eq, decide_eq_false_iff_not, Bool.not_eq_true', Bool.not_eq_false', Bool.not_eq_true, Bool.not_eq_false] at hc3'
    refine WC.seq ?_
    refine WC.region ?_
    refine WL.u rfl rfl (Wt.plain rfl) (Ex.assign rfl) ?_
    refine WL.u rfl rfl (Wt.plain rfl) (Ex.assign rfl) ?_
    refine WL.next ?_
    refine WC.ret ?_
    refine WN.retThen ?_
    refine WN.body2 rfl rfl rfl ?_
    exact ⟨by rw [termOf_not (fun h => by have := h.2; omega)] <;> rfl, hD⟩
  have hc3' := hc3; try simp only [decide_eq_true_eq, decide_eq_false_iff_not, Bool.not_eq_true', Bool.not_eq_false', Bool.not_eq_true, Bool.not_eq_false] at hc3'
  refine WC.skip ?_
  refine WN.next ?_
  refine WC.seq ?_
  refine WC.region ?_
  refine WL.u rfl rfl (Wt.plain rfl) (Ex.move rfl) ?_
  refine WL.u rfl rfl (Wt.plain rfl) (Ex.assign rfl) ?_
  refine WL.u rfl rfl (Wt.plain rfl) (Ex.assign rfl) ?_
  refine WL.next ?_
  refine WC.ret ?_
  refine WN.body2 rfl rfl rfl ?_
  exact ⟨by rw [termOf_at hgi (by omega)] <;> rfl, hD⟩

theorem swrite1 (g : Grid) (b off cap : Nat) (w : World) (ih : ∀ (h : Grid) (b2 off2 cap2 : Nat) (w2 : World), h.length < g.length → 1 ≤ h.length → h.length ≤ cap2 → (∀ r ∈ h, 0 < r.length ∧ r.length ≤ 5) → Sl rStr w2 (some ⟨b2, off2, none⟩) h → Fn Try.prog 60 [.slice (some ⟨b2, off2, none⟩) h.length cap2] w2 (fun v w3 => v = vstr (writeT h) ∧ Dr w2 w3)) (hg : Sl rStr w (some ⟨b, off, none⟩) g) (h1 : 1 ≤ g.length) (h5 : g.length ≤ 5) (hcap : g.length ≤ cap) (hr : ∀ r ∈ g, 0 < r.length ∧ r.length ≤ 5) : Fn Try.prog 60 [.slice (some ⟨b, off, none⟩) g.length cap] w (fun v w1 => v = vstr (writeT g) ∧ Dr w w1) := by
  refine Fn.enter (n := 21) Try.func60 rfl rfl rfl ?_
  show WC _ _ _ _ [(0, .slice (some ⟨b, off, none⟩) g.length cap)] _
  have hD := Dr.refl w
  have hget := getD_get g 0 [] (by omega)
  have hr0 := hr _ (List.mem_of_getElem? hget)
  have hrl := rowT_len (g.getD 0 []) hr0.1
  have hwl : (writeT (g.drop 1)).length ≤ 115 := by have h := writeT_len (m := 5) (g.drop 1) (fun r h => hr r (List.mem_of_mem_drop h)); rw [List.length_drop] at h; have h2 : (4 * 5 + 3) * (g.length - 1) ≤ 23 * 5 := Nat.mul_le_mul (Nat.le_refl _) (by omega); omega
  refine WC.seq ?_
  refine WC.region ?_
  refine WL.u rfl rfl (Wt.plain rfl) (Ex.assign rfl) ?_
  refine WL.next ?_
  refine WC.seq ?_
  refine WC.seq ?_
  refine WC.region ?_
  refine WL.u rfl rfl (Wt.plain rfl) (Ex.move rfl) ?_
  refine WL.u rfl rfl (Wt.plain rfl) (Ex.lenSl Try.underlying22 rfl) ?_
  refine WL.u rfl rfl (Wt.plain rfl) (Ex.eql rfl rfl) ?_
  refine WL.next ?_
  refine WC.cond rfl (fun hc1 => ?_) (fun hc1 => ?_)
  · have hc1' := hc1; try simp only [decide_eq_true_eq, decide_eq_false_iff_not, Bool.not_eq_true', Bool.not_eq_false', Bool.not_eq_true, Bool.not_eq_false] at hc1'
    refine WC.seq ?_
    refine WC.region ?_
    refine WL.u rfl rfl (Wt.plain rfl) (Ex.move rfl) ?_
    refine WL.u rfl rfl (Wt.plain rfl) (Ex.indexAddr Try.underlying22 ty9 rfl rfl (by omega)) ?_
    refine WL.u rfl rfl (Wt.plain rfl) (Ex.loadSl flat9 (hg.dr hD) rfl rfl (hget)) ?_
    refine WL.call callable89 rfl (Wt.plain rfl) rfl rfl (srowTerm 5 (g.getD 0 []) _ (by omega) (by omega) (by omega)) ?_
    rintro _ wn ⟨rfl, hC⟩; replace hD := hD.trans hC; clear hC
    refine WL.u rfl rfl (Wt.plain rfl) (Ex.assign rfl) ?_
    refine WL.next ?_
    refine WC.ret ?_
    refine WN.retThen ?_
    refine WN.body1 rfl rfl ?_
    exact ⟨by rw [writeT_one (by omega)], hD⟩
  have hc1' := hc1; try simp only [decide_eq_true_eq, decide_eq_false_iff_not, Bool.not_eq_true', Bool.not_eq_false', Bool.not_eq_true, Bool.not_eq_false] at hc1'
  refine WC.skip ?_
  refine WN.next ?_
  refine WC.seq ?_
  refine WC.quiet rfl (by kernel_rfl) ?_
  refine WQ.u rfl rfl (Wt.plain rfl) (fun w hC => Ex.move rfl) ?_
  refine WQ.u rfl rfl (Wt.plain rfl) (fun w hC => Ex.indexAddr Try.underlying22 ty9 rfl rfl (by omega)) ?_
  refine WQ.u rfl rfl (Wt.plain rfl) (fun w hC => Ex.loadSl flat9 (hg.dr (hD.trans hC)) rfl rfl (hget)) ?_
  refine WQ.call callable89 rfl (Wt.plain rfl) rfl rfl (fun w hC => Fn.r hC (srowTerm 5 (g.getD 0 []) _ (by omega) (by omega) (by omega))) ?_
  refine WQ.u rfl rfl (Wt.plain rfl) (fun w hC => Ex.concat rfl rfl (by simp only [List.length_append, List.length_cons, List.length_nil, List.length_take, List.length_drop]; omega)) ?_
  refine WQ.u rfl rfl (Wt.plain rfl) (fun w hC => Ex.concat rfl rfl (by simp only [List.length_append, List.length_cons, List.length_nil, List.length_take, List.length_drop]; omega)) ?_
  refine WQ.u rfl rfl (Wt.plain rfl) (fun w hC => Ex.move rfl) ?_
  refine WQ.u rfl rfl (Wt.plain rfl) (fun w hC => (Ex.sliceFrom (i := 1) Try.underlying22 ty9 rfl rfl (by omega) (by omega)).to (show _ = Value.slice (some ⟨b, off + 1 * 1, none⟩) (g.drop 1).length (cap - 1) by rw [List.length_drop])) ?_
  refine WQ.call callable60 rfl (Wt.plain rfl) rfl rfl (fun w hC => Fn.r hC (ih (g.drop 1) b (off + 1 * 1) (cap - 1) _ (by rw [List.length_drop]; omega) (by rw [List.length_drop]; omega) (by rw [List.length_drop]; omega) (fun r h => hr r (List.mem_of_mem_drop h)) (Sl.drop rfl (hg.dr (hD.trans hC)) 1))) ?_
  refine WQ.u rfl rfl (Wt.plain rfl) (fun w hC => Ex.concat rfl rfl (by simp only [List.length_append, List.length_cons, List.length_nil, List.length_take, List.length_drop]; omega)) ?_
  refine WQ.u rfl rfl (Wt.plain rfl) (fun w hC => Ex.concat rfl rfl (by simp only [List.length_append, List.length_cons, List.length_nil, List.length_take, List.length_drop]; omega)) ?_
  refine WQ.u rfl rfl (Wt.plain rfl) (fun w hC => Ex.assign rfl) ?_
  refine WQ.nil ?_
  intro wn hC; replace hD := hD.trans hC; clear hC
  refine WN.next ?_
  refine WC.ret ?_
  refine WN.body1 rfl rfl ?_
  exact ⟨by rw [writeT_step (g := g) (by omega)], hD⟩


theorem swriteTerm (f : Nat) : ∀ (g : Grid) (b off cap : Nat) (w : World), g.length ≤ f → 1 ≤ g.length → g.length ≤ 5 → g.length ≤ cap → (∀ r ∈ g, 0 < r.length ∧ r.length ≤ 5) → Sl rStr w (some ⟨b, off, none⟩) g → Fn Try.prog 60 [.slice (some ⟨b, off, none⟩) g.length cap] w (fun v w1 => v = vstr (writeT g) ∧ Dr w w1) := by
  induction f with
  | zero => intro g b off cap w h h1; omega
  | succ f ih => exact fun g b off cap w h h1 h5 hc hr hg => swrite1 g b off cap w (fun g2 b2 off2 cap2 w2 k1 k2 k3 k4 k5 => ih g2 b2 off2 cap2 w2 (by omega) k2 (by omega) k3 k4 k5) hg h1 h5 hc hr

theorem sTermOf (g : Grid) (a : Option Addr) (cap : Nat) (w : World) (hg : Sl rStr w a g) (hs : Short g) (hcap : g.length ≤ cap) : Fn Try.prog 20 [.slice a g.length cap] w (fun v w1 => v = .tuple #[vstr (termOf g).1, .bool (termOf g).2] ∧ Dr w w1) := by
  refine Fn.enter (n := 14) Try.func20 rfl rfl rfl ?_
  show WC _ _ _ _ [(0, .slice a g.length cap)] _
  have hD := Dr.refl w
  refine WC.seq ?_
  refine WC.region ?_
  refine WL.u rfl rfl (Wt.plain rfl) (Ex.assign rfl) ?_
  refine WL.u rfl rfl (Wt.plain rfl) (Ex.assign rfl) ?_
  refine WL.next ?_
  refine WC.seq ?_
  refine WC.seq ?_
  refine WC.region ?_
  refine WL.u rfl rfl (Wt.plain rfl) (Ex.move rfl) ?_
  refine WL.call callable59 rfl (Wt.plain rfl) rfl rfl (sGridIn _ _ _ _ (hg.dr hD) hs) ?_
  rintro _ wn ⟨rfl, hC⟩; replace hD := hD.trans hC; clear hC
  refine WL.u rfl rfl (Wt.plain rfl) (Ex.not rfl) ?_
  refine WL.next ?_
  refine WC.cond rfl (fun hc1 => ?_) (fun hc1 => ?_)
  · have hc1' := hc1; try simp only [decide_eq_true_eq, decide_eq_false_iff_not, Bool.not_eq_true', Bool.not_eq_false', Bool.not_eq_true, Bool.not_eq_false] at hc1'
    have hgi : gridIn g = false := by simpa using hc1
    refine WC.seq ?_
    refine WC.region ?_
    refine WL.u rfl rfl (Wt.plain rfl) (Ex.assign rfl) ?_
    refine WL.u rfl rfl (Wt.plain rfl) (Ex.assign rfl) ?_
    refine WL.next ?_
    refine WC.ret ?_
    refine WN.retThen ?_
    refine WN.body2 rfl rfl rfl ?_
    exact ⟨by rw [termOf_not (fun h => by rw [hgi] at h; cases h.1)] <;> rfl, hD⟩
  have hc1' := hc1; try simp only [decide_eq_true_eq, decide_eq_false_iff_not, Bool.not_eq_true', Bool.not_eq_false', Bool.not_eq_true, Bool.not_eq_false] at hc1'
  have hgi : gridIn g = true := by simpa using hc1
  have hG := (gridOk_iff g).1 hgi
  have hn1 := hG.n1
  have hn5 := hG.n5
  obtain ⟨b, off, rfl⟩ := hg.addr (by omega)
  refine WC.skip ?_
  refine WN.next ?_
  refine WC.seq ?_
  refine WC.region ?_
  refine WL.u rfl rfl (Wt.plain rfl) (Ex.move rfl) ?_
  refine WL.call callable60 rfl (Wt.plain rfl) rfl rfl (swriteTerm 5 g b off cap _ (by omega) (by omega) (by omega) hcap hG.rows (hg.dr hD)) ?_
  rintro _ wn ⟨rfl, hC⟩; replace hD := hD.trans hC; clear hC
  refine WL.u rfl rfl (Wt.plain rfl) (Ex.assign rfl) ?_
  refine WL.next ?_
  refine WC.seq ?_
  refine WC.seq ?_
  refine WC.region ?_
  refine WL.u rfl rfl (Wt.plain rfl) (Ex.move rfl) ?_
  refine WL.u rfl rfl (Wt.plain rfl) (Ex.lenStr Try.underlying9 rfl) ?_
  refine WL.u rfl rfl (Wt.plain rfl) (Ex.gtr rfl rfl) ?_
  refine WL.next ?_
  refine WC.cond rfl (fun hc2 => ?_) (fun hc2 => ?_)
  · have hc2' := hc2; try simp only [decide_eq_true_eq, decide_eq_false_iff_not, Bool.not_eq_true', Bool.not_eq_false', Bool.not_eq_true, Bool.not_eq_false] at hc2'
    refine WC.seq ?_
    refine WC.region ?_
    refine WL.u rfl rfl (Wt.plain rfl) (Ex.assign rfl) ?_
    refine WL.u rfl rfl (Wt.plain rfl) (Ex.assign rfl) ?_
    refine WL.next ?_
    refine WC.ret ?_
    refine WN.retThen ?_
    refine WN.body2 rfl rfl rfl ?_
    exact ⟨by rw [termOf_not (fun h => by have := h.2; omega)] <;> rfl, hD⟩
  have hc2' := hc2; try simp only [decide_eq_true_eq, decide_eq_false_iff_not, Bool.not_eq_true', Bool.not_eq_false', Bool.not_eq_true, Bool.not_eq_false] at hc2'
  refine WC.skip ?_
  refine WN.next ?_
  refine WC.seq ?_
  refine WC.region ?_
  refine WL.u rfl rfl (Wt.plain rfl) (Ex.move rfl) ?_
  refine WL.u rfl rfl (Wt.plain rfl) (Ex.assign rfl) ?_
  refine WL.u rfl rfl (Wt.plain rfl) (Ex.assign rfl) ?_
  refine WL.next ?_
  refine WC.ret ?_
  refine WN.body2 rfl rfl rfl ?_
  exact ⟨by rw [termOf_at hgi (by omega)] <;> rfl, hD⟩

theorem lawExactTermOf (g : Grid) (a : Option Addr) (cap : Nat) (w : World) (hg : Sl rStr w a g) (hs : Short g) : Fn Try.prog 3 [.slice a g.length cap] w (fun v w1 => v = .bool true ∧ Keep [] w w1) := by
  refine Fn.enter (n := 40) Try.func3 rfl rfl rfl ?_
  show WC _ _ _ _ [(0, .slice a g.length cap)] _
  have hH := Hp.start [] w
  refine WC.seq ?_
  refine WC.region ?_
  refine WL.u rfl rfl (Wt.plain rfl) (Ex.assign rfl) ?_
  refine WL.next ?_
  refine WC.seq ?_
  refine WC.region ?_
  refine WL.u rfl rfl (Wt.plain rfl) (Ex.assign rfl) ?_
  refine WL.next ?_
  refine WC.seq ?_
  refine WC.region ?_
  refine WL.u rfl rfl (Wt.plain rfl) (Ex.move rfl) ?_
  refine WL.u rfl rfl (Wt.plain rfl) (Ex.move rfl) ?_
  refine WL.call callable19 rfl (Wt.plain rfl) rfl rfl (szStringS g a cap 1048576 _ (hg.kept hH.keep) hs (by omega)) ?_
  rintro _ _ ⟨r, rfl, hw, hr⟩; obtain rfl := hw.symm
  refine WL.u rfl rfl (Wt.plain rfl) (Ex.assign rfl) ?_
  refine WL.next ?_
  refine WC.seq ?_
  refine WC.seq ?_
  refine WC.region ?_
  refine WL.u rfl rfl (Wt.plain rfl) (Ex.move rfl) ?_
  refine WL.u rfl rfl (Wt.plain rfl) (Ex.lss rfl rfl) ?_
  refine WL.next ?_
  refine WC.cond rfl (fun hc1 => ?_) (fun hc1 => ?_)
  · have hc1' := hc1; try simp only [decide_eq_true_eq, decide_eq_false_iff_not, Bool.not_eq_true', Bool.not_eq_false', Bool.not_eq_true, Bool.not_eq_false] at hc1'
    refine WC.seq ?_
    refine WC.region ?_
    refine WL.u rfl rfl (Wt.plain rfl) (Ex.assign rfl) ?_
    refine WL.next ?_
    refine WC.ret ?_
    refine WN.retThen ?_
    refine WN.body1 rfl rfl ?_
    exact ⟨rfl, hH.keep⟩
  have hc1' := hc1; try simp only [decide_eq_true_eq, decide_eq_false_iff_not, Bool.not_eq_true', Bool.not_eq_false', Bool.not_eq_true, Bool.not_eq_false] at hc1'
  have hr2 := hr (by omega)
  have hgl := hr2.1
  refine WC.skip ?_
  refine WN.next ?_
  refine WC.seq ?_
  refine WC.region ?_
  refine WL.u rfl rfl (Wt.plain rfl) (Ex.move rfl) ?_
  refine WL.call callable21 rfl (Wt.plain rfl) rfl rfl (toStringS _ _ _ _ (hg.kept hH.keep) hgl) ?_
  rintro _ wn ⟨hC, hN⟩; obtain ⟨b101, cap101, cur101, rfl, hge, hbb, ho101⟩ := hN.own; replace hH := hH.push hC hge hbb
  refine WL.call callable20 rfl (Wt.plain rfl) rfl rfl (sTermOf g _ _ _ (ho101.slAt hH 0 rfl) hs ho101.le) ?_
  rintro _ wn ⟨rfl, hC⟩; replace hH := hH.dr hC; clear hC
  refine WL.u rfl rfl (Wt.plain rfl) (Ex.move rfl) ?_
  refine WL.u rfl rfl (Wt.plain rfl) (Ex.extract rfl rfl) ?_
  refine WL.u rfl rfl (Wt.plain rfl) (Ex.extract rfl rfl) ?_
  refine WL.u rfl rfl (Wt.plain rfl) (Ex.assign rfl) ?_
  refine WL.u rfl rfl (Wt.plain rfl) (Ex.assign rfl) ?_
  refine WL.next ?_
  refine WC.seq ?_
  refine WC.region ?_
  refine WL.u rfl rfl (Wt.plain rfl) (Ex.move rfl) ?_
  refine WL.call callable21 rfl (Wt.plain rfl) rfl rfl (toStringS _ _ _ _ (hg.kept hH.keep) hgl) ?_
  rintro _ wn ⟨hC, hN⟩; obtain ⟨b102, cap102, cur102, rfl, hge, hbb, ho102⟩ := hN.own; replace hH := hH.push hC hge hbb
  refine WL.u rfl rfl (Wt.plain rfl) (Ex.assign rfl) ?_
  refine WL.next ?_
  refine WC.seq ?_
  refine WC.region ?_
  refine WL.u rfl rfl (Wt.plain rfl) (Ex.move rfl) ?_
  refine WL.call callable22 rfl (Wt.plain rfl) rfl rfl (iTermOf g _ _ _ (ho102.slAt hH 0 rfl) hs) ?_
  rintro _ wn ⟨rfl, hC⟩; replace hH := hH.dr hC; clear hC
  refine WL.u rfl rfl (Wt.plain rfl) (Ex.move rfl) ?_
  refine WL.u rfl rfl (Wt.plain rfl) (Ex.extract rfl rfl) ?_
  refine WL.u rfl rfl (Wt.plain rfl) (Ex.extract rfl rfl) ?_
  refine WL.u rfl rfl (Wt.plain rfl) (Ex.assign rfl) ?_
  refine WL.u rfl rfl (Wt.plain rfl) (Ex.assign rfl) ?_
  refine WL.next ?_
  refine WC.seq ?_
  refine WC.seq ?_
  refine WC.region ?_
  refine WL.u rfl rfl (Wt.plain rfl) (Ex.move rfl) ?_
  refine WL.u rfl rfl (Wt.plain rfl) (Ex.move rfl) ?_
  refine WL.u rfl rfl (Wt.plain rfl) (Ex.neqStr rfl rfl) ?_
  refine WL.u rfl rfl (Wt.plain rfl) (Ex.move rfl) ?_
  refine WL.split (t := 30) rfl (fun hg8_3 => ?_) (fun hg8_3 => ?_)
  · exfalso; simp at hg8_3
  have hg8_3' := hg8_3; try simp only [decide_eq_true_eq, decide_eq_false_iff_not, Bool.not_eq_true', Bool.not_eq_false', Bool.not_eq_true, Bool.not_eq_false] at hg8_3'
  refine WL.u rfl rfl (Wt.guard' rfl rfl rfl hg8_3 rfl) (Ex.move rfl) ?_
  refine WL.u rfl rfl (Wt.guard' rfl rfl rfl hg8_3 rfl) (Ex.move rfl) ?_
  refine WL.u rfl rfl (Wt.guard' rfl rfl rfl hg8_3 rfl) (Ex.neqB Try.underlying4 rfl rfl) ?_
  refine WL.u rfl rfl (Wt.plain rfl) (Ex.pickF rfl hg8_3 rfl) ?_
  refine WL.next ?_
  refine WC.condF rfl (by simp) ?_
  refine WC.skip ?_
  refine WN.next ?_
  refine WC.seq ?_
  refine WC.seq ?_
  refine WC.region ?_
  refine WL.u rfl rfl (Wt.plain rfl) (Ex.move rfl) ?_
  refine WL.u rfl rfl (Wt.plain rfl) (Ex.move rfl) ?_
  refine WL.call callable21 rfl (Wt.plain rfl) rfl rfl (toStringS _ _ _ _ (hg.kept hH.keep) hgl) ?_
  rintro _ wn ⟨hC, hN⟩; obtain ⟨b103, cap103, cur103, rfl, hge, hbb, ho103⟩ := hN.own; replace hH := hH.push hC hge hbb
  refine WL.call callable23 rfl (Wt.plain rfl) rfl rfl (eqStringS g g _ _ _ _ _ (ho102.slAt hH 1 rfl) (ho103.slAt hH 0 rfl)) ?_
  rintro _ wn ⟨rfl, hC⟩; replace hH := hH.dr hC; clear hC
  refine WL.u rfl rfl (Wt.plain rfl) (Ex.not rfl) ?_
  refine WL.next ?_
  refine WC.condF rfl (by simp) ?_
  refine WC.skip ?_
  refine WN.next ?_
  refine WC.seq ?_
  refine WC.region ?_
  refine WL.u rfl rfl (Wt.plain rfl) (Ex.assign rfl) ?_
  refine WL.next ?_
  refine WC.ret ?_
  refine WN.body1 rfl rfl ?_
  exact ⟨rfl, hH.keep⟩

end Go.Proofs.Ytnilefmlbedfcaa
