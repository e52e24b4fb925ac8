/- Columns of a grid: the first ones, and one alone; they stand beside each other. -/
import Derived.Test.YtmlkabddhdkpaaaJnA
namespace Go.Proofs.Ytmlkabddhdkpaaa
set_option maxRecDepth 100000
set_option linter.unusedSimpArgs false
set_option linter.unusedVariables false
open Go Go.RowKit
def takeG (g : Grid) (c : Nat) : Grid := g.map fun r => r.take c
def colG (g : Grid) (c : Nat) : Grid := g.map fun r => (r.drop c).take 1
theorem takeG_get (g : Grid) (c i : Nat) : (takeG g c).getD i [] = (g.getD i []).take c := by
  unfold takeG
  rw [List.getD_eq_getElem?_getD, List.getElem?_map, List.getD_eq_getElem?_getD]
  cases g[i]? <;> simp
theorem colG_get (g : Grid) (c i : Nat) : (colG g c).getD i [] = ((g.getD i []).drop c).take 1 := by
  unfold colG
  rw [List.getD_eq_getElem?_getD, List.getElem?_map, List.getD_eq_getElem?_getD]
  cases g[i]? <;> simp
theorem takeG_ok {g : Grid} (h : GridOk g) {c : Nat} (h1 : 1 ≤ c) (h2 : c ≤ nC g) : GridOk (takeG g c) ∧ nR (takeG g c) = nR g ∧ nC (takeG g c) = c := by
  have hl : (takeG g c).length = g.length := by simp [takeG]
  have hr : ∀ i, i < g.length → ((takeG g c).getD i []).length = c := fun i hi => by
    rw [takeG_get, List.length_take, h.row i hi]
    unfold nC at h2; omega
  have h0 := hr 0 h.n1
  have h5 := h.m5
  unfold nC at h2
  refine ⟨⟨by rw [hl]; exact h.n1, by rw [hl]; exact h.n5, by rw [h0]; exact h1, by rw [h0]; omega, fun i hi => by rw [hl] at hi; rw [hr i hi, h0], fun i hi j hj => ?_⟩, hl, h0⟩
  rw [hl] at hi
  rw [h0] at hj
  rw [takeG_get, List.getD_eq_getElem?_getD, List.getElem?_take_of_lt hj, ← List.getD_eq_getElem?_getD]
  exact h.ok i hi j (by omega)
theorem colG_ok {g : Grid} (h : GridOk g) {c : Nat} (h2 : c < nC g) : GridOk (colG g c) ∧ nR (colG g c) = nR g ∧ nC (colG g c) = 1 := by
  have hl : (colG g c).length = g.length := by simp [colG]
  unfold nC at h2
  have hr : ∀ i, i < g.length → ((colG g c).getD i []).length = 1 := fun i hi => by
    rw [colG_get, List.length_take, List.length_drop, h.row i hi]
    omega
  have h0 := hr 0 h.n1
  refine ⟨⟨by rw [hl]; exact h.n1, by rw [hl]; exact h.n5, by rw [h0]; exact Nat.le_refl _, by rw [h0]; omega, fun i hi => by rw [hl] at hi; rw [hr i hi, h0], fun i hi j hj => ?_⟩, hl, h0⟩
  rw [hl] at hi
  rw [h0] at hj
  rw [colG_get, List.getD_eq_getElem?_getD, List.getElem?_take_of_lt hj, List.getElem?_drop, ← List.getD_eq_getElem?_getD]
  exact h.ok i hi _ (by omega)
theorem take_col {g : Grid} (h : GridOk g) (c : Nat) : besideG (takeG g c) (colG g c) = takeG g (c + 1) := by
  have hl : (takeG g c).length = g.length := by simp [takeG]
  refine List.ext_getElem? fun i => ?_
  unfold besideG
  rw [List.getElem?_map]
  show (List.range (takeG g c).length)[i]?.map _ = _
  rw [hl]
  by_cases hi : i < g.length
  · rw [List.getElem?_range hi]
    have e : (takeG g (c + 1))[i]? = some ((takeG g (c + 1)).getD i []) := getD_get _ i [] (by simp [takeG]; exact hi)
    rw [e, Option.map_some, takeG_get, takeG_get, colG_get, List.take_add]
  · rw [List.getElem?_eq_none (by simpa using hi), List.getElem?_eq_none (by simp [takeG]; omega)]; rfl
theorem take_all {g : Grid} (h : GridOk g) : takeG g (nC g) = g := by
  refine List.ext_getElem? fun i => ?_
  by_cases hi : i < g.length
  · have e1 : (takeG g (nC g))[i]? = some ((takeG g (nC g)).getD i []) := getD_get _ i [] (by simp [takeG]; exact hi)
    have e2 : g[i]? = some (g.getD i []) := getD_get _ i [] hi
    rw [e1, e2, takeG_get, List.take_of_length_le (by rw [h.row i hi]; exact Nat.le_refl _)]
  · rw [List.getElem?_eq_none (by simp [takeG]; omega), List.getElem?_eq_none (by omega)]
theorem take_one (g : Grid) : takeG g 1 = colG g 0 := by unfold takeG colG; simp
theorem take_jf {g : Grid} (h : GridOk g) {c : Nat} (h1 : 1 ≤ c) (h2 : c < nC g) : JF (besD (takeG g c) (colG g c)) (takeG g c) (colG g c) (nR g) c 1 ∧ (besD (takeG g c) (colG g c)).G = takeG g (c + 1) := by
  obtain ⟨a1, a2, a3⟩ := takeG_ok h h1 (Nat.le_of_lt h2)
  obtain ⟨b1, b2, b3⟩ := colG_ok h h2
  have hm5 : nC g ≤ 5 := h.m5
  have J := (Bs.jf ⟨a1, b1, by rw [a2, b2], by rw [a3, b3]; omega⟩ : JF (besD (takeG g c) (colG g c)) _ _ _ _ _)
  rw [a2, a3, b3] at J
  exact ⟨J, take_col h c⟩
section
variable {P : Program} {n : Nat} {σ : Env} {w : World}
variable {d : Option Nat} {ty : TypeId} {pos : String} {af : Array Edge} {g : Option (Nat × Bool)} {x y z : Operand} {t e : TypeId}
/-- s[0:j] -/
theorem Ex.slice0 {zz : Value} {sz by' len cap : Nat} {a : Option Addr} {k kl : IntKind} {i j : Int} (ht : P.underlying t = some (.slice e)) (he : Ty P e zz sz by') (hx : ev σ x = some (.slice a len cap)) (hy : ev σ y = some (.int kl i)) (hz : ev σ z = some (.int k j)) (hi : i = 0) (hb : 0 < j ∧ j ≤ cap) :
    Ex P n ⟨d, .slice t x (some y) (some z) none, ty, pos, af, g⟩ σ w (.slice a j.toNat cap) w := fun ac hac => by
  subst hi
  obtain ⟨i, h1, h2, h3, h4⟩ := he
  have ht' : P.underlying t = some (.slice (P.elem t)) := by rw [elem_of ht, ht]
  have := run_slice_lh (P := P) (w := w) t a len cap ht' kl k 0 j (by omega) (by omega) (by omega)
  rw [elem_of ht] at this
  simp [execOp, hac.evl hx, hac.evl hy, hac.evl hz, run_sliceAt_slice (h := ht'), this, sizeOf, typeInfo, h1, sliced]
  intro _
  cases a with
  | none => rfl
  | some q => simp [Addr.add]
end
end Go.Proofs.Ytmlkabddhdkpaaa
