/- Going along a beam and trying letters at cells that are met for the first time: it finds the least cost. -/
import Derived.Test.YtmhmdlgcdeodmaaDoorBound
namespace Go.Proofs.YtmhmdlgcdeodmaaDoor
set_option maxRecDepth 100000
set_option linter.unusedSimpArgs false
set_option linter.unusedVariables false

/-- leaving a cell with the letters as they are: out at a port, or on -/
def leaveW (rec : Grid → List Bool → Nat × Nat → Nat → Nat → Nat) (q : Nat) (h : Grid) (F : List Bool) (s : Nat × Nat) (c b : Nat) : Nat :=
  if b ≤ c then b else match afterN h s with
    | .inl e => if e = q then c else b
    | .inr s' => rec h F s' c b
def cst (h : Grid) (cell : Nat) (x : UInt8) : Nat := if x = letter h cell then 0 else 1
def tryW (rec : Grid → List Bool → Nat × Nat → Nat → Nat → Nat) (q : Nat) (h : Grid) (F : List Bool) (s : Nat × Nat) (c : Nat) (x : UInt8) (b : Nat) : Nat :=
  leaveW rec q (putG h s.1 x) (F.set s.1 true) s (c + cst h s.1 x) b
/-- F: the cells that are fixed; c: what has been paid; b: the bound, 100 at first -/
def goM (q : Nat) : Nat → Grid → List Bool → Nat × Nat → Nat → Nat → Nat
  | 0, _, _, _, _, b => b
  | f + 1, h, F, s, c, b => if F.getD s.1 false = true then leaveW (goM q f) q h F s c b
      else tryW (goM q f) q h F s c 102 (tryW (goM q f) q h F s c 114 (tryW (goM q f) q h F s c 46 b))
theorem leaveW_le {rec : Grid → List Bool → Nat × Nat → Nat → Nat → Nat} (hr : ∀ h F s c b, rec h F s c b ≤ b) (q : Nat) (h : Grid) (F : List Bool) (s : Nat × Nat) (c b : Nat) : leaveW rec q h F s c b ≤ b := by
  unfold leaveW
  split
  · exact Nat.le_refl _
  · split
    · split <;> omega
    · exact hr _ _ _ _ _
theorem goM_le (q : Nat) : ∀ f h F s c b, goM q f h F s c b ≤ b
  | 0, _, _, _, _, b => Nat.le_refl _
  | f + 1, h, F, s, c, b => by
    unfold goM
    split
    · exact leaveW_le (goM_le q f) _ _ _ _ _ _
    · unfold tryW
      exact Nat.le_trans (leaveW_le (goM_le q f) _ _ _ _ _ _) (Nat.le_trans (leaveW_le (goM_le q f) _ _ _ _ _ _) (leaveW_le (goM_le q f) _ _ _ _ _ _))
theorem leaveW_prune {rec : Grid → List Bool → Nat × Nat → Nat → Nat → Nat} {q : Nat} {h : Grid} {F : List Bool} {s : Nat × Nat} {c b : Nat} (hb : b ≤ c) : leaveW rec q h F s c b = b := by
  unfold leaveW; rw [if_pos hb]
theorem goM_prune {q f : Nat} {h : Grid} {F : List Bool} {s : Nat × Nat} {c b : Nat} (hb : b ≤ c) : goM q f h F s c b = b := by
  cases f with
  | zero => rfl
  | succ f =>
    unfold goM tryW
    rw [leaveW_prune (b := b) (c := c + cst h s.1 46) (by omega), leaveW_prune (b := b) (c := c + cst h s.1 114) (by omega), leaveW_prune (b := b) (c := c + cst h s.1 102) (by omega), leaveW_prune hb]
    split <;> rfl

/-! grids that agree -/
structure Agree (F : List Bool) (h k : Grid) : Prop where
  n : nR k = nR h
  m : nC k = nC h
  at_ : ∀ cell, cell < nR h * nC h → F.getD cell false = true → letter k cell = letter h cell
theorem after_eq {h k : Grid} (hn : nR k = nR h) (hm : nC k = nC h) {s : Nat × Nat} (hl : letter k s.1 = letter h s.1) : afterN k s = afterN h s := by
  unfold afterN; rw [hn, hm, hl]
theorem putG_letter {h : Grid} {cell cell' : Nat} (hc : cell' < nR h * nC h) (x : UInt8) : letter (putG h cell x) cell' = if cell' = cell then x else letter h cell' := by
  have hm : 0 < nC h := by
    rcases Nat.eq_zero_or_pos (nC h) with h0 | h0
    · rw [h0, Nat.mul_zero] at hc; omega
    · exact h0
  unfold putG
  rw [gridOf_letter _ hc]
  have e : cell' / nC h * nC h + cell' % nC h = cell' := by rw [Nat.mul_comm]; exact Nat.div_add_mod _ _
  rw [e]; rfl
theorem grid_ext' {g h : Grid} (hg : GridOk g) (hh : GridOk h) (hn : nR g = nR h) (hm : nC g = nC h) (hl : ∀ cell, cell < nR g * nC g → letter g cell = letter h cell) : g = h := by
  refine grid_ext hg hh hn hm fun i k hi hk => ?_
  have hlt : i * nC g + k < nR g * nC g := by
    have : (i + 1) * nC g ≤ nR g * nC g := Nat.mul_le_mul_right _ hi
    rw [Nat.add_mul, Nat.one_mul] at this; omega
  have := hl _ hlt
  have hm0 := hg.m1
  have e1 : (i * nC g + k) / nC g = i := by rw [Nat.mul_comm, Nat.mul_add_div hm0, Nat.div_eq_of_lt hk, Nat.add_zero]
  have e2 : (i * nC g + k) % nC g = k := by rw [Nat.mul_comm, Nat.mul_add_mod, Nat.mod_eq_of_lt hk]
  unfold letter at this
  rw [← hm, e1, e2] at this
  exact this
theorem letter_ok {g : Grid} (hG : GridOk g) {cell : Nat} (hc : cell < nR g * nC g) : okL (letter g cell) = true := by
  have hm := hG.m1
  exact hG.ok _ (Nat.div_lt_of_lt_mul (by rw [Nat.mul_comm]; exact hc)) _ (Nat.mod_lt _ hm)
theorem putG_back {h : Grid} (hG : GridOk h) {cell : Nat} {x : UInt8} (hx : okL x = true) (hc : cell < nR h * nC h) {y : UInt8} (hy : y = letter h cell) : putG (putG h cell x) cell y = h := by
  have h1 := putG_ok hG cell hx
  have n1 := putG_nR h cell x
  have m1 := putG_nC hG cell x
  have hyo : okL y = true := by rw [hy]; exact letter_ok hG hc
  refine grid_ext' (putG_ok h1 cell hyo) hG (by rw [putG_nR, n1]) (by rw [putG_nC h1, m1]) fun cell' hc' => ?_
  rw [putG_nR, putG_nC h1, n1, m1] at hc'
  rw [putG_letter (by rw [n1, m1]; exact hc'), putG_letter hc']
  by_cases e : cell' = cell
  · rw [if_pos e, hy, e]
  · rw [if_neg e, if_neg e]
theorem putG_self {h : Grid} (hG : GridOk h) {cell : Nat} (hc : cell < nR h * nC h) : putG h cell (letter h cell) = h := by
  refine grid_ext' (putG_ok hG cell (letter_ok hG hc)) hG (putG_nR _ _ _) (putG_nC hG _ _) fun cell' hc' => ?_
  rw [putG_nR, putG_nC hG] at hc'
  rw [putG_letter hc']
  split
  · next e => rw [e]
  · rfl
theorem putG_putG {h : Grid} (hG : GridOk h) {cell : Nat} {x y : UInt8} (hx : okL x = true) (hy : okL y = true) (hc : cell < nR h * nC h) : putG (putG h cell x) cell y = putG h cell y := by
  have h1 := putG_ok hG cell hx
  have n1 := putG_nR h cell x
  have m1 := putG_nC hG cell x
  refine grid_ext' (putG_ok h1 cell hy) (putG_ok hG cell hy) (by rw [putG_nR, n1, putG_nR]) (by rw [putG_nC h1, m1, putG_nC hG]) fun cell' hc' => ?_
  rw [putG_nR, putG_nC h1, n1, m1] at hc'
  rw [putG_letter (by rw [n1, m1]; exact hc'), putG_letter hc', putG_letter hc']
  by_cases e : cell' = cell
  · rw [if_pos e, if_pos e]
  · rw [if_neg e, if_neg e, if_neg e]

/-! the way so far -/
theorem stepsN_congr {h k : Grid} (hn : nR k = nR h) (hm : nC k = nC h) : ∀ (j : Nat) (s t : Nat × Nat), stepsN h j s = some t → (∀ i, i < j → ∀ u, stepsN h i s = some u → letter k u.1 = letter h u.1) → stepsN k j s = some t
  | 0, s, t, e, _ => e
  | j + 1, s, t, e, hl => by
    rw [stepsN] at e ⊢
    have h0 := hl 0 (by omega) s rfl
    rw [after_eq hn hm h0]
    cases ha : afterN h s with
    | inl p => rw [ha] at e; cases e
    | inr s' =>
      rw [ha] at e
      refine stepsN_congr hn hm j s' t e fun i hi u hu => hl (i + 1) (by omega) u ?_
      rw [stepsN, ha]; exact hu
theorem leaves_none {g : Grid} : ∀ (f : Nat) (s : Nat × Nat), leaves g f s = true → stepsN g f s = none
  | 0, _, h => by cases h
  | f + 1, s, h => by
    unfold leaves at h
    rw [stepsN]
    cases e : afterN g s with
    | inl p => rfl
    | inr s' => rw [e] at h; exact leaves_none f s' h
/-- f steps are enough from s on: the way from the port p to s goes through fixed cells alone -/
def Enough (p f : Nat) (h : Grid) (F : List Bool) (s : Nat × Nat) : Prop :=
  ∃ k, k + f = 4 * (nR h * nC h) ∧ stepsN h k (enterN (nR h) (nC h) p) = some s ∧ ∀ j, j < k → ∀ t, stepsN h j (enterN (nR h) (nC h) p) = some t → F.getD t.1 false = true
theorem Enough.start {p : Nat} (h : Grid) (F : List Bool) : Enough p (4 * (nR h * nC h)) h F (enterN (nR h) (nC h) p) := ⟨0, by omega, rfl, fun j hj => by omega⟩
theorem Enough.pos {p f : Nat} {h : Grid} {F : List Bool} {s : Nat × Nat} (hG : GridOk h) (hp : p < ports h) (e : Enough p f h F s) : 0 < f := by
  obtain ⟨k, h1, h2, _⟩ := e
  rcases Nat.eq_zero_or_pos f with h0 | h0
  · exfalso
    subst h0
    have := leaves_none _ _ (way_leaves hG.sz hp)
    rw [show 4 * (nR h * nC h) = k by omega, h2] at this
    cases this
  · exact h0
theorem Enough.ok {p f : Nat} {h : Grid} {F : List Bool} {s : Nat × Nat} (hG : GridOk h) (hp : p < ports h) (e : Enough p f h F s) : Ok h s := by
  obtain ⟨k, _, h2, _⟩ := e
  exact stepsN_ok hG.sz k _ _ (enter_ok hG.sz hp) h2
theorem getD_set_true (F : List Bool) (i j : Nat) (h : F.getD j false = true) : (F.set i true).getD j false = true := by
  rw [List.getD_eq_getElem?_getD, List.getElem?_set]
  split
  · next e =>
    subst e
    split
    · rfl
    · next h2 => rw [List.getD_eq_getElem?_getD, List.getElem?_eq_none (by omega)] at h; cases h
  · rw [← List.getD_eq_getElem?_getD]; exact h
theorem getD_set_self (F : List Bool) {i : Nat} (h : i < F.length) : (F.set i true).getD i false = true := by
  rw [List.getD_eq_getElem?_getD, List.getElem?_set_self h]; rfl
theorem getD_set_other (F : List Bool) {i j : Nat} (h : i ≠ j) : (F.set i true).getD j false = F.getD j false := by
  rw [List.getD_eq_getElem?_getD, List.getElem?_set_ne h, ← List.getD_eq_getElem?_getD]
/-- on by a step -/
theorem Enough.next {p f : Nat} {h : Grid} {F : List Bool} {s s' : Nat × Nat} (e : Enough p (f + 1) h F s) (hs : F.getD s.1 false = true) (ha : afterN h s = .inr s') : Enough p f h F s' := by
  obtain ⟨k, h1, h2, h3⟩ := e
  refine ⟨k + 1, by omega, by rw [stepsN_succ, h2, Option.bind_some, ha], fun j hj t ht => ?_⟩
  rcases Nat.lt_succ_iff_lt_or_eq.1 hj with h4 | rfl
  · exact h3 j h4 t ht
  · rw [h2] at ht; cases ht; exact hs
/-- another letter at a cell that is not fixed -/
theorem Enough.put {p f : Nat} {h : Grid} {F : List Bool} {s : Nat × Nat} (hG : GridOk h) (hp : p < ports h) (hF : F.length = nR h * nC h) (e : Enough p f h F s) (hs : F.getD s.1 false = false) (x : UInt8) : Enough p f (putG h s.1 x) (F.set s.1 true) s := by
  have hok := e.ok hG hp
  obtain ⟨k, h1, h2, h3⟩ := e
  have n1 := putG_nR h s.1 x
  have m1 := putG_nC hG s.1 x
  have key : ∀ j, j ≤ k → ∀ t, stepsN h j (enterN (nR h) (nC h) p) = some t → stepsN (putG h s.1 x) j (enterN (nR h) (nC h) p) = some t := fun j hj t ht => by
    refine stepsN_congr n1 m1 j _ t ht fun i hi u hu => ?_
    have hu1 := h3 i (by omega) u hu
    have huo := stepsN_ok hG.sz i _ u (enter_ok hG.sz hp) hu
    rw [putG_letter huo.cell, if_neg]
    intro he
    rw [he, hs] at hu1; cases hu1
  refine ⟨k, by rw [n1, m1]; exact h1, by rw [n1, m1]; exact key k (Nat.le_refl _) s h2, fun j hj t ht => ?_⟩
  rw [n1, m1] at ht
  obtain ⟨u, hu⟩ : ∃ u, stepsN h j (enterN (nR h) (nC h) p) = some u := by
    obtain ⟨u, h4, _⟩ := stepsN_le h j (k - j) _ s (by rw [show j + (k - j) = k by omega]; exact h2)
    exact ⟨u, h4⟩
  rw [key j (by omega) u hu] at ht
  cases ht
  exact getD_set_true F _ _ (h3 j hj _ hu)
end Go.Proofs.YtmhmdlgcdeodmaaDoor
