/- Going along a beam and trying letters at cells that are met for the first time: it finds the least cost. -/
import Derived.Test.YtmlkabddhdkpaaaBound
namespace Go.Proofs.Ytmlkabddhdkpaaa
set_option maxRecDepth 100000
set_option linter.unusedSimpArgs false
set_option linter.unusedVariables false

/-- leaving a cell with the letters as they are: out at a port, or on -/
def leaveW (rec : Grid → List Bool → Nat × Nat → Nat → Nat → Nat) (q : Nat) (h : Grid) (F : List Bool) (s : Nat × Nat) (c b : Nat) : Nat :=
  if b ≤ c then b else match afterN h s with
    | .inl e => if e = q then c else b
    | .inr s' => rec h F s' c b
def cst (h : Grid) (cell : Nat) (x : UInt8) : Nat := if x = letter h cell then 0 else 1
def tryW (rec : Grid → List Bool → Nat × Nat → Nat → Nat → Nat) (q : Nat) (h : Grid) (F : List Bool) (s : Nat × Nat) (c : Nat) (x : UInt8) (b : Nat) : Nat :=
  leaveW rec q (putG h s.1 x) (F.set s.1 true) s (c + cst h s.1 x) b
/-- F: the cells that are fixed; c: what has been paid; b: the bound, 100 at first -/
def goM (q : Nat) : Nat → Grid → List Bool → Nat × Nat → Nat → Nat → Nat
  | 0, _, _, _, _, b => b
  | f + 1, h, F, s, c, b => if F.getD s.1 false = true then leaveW (goM q f) q h F s c b
      else tryW (goM q f) q h F s c 102 (tryW (goM q f) q h F s c 114 (tryW (goM q f) q h F s c 46 b))
theorem leaveW_le {rec : Grid → List Bool → Nat × Nat → Nat → Nat → Nat} (hr : ∀ h F s c b, rec h F s c b ≤ b) (q : Nat) (h : Grid) (F : List Bool) (s : Nat × Nat) (c b : Nat) : leaveW rec q h F s c b ≤ b := by
  unfold leaveW
  split
  · exact Nat.le_refl _
  · split
    · split <;> omega
    · exact hr _ _ _ _ _
theorem goM_le (q : Nat) : ∀ f h F s c b, goM q f h F s c b ≤ b
  | 0, _, _, _, _, b => Nat.le_refl _
  | f + 1, h, F, s, c, b => by
    unfold goM
    split
    · exact leaveW_le (goM_le q f) _ _ _ _ _ _
    · unfold tryW
      exact Nat.le_trans (leaveW_le (goM_le q f) _ _ _ _ _ _) (Nat.le_trans (leaveW_le (goM_le q f) _ _ _ _ _ _) (leaveW_le (goM_le q f) _ _ _ _ _ _))
theorem leaveW_prune {rec : Grid → List Bool → Nat × Nat → Nat → Nat → Nat} {q : Nat} {h : Grid} {F : List Bool} {s : Nat × Nat} {c b : Nat} (hb : b ≤ c) : leaveW rec q h F s c b = b := by
  unfold leaveW; rw [if_pos hb]
theorem goM_prune {q f : Nat} {h : Grid} {F : List Bool} {s : Nat × Nat} {c b : Nat} (hb : b ≤ c) : goM q f h F s c b = b := by
  cases f with
  | zero => rfl
  | succ f =>
    unfold goM tryW
    rw [leaveW_prune (b := b) (c := c + cst h s.1 46) (by omega), leaveW_prune (b := b) (c := c + cst h s.1 114) (by omega), leaveW_prune (b := b) (c := c + cst h s.1 102) (by omega), leaveW_prune hb]
    split <;> rfl

/-! grids that agree -/
structure Agree (F : List Bool) (h k : Grid) : Prop where
  n : nR k = nR h
  m : nC k = nC h
  at_ : ∀ cell, cell < nR h * nC h → F.getD cell false = true → letter k cell = letter h cell
theorem after_eq {h k : Grid} (hn : nR k = nR h) (hm : nC k = nC h) {s : Nat × Nat} (hl : letter k s.1 = letter h s.1) : afterN k s = afterN h s := by
  unfold afterN; rw [hn, hm, hl]
theorem putG_letter {h : Grid} {cell cell' : Nat} (hc : cell' < nR h * nC h) (x : UInt8) : letter (putG h cell x) cell' = if cell' = cell then x else letter h cell' := by
  have hm : 0 < nC h := by
    rcases Nat.eq_zero_or_pos (nC h) with h0 | h0
    · rw [h0, Nat.mul_zero] at hc; omega
    · exact h0
  unfold putG
  rw [gridOf_letter _ hc]
  have e : cell' / nC h * nC h + cell' % nC h = cell' := by rw [Nat.mul_comm]; exact Nat.div_add_mod _ _
  rw [e]; rfl
theorem grid_ext' {g h : Grid} (hg : GridOk g) (hh : GridOk h) (hn : nR g = nR h) (hm : nC g = nC h) (hl : ∀ cell, cell < nR g * nC g → letter g cell = letter h cell) : g = h := by
  refine grid_ext hg hh hn hm fun i k hi hk => ?_
  have hlt : i * nC g + k < nR g * nC g := by
    have : (i + 1) * nC g ≤ nR g * nC g := Nat.mul_le_mul_right _ hi
    rw [Nat.add_mul, Nat.one_mul] at this; omega
  have := hl _ hlt
  have hm0 := hg.m1
  have e1 : (i * nC g + k) / nC g = i := by rw [Nat.mul_comm, Nat.mul_add_div hm0, Nat.div_eq_of_lt hk, Nat.add_zero]
  have e2 : (i * nC g + k) % nC g = k := by rw [Nat.mul_comm, Nat.mul_add_mod, Nat.mod_eq_of_lt hk]
  unfold letter at this
  rw [← hm, e1, e2] at this
  exact this
theorem letter_ok {g : Grid} (hG : GridOk g) {cell : Nat} (hc : cell < nR g * nC g) : okL (letter g cell) = true := by
  have hm := hG.m1
  exact hG.ok _ (Nat.div_lt_of_lt_mul (by rw [Nat.mul_comm]; exact hc)) _ (Nat.mod_lt _ hm)
theorem putG_back {h : Grid} (hG : GridOk h) {cell : Nat} {x : UInt8} (hx : okL x = true) (hc : cell < nR h * nC h) {y : UInt8} (hy : y = letter h cell) : putG (putG h cell x) cell y = h := by
  have h1 := putG_ok hG cell hx
  have n1 := putG_nR h cell x
  have m1 := putG_nC hG cell x
  have hyo : okL y = true := by rw [hy]; exact letter_ok hG hc
  refine grid_ext' (putG_ok h1 cell hyo) hG (by rw [putG_nR, n1]) (by rw [putG_nC h1, m1]) fun cell' hc' => ?_
  rw [putG_nR, putG_nC h1, n1, m1] at hc'
  rw [putG_letter (by rw [n1, m1]; exact hc'), putG_letter hc']
  by_cases e : cell' = cell
  · rw [if_pos e, hy, e]
  · rw [if_neg e, if_neg e]
theorem putG_self {h : Grid} (hG : GridOk h) {cell : Nat} (hc : cell < nR h * nC h) : putG h cell (letter h cell) = h := by
  refine grid_ext' (putG_ok hG cell (letter_ok hG hc)) hG (putG_nR _ _ _) (putG_nC hG _ _) fun cell' hc' => ?_
  rw [putG_nR, putG_nC hG] at hc'
  rw [putG_letter hc']
  split
  · next e => rw [e]
  · rfl
theorem putG_putG {h : Grid} (hG : GridOk h) {cell : Nat} {x y : UInt8} (hx : okL x = true) (hy : okL y = true) (hc : cell < nR h * nC h) : putG (putG h cell x) cell y = putG h cell y := by
  have h1 := putG_ok hG cell hx
  have n1 := putG_nR h cell x
  have m1 := putG_nC hG cell x
  refine grid_ext' (putG_ok h1 cell hy) (putG_ok hG cell hy) (by rw [putG_nR, n1, putG_nR]) (by rw [putG_nC h1, m1, putG_nC hG]) fun cell' hc' => ?_
  rw [putG_nR, putG_nC h1, n1, m1] at hc'
  rw [putG_letter (by rw [n1, m1]; exact hc'), putG_letter hc', putG_letter hc']
  by_cases e : cell' = cell
  · rw [if_pos e, if_pos e]
  · rw [if_neg e, if_neg e, if_neg e]

/-! the way so far -/
theorem stepsN_congr {h k : Grid} (hn : nR k = nR h) (hm : nC k = nC h) : ∀ (j : Nat) (s t : Nat × Nat), stepsN h j s = some t → (∀ i, i < j → ∀ u, stepsN h i s = some u → letter k u.1 = letter h u.1) → stepsN k j s = some t
  | 0, s, t, e, _ => e
  | j + 1, s, t, e, hl => by
    rw [stepsN] at e ⊢
    have h0 := hl 0 (by omega) s rfl
    rw [after_eq hn hm h0]
    cases ha : afterN h s with
    | inl p => rw [ha] at e; cases e
    | inr s' =>
      rw [ha] at e
      refine stepsN_congr hn hm j s' t e fun i hi u hu => hl (i + 1) (by omega) u ?_
      rw [stepsN, ha]; exact hu
theorem leaves_none {g : Grid} : ∀ (f : Nat) (s : Nat × Nat), leaves g f s = true → stepsN g f s = none
  | 0, _, h => by cases h
  | f + 1, s, h => by
    unfold leaves at h
    rw [stepsN]
    cases e : afterN g s with
    | inl p => rfl
    | inr s' => rw [e] at h; exact leaves_none f s' h
/-- f steps are enough from s on: the way from the port p to s goes through fixed cells alone -/
def Enough (p f : Nat) (h : Grid) (F : List Bool) (s : Nat × Nat) : Prop :=
  ∃ k, k + f = 4 * (nR h * nC h) ∧ stepsN h k (enterN (nR h) (nC h) p) = some s ∧ ∀ j, j < k → ∀ t, stepsN h j (enterN (nR h) (nC h) p) = some t → F.getD t.1 false = true
theorem Enough.start {p : Nat} (h : Grid) (F : List Bool) : Enough p (4 * (nR h * nC h)) h F (enterN (nR h) (nC h) p) := ⟨0, by omega, rfl, fun j hj => by omega⟩
theorem Enough.pos {p f : Nat} {h : Grid} {F : List Bool} {s : Nat × Nat} (hG : GridOk h) (hp : p < ports h) (e : Enough p f h F s) : 0 < f := by
  obtain ⟨k, h1, h2, _⟩ := e
  rcases Nat.eq_zero_or_pos f with h0 | h0
  · exfalso
    subst h0
    have := leaves_none _ _ (way_leaves hG.sz hp)
    rw [show 4 * (nR h * nC h) = k by omega, h2] at this
    cases this
  · exact h0
theorem Enough.ok {p f : Nat} {h : Grid} {F : List Bool} {s : Nat × Nat} (hG : GridOk h) (hp : p < ports h) (e : Enough p f h F s) : Ok h s := by
  obtain ⟨k, _, h2, _⟩ := e
  exact stepsN_ok hG.sz k _ _ (enter_ok hG.sz hp) h2
theorem getD_set_true (F : List Bool) (i j : Nat) (h : F.getD j false = true) : (F.set i true).getD j false = true := by
  rw [List.getD_eq_getElem?_getD, List.getElem?_set]
  split
  · next e =>
    subst e
    split
    · rfl
    · next h2 => rw [List.getD_eq_getElem?_getD, List.getElem?_eq_none (by omega)] at h; cases h
  · rw [← List.getD_eq_getElem?_getD]; exact h
theorem getD_set_self (F : List Bool) {i : Nat} (h : i < F.length) : (F.set i true).getD i false = true := by
  rw [List.getD_eq_getElem?_getD, List.getElem?_set_self h]; rfl
theorem getD_set_other (F : List Bool) {i j : Nat} (h : i ≠ j) : (F.set i true).getD j false = F.getD j false := by
  rw [List.getD_eq_getElem?_getD, List.getElem?_set_ne h, ← List.getD_eq_getElem?_getD]
/-- on by a step -/
theorem Enough.next {p f : Nat} {h : Grid} {F : List Bool} {s s' : Nat × Nat} (e : Enough p (f + 1) h F s) (hs : F.getD s.1 false = true) (ha : afterN h s = .inr s') : Enough p f h F s' := by
  obtain ⟨k, h1, h2, h3⟩ := e
  refine ⟨k + 1, by omega, by rw [stepsN_succ, h2, Option.bind_some, ha], fun j hj t ht => ?_⟩
  rcases Nat.lt_succ_iff_lt_or_eq.1 hj with h4 | rfl
  · exact h3 j h4 t ht
  · rw [h2] at ht; cases ht; exact hs
/-- another letter at a cell that is not fixed -/
theorem Enough.put {p f : Nat} {h : Grid} {F : List Bool} {s : Nat × Nat} (hG : GridOk h) (hp : p < ports h) (hF : F.length = nR h * nC h) (e : Enough p f h F s) (hs : F.getD s.1 false = false) (x : UInt8) : Enough p f (putG h s.1 x) (F.set s.1 true) s := by
  have hok := e.ok hG hp
  obtain ⟨k, h1, h2, h3⟩ := e
  have n1 := putG_nR h s.1 x
  have m1 := putG_nC hG s.1 x
  have key : ∀ j, j ≤ k → ∀ t, stepsN h j (enterN (nR h) (nC h) p) = some t → stepsN (putG h s.1 x) j (enterN (nR h) (nC h) p) = some t := fun j hj t ht => by
    refine stepsN_congr n1 m1 j _ t ht fun i hi u hu => ?_
    have hu1 := h3 i (by omega) u hu
    have huo := stepsN_ok hG.sz i _ u (enter_ok hG.sz hp) hu
    rw [putG_letter huo.cell, if_neg]
    intro he
    rw [he, hs] at hu1; cases hu1
  refine ⟨k, by rw [n1, m1]; exact h1, by rw [n1, m1]; exact key k (Nat.le_refl _) s h2, fun j hj t ht => ?_⟩
  rw [n1, m1] at ht
  obtain ⟨u, hu⟩ : ∃ u, stepsN h j (enterN (nR h) (nC h) p) = some u := by
    obtain ⟨u, h4, _⟩ := stepsN_le h j (k - j) _ s (by rw [show j + (k - j) = k by omega]; exact h2)
    exact ⟨u, h4⟩
  rw [key j (by omega) u hu] at ht
  cases ht
  exact getD_set_true F _ _ (h3 j hj _ hu)
end Go.Proofs.Ytmlkabddhdkpaaa

/- The search finds the least cost. -/
namespace Go.Proofs.Ytmlkabddhdkpaaa
set_option maxRecDepth 100000
set_option linter.unusedSimpArgs false
set_option linter.unusedVariables false

theorem apartRow_fix {a a' c : Str} {y : Nat} : ∀ K, (∀ j, j < K → j ≠ y → a'.getD j 0 = a.getD j 0) → a'.getD y 0 = c.getD y 0 → apartRow a' c K + (if y < K then (if c.getD y 0 = a.getD y 0 then 0 else 1) else 0) = apartRow a c K
  | 0, _, _ => by simp [apartRow]
  | K + 1, h, hy => by
    have ih := apartRow_fix K (fun j hj => h j (by omega)) hy
    rw [apartRow, apartRow]
    by_cases e : K = y
    · subst e
      rw [if_neg (show ¬ K < K by omega)] at ih
      rw [if_pos (show K < K + 1 by omega), if_pos hy]
      by_cases h2 : a.getD K 0 = c.getD K 0
      · rw [if_pos h2, if_pos h2.symm]; omega
      · rw [if_neg h2, if_neg (fun h3 => h2 h3.symm)]; omega
    · rw [h K (by omega) e]
      by_cases h3 : y < K
      · rw [if_pos h3] at ih
        rw [if_pos (show y < K + 1 by omega)]; omega
      · rw [if_neg h3] at ih
        rw [if_neg (show ¬ y < K + 1 by omega)]; omega
theorem apartRow_cong {a a' c : Str} : ∀ K, (∀ j, j < K → a'.getD j 0 = a.getD j 0) → apartRow a' c K = apartRow a c K
  | 0, _ => rfl
  | K + 1, h => by rw [apartRow, apartRow, apartRow_cong K (fun j hj => h j (by omega)), h K (by omega)]
theorem apartN_fix {g g' k : Grid} {x y M : Nat} (hy : y < M) : ∀ n, (∀ i, i < n → (g'.getD i []).length = M ∧ (g.getD i []).length = M) → (∀ i, i < n → ∀ j, j < M → ¬ (i = x ∧ j = y) → (g'.getD i []).getD j 0 = (g.getD i []).getD j 0) → (g'.getD x []).getD y 0 = (k.getD x []).getD y 0 →
    apartN g' k n + (if x < n then (if (k.getD x []).getD y 0 = (g.getD x []).getD y 0 then 0 else 1) else 0) = apartN g k n
  | 0, _, _, _ => by simp [apartN]
  | n + 1, hl, h, he => by
    have ih := apartN_fix hy n (fun i hi => hl i (by omega)) (fun i hi => h i (by omega)) he
    obtain ⟨l1, l2⟩ := hl n (by omega)
    rw [apartN, apartN, l1, l2]
    by_cases e : n = x
    · subst e
      rw [if_neg (show ¬ n < n by omega)] at ih
      have h2 := apartRow_fix (a := g.getD n []) (a' := g'.getD n []) (c := k.getD n []) (y := y) M (fun j hj hne => h n (by omega) j hj (fun q => hne q.2)) he
      rw [if_pos hy] at h2
      rw [if_pos (show n < n + 1 by omega)]; omega
    · have h2 := apartRow_cong (a := g.getD n []) (a' := g'.getD n []) (c := k.getD n []) M (fun j hj => h n (by omega) j hj (fun q => e q.1))
      by_cases h3 : x < n
      · rw [if_pos h3] at ih
        rw [if_pos (show x < n + 1 by omega)]; omega
      · rw [if_neg h3] at ih
        rw [if_neg (show ¬ x < n + 1 by omega)]; omega
theorem apart_fix {h k : Grid} (hG : GridOk h) (hm : nC k = nC h) {cell : Nat} (hc : cell < nR h * nC h) {x : UInt8} (hx : okL x = true) (he : x = letter k cell) : apart (putG h cell x) k + cst h cell x = apart h k := by
  have hm0 := hG.m1
  have hP := putG_ok hG cell hx
  have n1 := putG_nR h cell x
  have m1 := putG_nC hG cell x
  have hi : cell / nC h < nR h := Nat.div_lt_of_lt_mul (by rw [Nat.mul_comm]; exact hc)
  have hj : cell % nC h < nC h := Nat.mod_lt _ hm0
  have hdm : cell / nC h * nC h + cell % nC h = cell := by rw [Nat.mul_comm]; exact Nat.div_add_mod _ _
  have hkx : x = (k.getD (cell / nC h) []).getD (cell % nC h) 0 := by rw [he]; unfold letter; rw [hm]
  have := apartN_fix (g := h) (g' := putG h cell x) (k := k) (x := cell / nC h) (y := cell % nC h) (M := nC h) hj (nR h)
    (fun i hi => ⟨by rw [hP.row i (by show i < nR (putG h cell x); rw [n1]; exact hi)]; exact m1, hG.row i hi⟩)
    (fun i hi j hj hne => by
      rw [putG_at cell x hi hj, if_neg]
      intro e
      exact hne (cell_inj hj (Nat.mod_lt _ hm0) (by rw [e, hdm])))
    (by rw [putG_at cell x hi hj, if_pos hdm]; exact hkx)
  rw [if_pos hi, ← hkx] at this
  unfold apart cst
  rw [show (putG h cell x).length = nR h from n1]
  exact this
theorem apart_put_le {h : Grid} (hG : GridOk h) {cell : Nat} (hc : cell < nR h * nC h) (x : UInt8) : apart h (putG h cell x) ≤ cst h cell x := by
  unfold cst
  split
  · next e => rw [e, putG_self hG hc, apart_self]; exact Nat.le_refl _
  · exact apart_put hG x hc
theorem okL_cases {c : UInt8} (h : okL c = true) : c = 46 ∨ c = 114 ∨ c = 102 := by
  unfold okL at h; exact of_decide_eq_true h

section
variable {p q : Nat}
/-- complete: every grid that leads there is seen -/
theorem leave_complete {f : Nat} (ih : ∀ (h : Grid) (F : List Bool) (s : Nat × Nat) (c b : Nat), GridOk h → p < ports h → F.length = nR h * nC h → Enough p f h F s → ∀ k, GridOk k → Agree F h k → (∃ L, Walk k s L q) → goM q f h F s c b ≤ c + apart h k)
    {h : Grid} {F : List Bool} {s : Nat × Nat} (c b : Nat) (hG : GridOk h) (hp : p < ports h) (hF : F.length = nR h * nC h) (e : Enough p (f + 1) h F s) (hs : F.getD s.1 false = true) {k : Grid} (hk : GridOk k) (ha : Agree F h k) (hw : ∃ L, Walk k s L q) : leaveW (goM q f) q h F s c b ≤ c + apart h k := by
  unfold leaveW
  by_cases hb : b ≤ c
  · rw [if_pos hb]; omega
  · rw [if_neg hb]
    have hok := e.ok hG hp
    have hae : afterN k s = afterN h s := after_eq ha.n ha.m (ha.at_ s.1 hok.cell hs)
    obtain ⟨L, hw⟩ := hw
    cases hw with
    | out h1 =>
      rw [hae] at h1
      rw [h1]
      simp only [if_true]; omega
    | on h1 hw2 =>
      rw [hae] at h1
      have e2 := e.next hs h1
      rw [h1]
      exact ih h F _ c b hG hp hF e2 k hk ha ⟨_, hw2⟩
theorem try_complete {f : Nat} (ih : ∀ (h : Grid) (F : List Bool) (s : Nat × Nat) (c b : Nat), GridOk h → p < ports h → F.length = nR h * nC h → Enough p f h F s → ∀ k, GridOk k → Agree F h k → (∃ L, Walk k s L q) → goM q f h F s c b ≤ c + apart h k)
    {h : Grid} {F : List Bool} {s : Nat × Nat} (c b : Nat) (hG : GridOk h) (hp : p < ports h) (hF : F.length = nR h * nC h) (e : Enough p (f + 1) h F s) (hs : F.getD s.1 false = false) {k : Grid} (hk : GridOk k) (ha : Agree F h k) (hw : ∃ L, Walk k s L q) : tryW (goM q f) q h F s c (letter k s.1) b ≤ c + apart h k := by
  have hok := e.ok hG hp
  have hcell : s.1 < nR k * nC k := by rw [ha.n, ha.m]; exact hok.cell
  have hx := letter_ok hk hcell
  have n1 := putG_nR h s.1 (letter k s.1)
  have m1 := putG_nC hG s.1 (letter k s.1)
  have hfix := apart_fix hG ha.m hok.cell hx rfl
  unfold tryW
  refine Nat.le_trans (leave_complete ih (c + cst h s.1 (letter k s.1)) b (putG_ok hG s.1 hx) (by unfold ports; rw [n1, m1]; exact hp) (by rw [List.length_set, n1, m1]; exact hF) (e.put hG hp hF hs _) (getD_set_self F (by rw [hF]; exact hok.cell)) hk ⟨by rw [n1]; exact ha.n, by rw [m1]; exact ha.m, fun cell hc hcf => ?_⟩ hw) (by omega)
  rw [n1, m1] at hc
  rw [putG_letter hc]
  by_cases e3 : cell = s.1
  · rw [if_pos e3, e3]
  · rw [if_neg e3]
    rw [getD_set_other F (fun h => e3 h.symm)] at hcf
    exact ha.at_ cell hc hcf
theorem goM_complete : ∀ (f : Nat) (h : Grid) (F : List Bool) (s : Nat × Nat) (c b : Nat), GridOk h → p < ports h → F.length = nR h * nC h → Enough p f h F s → ∀ k, GridOk k → Agree F h k → (∃ L, Walk k s L q) → goM q f h F s c b ≤ c + apart h k
  | 0, h, F, s, c, b, hG, hp, hF, e, k, hk, ha, hw => absurd (e.pos hG hp) (by omega)
  | f + 1, h, F, s, c, b, hG, hp, hF, e, k, hk, ha, hw => by
    have ih := goM_complete f
    have hok := e.ok hG hp
    unfold goM
    by_cases hs : F.getD s.1 false = true
    · rw [if_pos hs]
      exact leave_complete ih c b hG hp hF e hs hk ha hw
    · rw [if_neg hs]
      have hs' : F.getD s.1 false = false := by simpa using hs
      have hle := fun x b => leaveW_le (goM_le q f) q (putG h s.1 x) (F.set s.1 true) s (c + cst h s.1 x) b
      have hcell : s.1 < nR k * nC k := by rw [ha.n, ha.m]; exact hok.cell
      have hT := fun b => try_complete ih c b hG hp hF e hs' hk ha hw
      rcases okL_cases (letter_ok hk hcell) with h1 | h1 | h1
      · rw [h1] at hT
        exact Nat.le_trans (hle 102 _) (Nat.le_trans (hle 114 _) (hT b))
      · rw [h1] at hT
        exact Nat.le_trans (hle 102 _) (hT _)
      · rw [h1] at hT
        exact hT _
/-- sound: what is found is some grid's cost -/
theorem leave_sound {f : Nat} (ih : ∀ (h : Grid) (F : List Bool) (s : Nat × Nat) (c b : Nat), GridOk h → p < ports h → F.length = nR h * nC h → Enough p f h F s → goM q f h F s c b < b → ∃ k, GridOk k ∧ Agree F h k ∧ (∃ L, Walk k s L q) ∧ c + apart h k ≤ goM q f h F s c b)
    {h : Grid} {F : List Bool} {s : Nat × Nat} (c b : Nat) (hG : GridOk h) (hp : p < ports h) (hF : F.length = nR h * nC h) (e : Enough p (f + 1) h F s) (hs : F.getD s.1 false = true) (hlt : leaveW (goM q f) q h F s c b < b) : ∃ k, GridOk k ∧ Agree F h k ∧ (∃ L, Walk k s L q) ∧ c + apart h k ≤ leaveW (goM q f) q h F s c b := by
  unfold leaveW at hlt ⊢
  by_cases hb : b ≤ c
  · rw [if_pos hb] at hlt; omega
  · rw [if_neg hb] at hlt ⊢
    have hok := e.ok hG hp
    cases ha : afterN h s with
    | inl r =>
      rw [ha] at hlt
      simp only at hlt ⊢
      by_cases hr : r = q
      · rw [if_pos hr]
        subst hr
        exact ⟨h, hG, ⟨rfl, rfl, fun _ _ _ => rfl⟩, ⟨_, .out ha⟩, by rw [apart_self]; exact Nat.le_refl _⟩
      · rw [if_neg hr] at hlt; omega
    | inr s' =>
      rw [ha] at hlt
      simp only at hlt ⊢
      obtain ⟨k, h1, h2, ⟨L, h3⟩, h4⟩ := ih h F s' c b hG hp hF (e.next hs ha) hlt
      exact ⟨k, h1, h2, ⟨_, .on ((after_eq h2.n h2.m (h2.at_ s.1 hok.cell hs)).trans ha) h3⟩, h4⟩
theorem try_sound {f : Nat} (ih : ∀ (h : Grid) (F : List Bool) (s : Nat × Nat) (c b : Nat), GridOk h → p < ports h → F.length = nR h * nC h → Enough p f h F s → goM q f h F s c b < b → ∃ k, GridOk k ∧ Agree F h k ∧ (∃ L, Walk k s L q) ∧ c + apart h k ≤ goM q f h F s c b)
    {h : Grid} {F : List Bool} {s : Nat × Nat} (c b : Nat) (hG : GridOk h) (hp : p < ports h) (hF : F.length = nR h * nC h) (e : Enough p (f + 1) h F s) (hs : F.getD s.1 false = false) {x : UInt8} (hx : okL x = true) (hlt : tryW (goM q f) q h F s c x b < b) : ∃ k, GridOk k ∧ Agree F h k ∧ (∃ L, Walk k s L q) ∧ c + apart h k ≤ tryW (goM q f) q h F s c x b := by
  have hok := e.ok hG hp
  have n1 := putG_nR h s.1 x
  have m1 := putG_nC hG s.1 x
  have hP := putG_ok hG s.1 hx
  unfold tryW at hlt ⊢
  obtain ⟨k, h1, h2, h3, h4⟩ := leave_sound ih (c + cst h s.1 x) b hP (by unfold ports; rw [n1, m1]; exact hp) (by rw [List.length_set, n1, m1]; exact hF) (e.put hG hp hF hs x) (getD_set_self F (by rw [hF]; exact hok.cell)) hlt
  have h5 := apart_tri hG hP n1 m1 (k := k)
  have h6 := apart_put_le hG hok.cell x
  refine ⟨k, h1, ⟨by rw [h2.n, n1], by rw [h2.m, m1], fun cell hc hcf => ?_⟩, h3, by omega⟩
  have hne : cell ≠ s.1 := fun he => by rw [he, hs] at hcf; cases hcf
  have h7 := h2.at_ cell (by rw [n1, m1]; exact hc) (by rw [getD_set_other F (fun h => hne h.symm)]; exact hcf)
  rw [putG_letter hc, if_neg hne] at h7
  exact h7
theorem goM_sound : ∀ (f : Nat) (h : Grid) (F : List Bool) (s : Nat × Nat) (c b : Nat), GridOk h → p < ports h → F.length = nR h * nC h → Enough p f h F s → goM q f h F s c b < b → ∃ k, GridOk k ∧ Agree F h k ∧ (∃ L, Walk k s L q) ∧ c + apart h k ≤ goM q f h F s c b
  | 0, h, F, s, c, b, hG, hp, hF, e, hlt => absurd (e.pos hG hp) (by omega)
  | f + 1, h, F, s, c, b, hG, hp, hF, e, hlt => by
    have ih := goM_sound f
    unfold goM at hlt ⊢
    by_cases hs : F.getD s.1 false = true
    · rw [if_pos hs] at hlt ⊢
      exact leave_sound ih c b hG hp hF e hs hlt
    · rw [if_neg hs] at hlt ⊢
      have hs' : F.getD s.1 false = false := by simpa using hs
      have hle := fun x b => leaveW_le (goM_le q f) q (putG h s.1 x) (F.set s.1 true) s (c + cst h s.1 x) b
      have hT := fun x (hx : okL x = true) b => try_sound ih c b hG hp hF e hs' hx
      have l1 := hle 46 b
      have l2 := hle 114 (tryW (goM q f) q h F s c 46 b)
      have l3 := hle 102 (tryW (goM q f) q h F s c 114 (tryW (goM q f) q h F s c 46 b))
      unfold tryW at l1 l2 l3
      rcases Nat.lt_or_ge (tryW (goM q f) q h F s c 102 (tryW (goM q f) q h F s c 114 (tryW (goM q f) q h F s c 46 b))) (tryW (goM q f) q h F s c 114 (tryW (goM q f) q h F s c 46 b)) with h3 | h3
      · exact hT 102 (by decide) _ h3
      · have e3 : tryW (goM q f) q h F s c 102 (tryW (goM q f) q h F s c 114 (tryW (goM q f) q h F s c 46 b)) = tryW (goM q f) q h F s c 114 (tryW (goM q f) q h F s c 46 b) := Nat.le_antisymm l3 h3
        rw [e3] at hlt ⊢
        rcases Nat.lt_or_ge (tryW (goM q f) q h F s c 114 (tryW (goM q f) q h F s c 46 b)) (tryW (goM q f) q h F s c 46 b) with h2 | h2
        · exact hT 114 (by decide) _ h2
        · have e2 : tryW (goM q f) q h F s c 114 (tryW (goM q f) q h F s c 46 b) = tryW (goM q f) q h F s c 46 b := Nat.le_antisymm l2 h2
          rw [e2] at hlt ⊢
          exact hT 46 (by decide) _ hlt
end

/-- the least cost of leading p to q -/
def least (g : Grid) (p q : Nat) : Nat := goM q (4 * (nR g * nC g)) g (List.replicate (nR g * nC g) false) (enterN (nR g) (nC g) p) 0 100
theorem replicate_false (n i : Nat) : (List.replicate n false).getD i false = false := by
  rw [List.getD_eq_getElem?_getD, List.getElem?_replicate]; split <;> rfl
theorem least_le {g k : Grid} {p q : Nat} (hG : GridOk g) (hp : p < ports g) (hk : GridOk k) (hn : nR k = nR g) (hm : nC k = nC g) (hw : (way k p).2 = q) : least g p q ≤ apart g k := by
  have hpk : p < ports k := by unfold ports; rw [hn, hm]; exact hp
  have := goM_complete (p := p) (q := q) (4 * (nR g * nC g)) g (List.replicate (nR g * nC g) false) (enterN (nR g) (nC g) p) 0 100 hG hp (by simp) (Enough.start g _) k hk ⟨hn, hm, fun cell _ h => by rw [replicate_false] at h; cases h⟩ ⟨_, by have := way_walk hk.sz hpk; rw [hw, hn, hm] at this; exact this⟩
  unfold least
  omega
theorem least_is {g : Grid} {p q : Nat} (hG : GridOk g) (hp : p < ports g) (h : least g p q < 100) : ∃ k, GridOk k ∧ nR k = nR g ∧ nC k = nC g ∧ (way k p).2 = q ∧ least g p q = apart g k := by
  obtain ⟨k, h1, h2, ⟨L, h3⟩, h4⟩ := goM_sound (p := p) (q := q) (4 * (nR g * nC g)) g (List.replicate (nR g * nC g) false) (enterN (nR g) (nC g) p) 0 100 hG hp (by simp) (Enough.start g _) h
  have hn := h2.n
  have hm := h2.m
  have hpk : p < ports k := by unfold ports; rw [hn, hm]; exact hp
  have hw := way_walk h1.sz hpk
  rw [hn, hm] at hw
  have he := (h3.det hw).2.symm
  have hl := least_le hG hp h1 hn hm he
  refine ⟨k, h1, hn, hm, he, Nat.le_antisymm hl ?_⟩
  unfold least; omega
theorem least_lt {g : Grid} {p q : Nat} (hG : GridOk g) (hp : p < ports g) (hq : q < ports g) (hpq : p ≠ q) (h9 : nR g * nC g ≤ 9) : least g p q ≤ nR g * nC g := by
  obtain ⟨k, h1, hn, hm, hw⟩ := some_leads hG.n1 hG.n5 hG.m1 hG.m5 h9 (p := p) (q := q) hp hq hpq
  exact Nat.le_trans (least_le hG hp h1 hn hm hw) (apart_le hG k)
end Go.Proofs.Ytmlkabddhdkpaaa

/- The program's search: what holds on the way. -/
namespace Go.Proofs.Ytmlkabddhdkpaaa
set_option maxRecDepth 100000
set_option linter.unusedSimpArgs false
set_option linter.unusedVariables false

def bestI (b : Nat) : Int := if b = 100 then -1 else (b : Int)
theorem bestI_spec {b : Nat} (h : b ≤ 100) : (b = 100 ∧ bestI b = -1) ∨ (b < 100 ∧ bestI b = (b : Int)) := by
  unfold bestI
  by_cases e : b = 100
  · rw [if_pos e]; exact .inl ⟨e, rfl⟩
  · rw [if_neg e]; exact .inr ⟨by omega, rfl⟩
/-- how many cells are free -/
def cntF (F : List Bool) : Nat := (F.filter fun x => !x).length
theorem cntF_le (F : List Bool) : cntF F ≤ F.length := List.length_filter_le _ _
theorem cntF_set : ∀ (F : List Bool) (i : Nat), i < F.length → F.getD i false = false → cntF (F.set i true) + 1 = cntF F
  | [], i, h, _ => by simp at h
  | x :: F, 0, h, e => by
    have : x = false := e
    subst this
    simp [cntF]
  | x :: F, i + 1, h, e => by
    have ih := cntF_set F i (by simpa using h) e
    unfold cntF at *
    rw [List.set_cons_succ, List.filter_cons, List.filter_cons]
    cases x
    · simp only [Bool.not_false, if_true, List.length_cons]; omega
    · simpa using ih
structure GoInv (p f : Nat) (g h : Grid) (M : List Nat) (F : List Bool) (s : Nat × Nat) (c b : Nat) : Prop where
  hG : GridOk g
  hH : GridOk h
  n : nR h = nR g
  m : nC h = nC g
  hp : p < ports h
  len : F.length = nR h * nC h
  en : Enough p f h F s
  un : ∀ cell, cell < nR h * nC h → F.getD cell false = false → letter h cell = letter g cell
  mem : ∀ cell, cell < nR h * nC h → (cell ∈ M ↔ F.getD cell false = true)
  b100 : b ≤ 100
  cc : c + cntF F ≤ nR h * nC h
theorem GoInv.c25 {p f : Nat} {g h : Grid} {M : List Nat} {F : List Bool} {s : Nat × Nat} {c b : Nat} (I : GoInv p f g h M F s c b) : c ≤ 25 := by
  have h1 := I.cc
  have h2 : nR h * nC h ≤ 25 := Nat.mul_le_mul I.hH.n5 I.hH.m5
  omega
theorem GoInv.next {p f : Nat} {g h : Grid} {M : List Nat} {F : List Bool} {s s' : Nat × Nat} {c b : Nat} (I : GoInv p (f + 1) g h M F s c b) (hs : F.getD s.1 false = true) (ha : afterN h s = .inr s') : GoInv p f g h M F s' c b :=
  ⟨I.hG, I.hH, I.n, I.m, I.hp, I.len, I.en.next hs ha, I.un, I.mem, I.b100, I.cc⟩
theorem GoInv.put {p f : Nat} {g h : Grid} {M : List Nat} {F : List Bool} {s : Nat × Nat} {c b b' : Nat} (I : GoInv p f g h M F s c b) (hs : F.getD s.1 false = false) {x : UInt8} (hx : okL x = true) (hb : b' ≤ 100) : GoInv p f g (putG h s.1 x) (M ++ [s.1]) (F.set s.1 true) s (c + cst h s.1 x) b' := by
  have hok := I.en.ok I.hH I.hp
  have n1 := putG_nR h s.1 x
  have m1 := putG_nC I.hH s.1 x
  have hlt : s.1 < F.length := by rw [I.len]; exact hok.cell
  refine ⟨I.hG, putG_ok I.hH s.1 hx, by rw [n1, I.n], by rw [m1, I.m], by unfold ports; rw [n1, m1]; exact I.hp, by rw [List.length_set, n1, m1]; exact I.len, I.en.put I.hH I.hp I.len hs x, fun cell hc hf => ?_, fun cell hc => ?_, hb, ?_⟩
  · rw [n1, m1] at hc
    have hne : cell ≠ s.1 := fun e => by rw [e, getD_set_self F hlt] at hf; cases hf
    rw [getD_set_other F (fun e => hne e.symm)] at hf
    rw [putG_letter hc, if_neg hne]
    exact I.un cell hc hf
  · rw [n1, m1] at hc
    rw [List.mem_append, List.mem_singleton, I.mem cell hc]
    by_cases e : cell = s.1
    · rw [e, getD_set_self F hlt]; simp
    · rw [getD_set_other F (fun h => e h.symm)]; simp [e]
  · have h1 := I.cc
    have h2 := cntF_set F s.1 hlt hs
    have h3 : cst h s.1 x ≤ 1 := by unfold cst; split <;> omega
    rw [n1, m1]; omega
theorem leaveW_in {q f : Nat} {h : Grid} {F : List Bool} {s s' : Nat × Nat} {c b : Nat} (ha : afterN h s = .inr s') : leaveW (goM q f) q h F s c b = goM q f h F s' c b := by
  unfold leaveW
  rw [ha]
  split
  · next hb => rw [goM_prune hb]
  · rfl
theorem leaveW_out {q f e : Nat} {h : Grid} {F : List Bool} {s : Nat × Nat} {c b : Nat} (ha : afterN h s = .inl e) : leaveW (goM q f) q h F s c b = if b ≤ c then b else if e = q then c else b := by
  unfold leaveW
  rw [ha]
/-- the grids that stand while the letters are tried -/
def GA (h : Grid) (s : Nat × Nat) : Nat → Grid
  | 0 => h
  | j + 1 => putG h s.1 (([46, 114, 102] : Str).getD j 0)
theorem let3_ok (j : Nat) (h : j < 3) : okL (([46, 114, 102] : Str).getD j 0) = true := by
  obtain e | e | e : j = 0 ∨ j = 1 ∨ j = 2 := by omega
  all_goals (subst e; decide)
theorem GA_ok {h : Grid} (hH : GridOk h) (s : Nat × Nat) : ∀ i, i ≤ 3 → GridOk (GA h s i)
  | 0, _ => hH
  | j + 1, hj => putG_ok hH s.1 (let3_ok j (by omega))
theorem GA_nR (h : Grid) (s : Nat × Nat) : ∀ i, nR (GA h s i) = nR h
  | 0 => rfl
  | j + 1 => putG_nR _ _ _
theorem GA_nC {h : Grid} (hH : GridOk h) (s : Nat × Nat) : ∀ i, nC (GA h s i) = nC h
  | 0 => rfl
  | j + 1 => putG_nC hH _ _
theorem GA_put {h : Grid} (hH : GridOk h) {s : Nat × Nat} (hc : s.1 < nR h * nC h) {y : UInt8} (hy : okL y = true) : ∀ i, i ≤ 3 → putG (GA h s i) s.1 y = putG h s.1 y
  | 0, _ => rfl
  | j + 1, hj => putG_putG hH (let3_ok j (by omega)) hy hc
end Go.Proofs.Ytmlkabddhdkpaaa
