/- The search finds the least cost. -/
import Derived.Test.YtmhmdlgcdeodmaaDoorGo
namespace Go.Proofs.YtmhmdlgcdeodmaaDoor
set_option maxRecDepth 100000
set_option linter.unusedSimpArgs false
set_option linter.unusedVariables false

theorem apartRow_fix {a a' c : Str} {y : Nat} : ∀ K, (∀ j, j < K → j ≠ y → a'.getD j 0 = a.getD j 0) → a'.getD y 0 = c.getD y 0 → apartRow a' c K + (if y < K then (if c.getD y 0 = a.getD y 0 then 0 else 1) else 0) = apartRow a c K
  | 0, _, _ => by simp [apartRow]
  | K + 1, h, hy => by
    have ih := apartRow_fix K (fun j hj => h j (by omega)) hy
    rw [apartRow, apartRow]
    by_cases e : K = y
    · subst e
      rw [if_neg (show ¬ K < K by omega)] at ih
      rw [if_pos (show K < K + 1 by omega), if_pos hy]
      by_cases h2 : a.getD K 0 = c.getD K 0
      · rw [if_pos h2, if_pos h2.symm]; omega
      · rw [if_neg h2, if_neg (fun h3 => h2 h3.symm)]; omega
    · rw [h K (by omega) e]
      by_cases h3 : y < K
      · rw [if_pos h3] at ih
        rw [if_pos (show y < K + 1 by omega)]; omega
      · rw [if_neg h3] at ih
        rw [if_neg (show ¬ y < K + 1 by omega)]; omega
theorem apartRow_cong {a a' c : Str} : ∀ K, (∀ j, j < K → a'.getD j 0 = a.getD j 0) → apartRow a' c K = apartRow a c K
  | 0, _ => rfl
  | K + 1, h => by rw [apartRow, apartRow, apartRow_cong K (fun j hj => h j (by omega)), h K (by omega)]
theorem apartN_fix {g g' k : Grid} {x y M : Nat} (hy : y < M) : ∀ n, (∀ i, i < n → (g'.getD i []).length = M ∧ (g.getD i []).length = M) → (∀ i, i < n → ∀ j, j < M → ¬ (i = x ∧ j = y) → (g'.getD i []).getD j 0 = (g.getD i []).getD j 0) → (g'.getD x []).getD y 0 = (k.getD x []).getD y 0 →
    apartN g' k n + (if x < n then (if (k.getD x []).getD y 0 = (g.getD x []).getD y 0 then 0 else 1) else 0) = apartN g k n
  | 0, _, _, _ => by simp [apartN]
  | n + 1, hl, h, he => by
    have ih := apartN_fix hy n (fun i hi => hl i (by omega)) (fun i hi => h i (by omega)) he
    obtain ⟨l1, l2⟩ := hl n (by omega)
    rw [apartN, apartN, l1, l2]
    by_cases e : n = x
    · subst e
      rw [if_neg (show ¬ n < n by omega)] at ih
      have h2 := apartRow_fix (a := g.getD n []) (a' := g'.getD n []) (c := k.getD n []) (y := y) M (fun j hj hne => h n (by omega) j hj (fun q => hne q.2)) he
      rw [if_pos hy] at h2
      rw [if_pos (show n < n + 1 by omega)]; omega
    · have h2 := apartRow_cong (a := g.getD n []) (a' := g'.getD n []) (c := k.getD n []) M (fun j hj => h n (by omega) j hj (fun q => e q.1))
      by_cases h3 : x < n
      · rw [if_pos h3] at ih
        rw [if_pos (show x < n + 1 by omega)]; omega
      · rw [if_neg h3] at ih
        rw [if_neg (show ¬ x < n + 1 by omega)]; omega
theorem apart_fix {h k : Grid} (hG : GridOk h) (hm : nC k = nC h) {cell : Nat} (hc : cell < nR h * nC h) {x : UInt8} (hx : okL x = true) (he : x = letter k cell) : apart (putG h cell x) k + cst h cell x = apart h k := by
  have hm0 := hG.m1
  have hP := putG_ok hG cell hx
  have n1 := putG_nR h cell x
  have m1 := putG_nC hG cell x
  have hi : cell / nC h < nR h := Nat.div_lt_of_lt_mul (by rw [Nat.mul_comm]; exact hc)
  have hj : cell % nC h < nC h := Nat.mod_lt _ hm0
  have hdm : cell / nC h * nC h + cell % nC h = cell := by rw [Nat.mul_comm]; exact Nat.div_add_mod _ _
  have hkx : x = (k.getD (cell / nC h) []).getD (cell % nC h) 0 := by rw [he]; unfold letter; rw [hm]
  have := apartN_fix (g := h) (g' := putG h cell x) (k := k) (x := cell / nC h) (y := cell % nC h) (M := nC h) hj (nR h)
    (fun i hi => ⟨by rw [hP.row i (by show i < nR (putG h cell x); rw [n1]; exact hi)]; exact m1, hG.row i hi⟩)
    (fun i hi j hj hne => by
      rw [putG_at cell x hi hj, if_neg]
      intro e
      exact hne (cell_inj hj (Nat.mod_lt _ hm0) (by rw [e, hdm])))
    (by rw [putG_at cell x hi hj, if_pos hdm]; exact hkx)
  rw [if_pos hi, ← hkx] at this
  unfold apart cst
  rw [show (putG h cell x).length = nR h from n1]
  exact this
theorem apart_put_le {h : Grid} (hG : GridOk h) {cell : Nat} (hc : cell < nR h * nC h) (x : UInt8) : apart h (putG h cell x) ≤ cst h cell x := by
  unfold cst
  split
  · next e => rw [e, putG_self hG hc, apart_self]; exact Nat.le_refl _
  · exact apart_put hG x hc
theorem okL_cases {c : UInt8} (h : okL c = true) : c = 46 ∨ c = 114 ∨ c = 102 := by
  unfold okL at h; exact of_decide_eq_true h

section
variable {p q : Nat}
/-- complete: every grid that leads there is seen -/
theorem leave_complete {f : Nat} (ih : ∀ (h : Grid) (F : List Bool) (s : Nat × Nat) (c b : Nat), GridOk h → p < ports h → F.length = nR h * nC h → Enough p f h F s → ∀ k, GridOk k → Agree F h k → (∃ L, Walk k s L q) → goM q f h F s c b ≤ c + apart h k)
    {h : Grid} {F : List Bool} {s : Nat × Nat} (c b : Nat) (hG : GridOk h) (hp : p < ports h) (hF : F.length = nR h * nC h) (e : Enough p (f + 1) h F s) (hs : F.getD s.1 false = true) {k : Grid} (hk : GridOk k) (ha : Agree F h k) (hw : ∃ L, Walk k s L q) : leaveW (goM q f) q h F s c b ≤ c + apart h k := by
  unfold leaveW
  by_cases hb : b ≤ c
  · rw [if_pos hb]; omega
  · rw [if_neg hb]
    have hok := e.ok hG hp
    have hae : afterN k s = afterN h s := after_eq ha.n ha.m (ha.at_ s.1 hok.cell hs)
    obtain ⟨L, hw⟩ := hw
    cases hw with
    | out h1 =>
      rw [hae] at h1
      rw [h1]
      simp only [if_true]; omega
    | on h1 hw2 =>
      rw [hae] at h1
      have e2 := e.next hs h1
      rw [h1]
      exact ih h F _ c b hG hp hF e2 k hk ha ⟨_, hw2⟩
theorem try_complete {f : Nat} (ih : ∀ (h : Grid) (F : List Bool) (s : Nat × Nat) (c b : Nat), GridOk h → p < ports h → F.length = nR h * nC h → Enough p f h F s → ∀ k, GridOk k → Agree F h k → (∃ L, Walk k s L q) → goM q f h F s c b ≤ c + apart h k)
    {h : Grid} {F : List Bool} {s : Nat × Nat} (c b : Nat) (hG : GridOk h) (hp : p < ports h) (hF : F.length = nR h * nC h) (e : Enough p (f + 1) h F s) (hs : F.getD s.1 false = false) {k : Grid} (hk : GridOk k) (ha : Agree F h k) (hw : ∃ L, Walk k s L q) : tryW (goM q f) q h F s c (letter k s.1) b ≤ c + apart h k := by
  have hok := e.ok hG hp
  have hcell : s.1 < nR k * nC k := by rw [ha.n, ha.m]; exact hok.cell
  have hx := letter_ok hk hcell
  have n1 := putG_nR h s.1 (letter k s.1)
  have m1 := putG_nC hG s.1 (letter k s.1)
  have hfix := apart_fix hG ha.m hok.cell hx rfl
  unfold tryW
  refine Nat.le_trans (leave_complete ih (c + cst h s.1 (letter k s.1)) b (putG_ok hG s.1 hx) (by unfold ports; rw [n1, m1]; exact hp) (by rw [List.length_set, n1, m1]; exact hF) (e.put hG hp hF hs _) (getD_set_self F (by rw [hF]; exact hok.cell)) hk ⟨by rw [n1]; exact ha.n, by rw [m1]; exact ha.m, fun cell hc hcf => ?_⟩ hw) (by omega)
  rw [n1, m1] at hc
  rw [putG_letter hc]
  by_cases e3 : cell = s.1
  · rw [if_pos e3, e3]
  · rw [if_neg e3]
    rw [getD_set_other F (fun h => e3 h.symm)] at hcf
    exact ha.at_ cell hc hcf
theorem goM_complete : ∀ (f : Nat) (h : Grid) (F : List Bool) (s : Nat × Nat) (c b : Nat), GridOk h → p < ports h → F.length = nR h * nC h → Enough p f h F s → ∀ k, GridOk k → Agree F h k → (∃ L, Walk k s L q) → goM q f h F s c b ≤ c + apart h k
  | 0, h, F, s, c, b, hG, hp, hF, e, k, hk, ha, hw => absurd (e.pos hG hp) (by omega)
  | f + 1, h, F, s, c, b, hG, hp, hF, e, k, hk, ha, hw => by
    have ih := goM_complete f
    have hok := e.ok hG hp
    unfold goM
    by_cases hs : F.getD s.1 false = true
    · rw [if_pos hs]
      exact leave_complete ih c b hG hp hF e hs hk ha hw
    · rw [if_neg hs]
      have hs' : F.getD s.1 false = false := by simpa using hs
      have hle := fun x b => leaveW_le (goM_le q f) q (putG h s.1 x) (F.set s.1 true) s (c + cst h s.1 x) b
      have hcell : s.1 < nR k * nC k := by rw [ha.n, ha.m]; exact hok.cell
      have hT := fun b => try_complete ih c b hG hp hF e hs' hk ha hw
      rcases okL_cases (letter_ok hk hcell) with h1 | h1 | h1
      · rw [h1] at hT
        exact Nat.le_trans (hle 102 _) (Nat.le_trans (hle 114 _) (hT b))
      · rw [h1] at hT
        exact Nat.le_trans (hle 102 _) (hT _)
      · rw [h1] at hT
        exact hT _
/-- sound: what is found is some grid's cost -/
theorem leave_sound {f : Nat} (ih : ∀ (h : Grid) (F : List Bool) (s : Nat × Nat) (c b : Nat), GridOk h → p < ports h → F.length = nR h * nC h → Enough p f h F s → goM q f h F s c b < b → ∃ k, GridOk k ∧ Agree F h k ∧ (∃ L, Walk k s L q) ∧ c + apart h k ≤ goM q f h F s c b)
    {h : Grid} {F : List Bool} {s : Nat × Nat} (c b : Nat) (hG : GridOk h) (hp : p < ports h) (hF : F.length = nR h * nC h) (e : Enough p (f + 1) h F s) (hs : F.getD s.1 false = true) (hlt : leaveW (goM q f) q h F s c b < b) : ∃ k, GridOk k ∧ Agree F h k ∧ (∃ L, Walk k s L q) ∧ c + apart h k ≤ leaveW (goM q f) q h F s c b := by
  unfold leaveW at hlt ⊢
  by_cases hb : b ≤ c
  · rw [if_pos hb] at hlt; omega
  · rw [if_neg hb] at hlt ⊢
    have hok := e.ok hG hp
    cases ha : afterN h s with
    | inl r =>
      rw [ha] at hlt
      simp only at hlt ⊢
      by_cases hr : r = q
      · rw [if_pos hr]
        subst hr
        exact ⟨h, hG, ⟨rfl, rfl, fun _ _ _ => rfl⟩, ⟨_, .out ha⟩, by rw [apart_self]; exact Nat.le_refl _⟩
      · rw [if_neg hr] at hlt; omega
    | inr s' =>
      rw [ha] at hlt
      simp only at hlt ⊢
      obtain ⟨k, h1, h2, ⟨L, h3⟩, h4⟩ := ih h F s' c b hG hp hF (e.next hs ha) hlt
      exact ⟨k, h1, h2, ⟨_, .on ((after_eq h2.n h2.m (h2.at_ s.1 hok.cell hs)).trans ha) h3⟩, h4⟩
theorem try_sound {f : Nat} (ih : ∀ (h : Grid) (F : List Bool) (s : Nat × Nat) (c b : Nat), GridOk h → p < ports h → F.length = nR h * nC h → Enough p f h F s → goM q f h F s c b < b → ∃ k, GridOk k ∧ Agree F h k ∧ (∃ L, Walk k s L q) ∧ c + apart h k ≤ goM q f h F s c b)
    {h : Grid} {F : List Bool} {s : Nat × Nat} (c b : Nat) (hG : GridOk h) (hp : p < ports h) (hF : F.length = nR h * nC h) (e : Enough p (f + 1) h F s) (hs : F.getD s.1 false = false) {x : UInt8} (hx : okL x = true) (hlt : tryW (goM q f) q h F s c x b < b) : ∃ k, GridOk k ∧ Agree F h k ∧ (∃ L, Walk k s L q) ∧ c + apart h k ≤ tryW (goM q f) q h F s c x b := by
  have hok := e.ok hG hp
  have n1 := putG_nR h s.1 x
  have m1 := putG_nC hG s.1 x
  have hP := putG_ok hG s.1 hx
  unfold tryW at hlt ⊢
  obtain ⟨k, h1, h2, h3, h4⟩ := leave_sound ih (c + cst h s.1 x) b hP (by unfold ports; rw [n1, m1]; exact hp) (by rw [List.length_set, n1, m1]; exact hF) (e.put hG hp hF hs x) (getD_set_self F (by rw [hF]; exact hok.cell)) hlt
  have h5 := apart_tri hG hP n1 m1 (k := k)
  have h6 := apart_put_le hG hok.cell x
  refine ⟨k, h1, ⟨by rw [h2.n, n1], by rw [h2.m, m1], fun cell hc hcf => ?_⟩, h3, by omega⟩
  have hne : cell ≠ s.1 := fun he => by rw [he, hs] at hcf; cases hcf
  have h7 := h2.at_ cell (by rw [n1, m1]; exact hc) (by rw [getD_set_other F (fun h => hne h.symm)]; exact hcf)
  rw [putG_letter hc, if_neg hne] at h7
  exact h7
theorem goM_sound : ∀ (f : Nat) (h : Grid) (F : List Bool) (s : Nat × Nat) (c b : Nat), GridOk h → p < ports h → F.length = nR h * nC h → Enough p f h F s → goM q f h F s c b < b → ∃ k, GridOk k ∧ Agree F h k ∧ (∃ L, Walk k s L q) ∧ c + apart h k ≤ goM q f h F s c b
  | 0, h, F, s, c, b, hG, hp, hF, e, hlt => absurd (e.pos hG hp) (by omega)
  | f + 1, h, F, s, c, b, hG, hp, hF, e, hlt => by
    have ih := goM_sound f
    unfold goM at hlt ⊢
    by_cases hs : F.getD s.1 false = true
    · rw [if_pos hs] at hlt ⊢
      exact leave_sound ih c b hG hp hF e hs hlt
    · rw [if_neg hs] at hlt ⊢
      have hs' : F.getD s.1 false = false := by simpa using hs
      have hle := fun x b => leaveW_le (goM_le q f) q (putG h s.1 x) (F.set s.1 true) s (c + cst h s.1 x) b
      have hT := fun x (hx : okL x = true) b => try_sound ih c b hG hp hF e hs' hx
      have l1 := hle 46 b
      have l2 := hle 114 (tryW (goM q f) q h F s c 46 b)
      have l3 := hle 102 (tryW (goM q f) q h F s c 114 (tryW (goM q f) q h F s c 46 b))
      unfold tryW at l1 l2 l3
      rcases Nat.lt_or_ge (tryW (goM q f) q h F s c 102 (tryW (goM q f) q h F s c 114 (tryW (goM q f) q h F s c 46 b))) (tryW (goM q f) q h F s c 114 (tryW (goM q f) q h F s c 46 b)) with h3 | h3
      · exact hT 102 (by decide) _ h3
      · have e3 : tryW (goM q f) q h F s c 102 (tryW (goM q f) q h F s c 114 (tryW (goM q f) q h F s c 46 b)) = tryW (goM q f) q h F s c 114 (tryW (goM q f) q h F s c 46 b) := Nat.le_antisymm l3 h3
        rw [e3] at hlt ⊢
        rcases Nat.lt_or_ge (tryW (goM q f) q h F s c 114 (tryW (goM q f) q h F s c 46 b)) (tryW (goM q f) q h F s c 46 b) with h2 | h2
        · exact hT 114 (by decide) _ h2
        · have e2 : tryW (goM q f) q h F s c 114 (tryW (goM q f) q h F s c 46 b) = tryW (goM q f) q h F s c 46 b := Nat.le_antisymm l2 h2
          rw [e2] at hlt ⊢
          exact hT 46 (by decide) _ hlt
end

/-- the least cost of leading p to q -/
def least (g : Grid) (p q : Nat) : Nat := goM q (4 * (nR g * nC g)) g (List.replicate (nR g * nC g) false) (enterN (nR g) (nC g) p) 0 100
theorem replicate_false (n i : Nat) : (List.replicate n false).getD i false = false := by
  rw [List.getD_eq_getElem?_getD, List.getElem?_replicate]; split <;> rfl
theorem least_le {g k : Grid} {p q : Nat} (hG : GridOk g) (hp : p < ports g) (hk : GridOk k) (hn : nR k = nR g) (hm : nC k = nC g) (hw : (way k p).2 = q) : least g p q ≤ apart g k := by
  have hpk : p < ports k := by unfold ports; rw [hn, hm]; exact hp
  have := goM_complete (p := p) (q := q) (4 * (nR g * nC g)) g (List.replicate (nR g * nC g) false) (enterN (nR g) (nC g) p) 0 100 hG hp (by simp) (Enough.start g _) k hk ⟨hn, hm, fun cell _ h => by rw [replicate_false] at h; cases h⟩ ⟨_, by have := way_walk hk.sz hpk; rw [hw, hn, hm] at this; exact this⟩
  unfold least
  omega
theorem least_is {g : Grid} {p q : Nat} (hG : GridOk g) (hp : p < ports g) (h : least g p q < 100) : ∃ k, GridOk k ∧ nR k = nR g ∧ nC k = nC g ∧ (way k p).2 = q ∧ least g p q = apart g k := by
  obtain ⟨k, h1, h2, ⟨L, h3⟩, h4⟩ := goM_sound (p := p) (q := q) (4 * (nR g * nC g)) g (List.replicate (nR g * nC g) false) (enterN (nR g) (nC g) p) 0 100 hG hp (by simp) (Enough.start g _) h
  have hn := h2.n
  have hm := h2.m
  have hpk : p < ports k := by unfold ports; rw [hn, hm]; exact hp
  have hw := way_walk h1.sz hpk
  rw [hn, hm] at hw
  have he := (h3.det hw).2.symm
  have hl := least_le hG hp h1 hn hm he
  refine ⟨k, h1, hn, hm, he, Nat.le_antisymm hl ?_⟩
  unfold least; omega
theorem least_lt {g : Grid} {p q : Nat} (hG : GridOk g) (hp : p < ports g) (hq : q < ports g) (hpq : p ≠ q) (h9 : nR g * nC g ≤ 9) : least g p q ≤ nR g * nC g := by
  obtain ⟨k, h1, hn, hm, hw⟩ := some_leads hG.n1 hG.n5 hG.m1 hG.m5 h9 (p := p) (q := q) hp hq hpq
  exact Nat.le_trans (least_le hG hp h1 hn hm hw) (apart_le hG k)
end Go.Proofs.YtmhmdlgcdeodmaaDoor
