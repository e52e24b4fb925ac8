/- Terms: trees, how they are read, their sizes, their grids. -/
import Derived.Test.YtnilefmlbedfcaaNum
namespace Go.Proofs.Ytnilefmlbedfcaa
set_option maxRecDepth 100000
set_option linter.unusedSimpArgs false
set_option linter.unusedVariables false

inductive Tm where
  | leaf (c : UInt8)
  | una (s : UInt8) (a : Tm)
  | bin (s : UInt8) (a b : Tm)
def Tm.sign : Tm → UInt8
  | .leaf c => c
  | .una s _ => s
  | .bin s _ _ => s
def isU (b : UInt8) : Bool := decide (b = 62) || decide (b = 94) || decide (b = 42)
def isB (b : UInt8) : Bool := decide (b = 124) || decide (b = 45)
def rdI (s : Str) : Nat → Nat → Option (Tm × Nat)
  | 0, _ => none
  | f + 1, p =>
    if s.length ≤ p then none
    else if okL (s.getD p 0) = true then some (.leaf (s.getD p 0), p + 1)
    else if isU (s.getD p 0) = true then (match rdI s f (p + 1) with
      | none => none
      | some (a, e) => some (.una (s.getD p 0) a, e))
    else if s.getD p 0 ≠ 40 then none
    else match rdI s f (p + 1) with
      | none => none
      | some (a, q) => if s.length ≤ q ∨ isB (s.getD q 0) = false then none
        else match rdI s f (q + 1) with
          | none => none
          | some (c, e) => if s.length ≤ e ∨ s.getD e 0 ≠ 41 then none else some (.bin (s.getD q 0) a c, e + 1)
section
variable {s : Str} {f p : Nat}
theorem rdI_end (h : s.length ≤ p) : rdI s (f + 1) p = none := by rw [rdI, if_pos h]
theorem rdI_leaf (h : p < s.length) (hb : okL (s.getD p 0) = true) : rdI s (f + 1) p = some (.leaf (s.getD p 0), p + 1) := by rw [rdI, if_neg (by omega), if_pos hb]
theorem rdI_una (h : p < s.length) (hb : okL (s.getD p 0) = false) (hu : isU (s.getD p 0) = true) : rdI s (f + 1) p = match rdI s f (p + 1) with
      | none => none
      | some (a, e) => some (.una (s.getD p 0) a, e) := by rw [rdI, if_neg (by omega), if_neg (by rw [hb]; decide), if_pos hu]
theorem rdI_bad (h : p < s.length) (hb : okL (s.getD p 0) = false) (hu : isU (s.getD p 0) = false) (h4 : s.getD p 0 ≠ 40) : rdI s (f + 1) p = none := by rw [rdI, if_neg (by omega), if_neg (by rw [hb]; decide), if_neg (by rw [hu]; decide), if_pos h4]
theorem rdI_bin (h : p < s.length) (h4 : s.getD p 0 = 40) : rdI s (f + 1) p = match rdI s f (p + 1) with
      | none => none
      | some (a, q) => if s.length ≤ q ∨ isB (s.getD q 0) = false then none
        else match rdI s f (q + 1) with
          | none => none
          | some (c, e) => if s.length ≤ e ∨ s.getD e 0 ≠ 41 then none else some (.bin (s.getD q 0) a c, e + 1) := by
  rw [rdI, if_neg (by omega), if_neg (by rw [h4]; decide), if_neg (by rw [h4]; decide), if_neg (by rw [h4]; decide)]
end
/-- what the reader leaves -/
inductive Wf : Tm → Prop
  | leaf {c} (h : okL c = true) : Wf (.leaf c)
  | una {s a} (h : isU s = true) (ha : Wf a) : Wf (.una s a)
  | bin {s a b} (h : isB s = true) (ha : Wf a) (hb : Wf b) : Wf (.bin s a b)
theorem rdI_ok {s : Str} : ∀ {f p : Nat} {t : Tm} {e : Nat}, rdI s f p = some (t, e) → Wf t ∧ p < e ∧ e ≤ s.length
  | 0, p, t, e, h => by cases h
  | f + 1, p, t, e, h => by
    by_cases h1 : s.length ≤ p
    · rw [rdI_end h1] at h; cases h
    · by_cases h2 : okL (s.getD p 0) = true
      · rw [rdI_leaf (by omega) h2] at h
        cases h
        exact ⟨.leaf h2, by omega, by omega⟩
      · have h2' : okL (s.getD p 0) = false := by simpa using h2
        by_cases h3 : isU (s.getD p 0) = true
        · rw [rdI_una (by omega) h2' h3] at h
          cases hr : rdI s f (p + 1) with
          | none => rw [hr] at h; cases h
          | some x =>
            rw [hr] at h
            cases h
            obtain ⟨k1, k2, k3⟩ := rdI_ok (t := x.1) (e := x.2) hr
            exact ⟨.una h3 k1, by omega, k3⟩
        · have h3' : isU (s.getD p 0) = false := by simpa using h3
          by_cases h4 : s.getD p 0 = 40
          · rw [rdI_bin (by omega) h4] at h
            cases hr : rdI s f (p + 1) with
            | none => rw [hr] at h; cases h
            | some x =>
              rw [hr] at h
              simp only at h
              obtain ⟨k1, k2, k3⟩ := rdI_ok (t := x.1) (e := x.2) hr
              by_cases h5 : s.length ≤ x.2 ∨ isB (s.getD x.2 0) = false
              · rw [if_pos h5] at h; cases h
              · rw [if_neg h5] at h
                cases hq : rdI s f (x.2 + 1) with
                | none => rw [hq] at h; cases h
                | some y =>
                  rw [hq] at h
                  simp only at h
                  obtain ⟨j1, j2, j3⟩ := rdI_ok (t := y.1) (e := y.2) hq
                  by_cases h6 : s.length ≤ y.2 ∨ s.getD y.2 0 ≠ 41
                  · rw [if_pos h6] at h; cases h
                  · rw [if_neg h6] at h
                    cases h
                    refine ⟨.bin ?_ k1 j1, by omega, by omega⟩
                    cases hb : isB (s.getD x.2 0) with
                    | true => rfl
                    | false => exact absurd (.inr hb) h5
          · rw [rdI_bad (by omega) h2' h3' h4] at h; cases h

/-! sizes and grids -/
def sz : Tm → Nat × Nat
  | .leaf _ => (1, 1)
  | .una s a => if s = 62 then ((sz a).2, (sz a).1) else sz a
  | .bin s a b => if s = 124 then ((sz a).1, (sz a).2 + (sz b).2) else ((sz a).1 + (sz b).1, (sz a).2)
def valid : Tm → Bool
  | .leaf _ => true
  | .una _ a => valid a
  | .bin s a b => valid a && valid b && (if s = 124 then decide ((sz a).1 = (sz b).1 ∧ (sz a).2 + (sz b).2 ≤ 5) else decide ((sz a).2 = (sz b).2 ∧ (sz a).1 + (sz b).1 ≤ 5))
def turnG (g : Grid) : Grid := gridOf (nC g) (nR g) fun r c => exch ((g.getD (nR g - 1 - c) []).getD r 0)
def flipG (g : Grid) : Grid := gridOf (nR g) (nC g) fun r c => exch ((g.getD r []).getD (nC g - 1 - c) 0)
def otherG (g : Grid) : Grid := gridOf (nR g) (nC g) fun r c => exch ((g.getD r []).getD c 0)
def besideG (g h : Grid) : Grid := (List.range (nR g)).map fun i => g.getD i [] ++ h.getD i []
def gridT : Tm → Grid
  | .leaf c => [[c]]
  | .una s a => if s = 62 then turnG (gridT a) else if s = 94 then flipG (gridT a) else otherG (gridT a)
  | .bin s a b => if s = 124 then besideG (gridT a) (gridT b) else gridT a ++ gridT b
theorem exch_ok {c : UInt8} (h : okL c = true) : okL (exch c) = true := by
  have h := of_decide_eq_true h
  rcases h with rfl | rfl | rfl <;> decide
theorem turnG_ok {g : Grid} (h : GridOk g) : GridOk (turnG g) ∧ nR (turnG g) = nC g ∧ nC (turnG g) = nR g :=
  ⟨gridOf_ok h.m1 h.m5 h.n1 h.n5 fun i k hi hk => exch_ok (h.ok _ (show nR g - 1 - k < nR g by omega) i hi), gridOf_nR _ _ _, gridOf_nC _ _ h.m1⟩
theorem flipG_ok {g : Grid} (h : GridOk g) : GridOk (flipG g) ∧ nR (flipG g) = nR g ∧ nC (flipG g) = nC g :=
  ⟨gridOf_ok h.n1 h.n5 h.m1 h.m5 fun i k hi hk => exch_ok (h.ok i hi _ (show nC g - 1 - k < nC g by omega)), gridOf_nR _ _ _, gridOf_nC _ _ h.n1⟩
theorem otherG_ok {g : Grid} (h : GridOk g) : GridOk (otherG g) ∧ nR (otherG g) = nR g ∧ nC (otherG g) = nC g :=
  ⟨gridOf_ok h.n1 h.n5 h.m1 h.m5 fun i k hi hk => exch_ok (h.ok i hi k hk), gridOf_nR _ _ _, gridOf_nC _ _ h.n1⟩
theorem besideG_len (g h : Grid) : (besideG g h).length = nR g := by simp [besideG]
theorem besideG_row {g h : Grid} {i : Nat} (hi : i < nR g) : (besideG g h).getD i [] = g.getD i [] ++ h.getD i [] := by
  unfold besideG
  simp [List.getD_eq_getElem?_getD, hi]
theorem besideG_ok {g h : Grid} (hg : GridOk g) (hh : GridOk h) (hn : nR g = nR h) (hm : nC g + nC h ≤ 5) : GridOk (besideG g h) ∧ nR (besideG g h) = nR g ∧ nC (besideG g h) = nC g + nC h := by
  have hl := besideG_len g h
  have hrow : ∀ i, i < nR g → ((besideG g h).getD i []).length = nC g + nC h := fun i hi => by
    rw [besideG_row hi, List.length_append, hg.row i hi, hh.row i (show i < nR h by rw [← hn]; exact hi)]
  have h0 := hrow 0 hg.n1
  have hm1 : 1 ≤ nC g := hg.m1
  refine ⟨⟨by rw [hl]; exact hg.n1, by rw [hl]; exact hg.n5, by rw [h0]; omega, by rw [h0]; exact hm, fun i hi => by rw [hrow i (by rw [hl] at hi; exact hi), h0], fun i hi j hj => ?_⟩, hl, h0⟩
  rw [hl] at hi
  rw [h0] at hj
  rw [besideG_row hi, List.getD_eq_getElem?_getD, List.getElem?_append]
  have r1 := hg.row i hi
  have r2 := hh.row i (show i < nR h by rw [← hn]; exact hi)
  split
  · next hk => rw [← List.getD_eq_getElem?_getD]; exact hg.ok i hi j (by rw [r1] at hk; exact hk)
  · next hk => rw [← List.getD_eq_getElem?_getD]; exact hh.ok i (show i < nR h by rw [← hn]; exact hi) _ (by rw [r1] at hk ⊢; have : j < nC g + nC h := hj; unfold nC at *; omega)
theorem under_get {g h : Grid} (i : Nat) : (g ++ h).getD i [] = if i < g.length then g.getD i [] else h.getD (i - g.length) [] := by
  rw [List.getD_eq_getElem?_getD, List.getElem?_append]
  split
  · rw [List.getD_eq_getElem?_getD]
  · rw [List.getD_eq_getElem?_getD]
theorem under_ok {g h : Grid} (hg : GridOk g) (hh : GridOk h) (hm : nC g = nC h) (hn : nR g + nR h ≤ 5) : GridOk (g ++ h) ∧ nR (g ++ h) = nR g + nR h ∧ nC (g ++ h) = nC g := by
  have hl : (g ++ h).length = g.length + h.length := List.length_append
  have n1 := hg.n1
  have h0 : ((g ++ h).getD 0 []).length = nC g := by rw [under_get, if_pos (show 0 < g.length by omega)]
  have hrow : ∀ i, i < (g ++ h).length → ((g ++ h).getD i []).length = nC g := fun i hi => by
    rw [under_get]
    split
    · next hk => exact hg.row i hk
    · next hk => rw [hm]; exact hh.row _ (by omega)
  refine ⟨⟨by omega, by rw [hl]; exact hn, by rw [h0]; exact hg.m1, by rw [h0]; exact hg.m5, fun i hi => by rw [hrow i hi, h0], fun i hi j hj => ?_⟩, hl, h0⟩
  rw [h0] at hj
  rw [under_get]
  split
  · next hk => exact hg.ok i hk j hj
  · next hk => exact hh.ok _ (by omega) j (by rw [hm] at hj; exact hj)
theorem gridT_ok {t : Tm} (h : Wf t) : valid t = true → GridOk (gridT t) ∧ nR (gridT t) = (sz t).1 ∧ nC (gridT t) = (sz t).2 := by
  induction h with
  | leaf hc =>
    intro _
    refine ⟨⟨by simp [gridT], by simp [gridT], by simp [gridT], by simp [gridT], fun i hi => ?_, fun i hi j hj => ?_⟩, rfl, rfl⟩
    · simp [gridT] at hi; subst hi; rfl
    · simp [gridT] at hi hj; subst hi; subst hj; exact hc
  | @una s a hs ha ih =>
    intro hv
    obtain ⟨k1, k2, k3⟩ := ih hv
    unfold gridT sz
    by_cases h1 : s = 62
    · rw [if_pos h1, if_pos h1]
      obtain ⟨j1, j2, j3⟩ := turnG_ok k1
      exact ⟨j1, by rw [j2, k3], by rw [j3, k2]⟩
    · rw [if_neg h1, if_neg h1]
      by_cases h2 : s = 94
      · rw [if_pos h2]
        obtain ⟨j1, j2, j3⟩ := flipG_ok k1
        exact ⟨j1, by rw [j2, k2], by rw [j3, k3]⟩
      · rw [if_neg h2]
        obtain ⟨j1, j2, j3⟩ := otherG_ok k1
        exact ⟨j1, by rw [j2, k2], by rw [j3, k3]⟩
  | @bin s a b hs ha hb iha ihb =>
    intro hv
    rw [valid, Bool.and_eq_true, Bool.and_eq_true] at hv
    obtain ⟨⟨v1, v2⟩, v3⟩ := hv
    obtain ⟨k1, k2, k3⟩ := iha v1
    obtain ⟨j1, j2, j3⟩ := ihb v2
    unfold gridT sz
    by_cases h1 : s = 124
    · rw [if_pos h1] at v3 ⊢
      rw [if_pos h1]
      have v3 := of_decide_eq_true v3
      obtain ⟨q1, q2, q3⟩ := besideG_ok k1 j1 (by rw [k2, j2]; exact v3.1) (by rw [k3, j3]; exact v3.2)
      exact ⟨q1, by rw [q2, k2], by rw [q3, k3, j3]⟩
    · rw [if_neg h1] at v3 ⊢
      rw [if_neg h1]
      have v3 := of_decide_eq_true v3
      obtain ⟨q1, q2, q3⟩ := under_ok k1 j1 (by rw [k3, j3]; exact v3.1) (by rw [k2, j2]; exact v3.2)
      exact ⟨q1, by rw [q2, k2, j2], by rw [q3, k3]⟩
/-- a whole text -/
def readT (s : Str) : Option Tm := if 60 < s.length then none else match rdI s (s.length + 1) 0 with
  | none => none
  | some (t, e) => if e = s.length then some t else none
def termT (s : Str) : Option Tm := match readT s with
  | none => none
  | some t => if valid t = true then some t else none
end Go.Proofs.Ytnilefmlbedfcaa
