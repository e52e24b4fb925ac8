/- Terms: trees, how they are read, their sizes, their grids. -/
import Derived.Test.YtmlkabddhdkpaaaJnCn
namespace Go.Proofs.Ytmlkabddhdkpaaa
set_option maxRecDepth 100000
set_option linter.unusedSimpArgs false
set_option linter.unusedVariables false

inductive Tm where
  | leaf (c : UInt8)
  | una (s : UInt8) (a : Tm)
  | bin (s : UInt8) (a b : Tm)
def Tm.sign : Tm → UInt8
  | .leaf c => c
  | .una s _ => s
  | .bin s _ _ => s
def isU (b : UInt8) : Bool := decide (b = 62) || decide (b = 94) || decide (b = 42)
def isB (b : UInt8) : Bool := decide (b = 124) || decide (b = 45)
def rdI (s : Str) : Nat → Nat → Option (Tm × Nat)
  | 0, _ => none
  | f + 1, p =>
    if s.length ≤ p then none
    else if okL (s.getD p 0) = true then some (.leaf (s.getD p 0), p + 1)
    else if isU (s.getD p 0) = true then (match rdI s f (p + 1) with
      | none => none
      | some (a, e) => some (.una (s.getD p 0) a, e))
    else if s.getD p 0 ≠ 40 then none
    else match rdI s f (p + 1) with
      | none => none
      | some (a, q) => if s.length ≤ q ∨ isB (s.getD q 0) = false then none
        else match rdI s f (q + 1) with
          | none => none
          | some (c, e) => if s.length ≤ e ∨ s.getD e 0 ≠ 41 then none else some (.bin (s.getD q 0) a c, e + 1)
section
variable {s : Str} {f p : Nat}
theorem rdI_end (h : s.length ≤ p) : rdI s (f + 1) p = none := by rw [rdI, if_pos h]
theorem rdI_leaf (h : p < s.length) (hb : okL (s.getD p 0) = true) : rdI s (f + 1) p = some (.leaf (s.getD p 0), p + 1) := by rw [rdI, if_neg (by omega), if_pos hb]
theorem rdI_una (h : p < s.length) (hb : okL (s.getD p 0) = false) (hu : isU (s.getD p 0) = true) : rdI s (f + 1) p = match rdI s f (p + 1) with
      | none => none
      | some (a, e) => some (.una (s.getD p 0) a, e) := by rw [rdI, if_neg (by omega), if_neg (by rw [hb]; decide), if_pos hu]
theorem rdI_bad (h : p < s.length) (hb : okL (s.getD p 0) = false) (hu : isU (s.getD p 0) = false) (h4 : s.getD p 0 ≠ 40) : rdI s (f + 1) p = none := by rw [rdI, if_neg (by omega), if_neg (by rw [hb]; decide), if_neg (by rw [hu]; decide), if_pos h4]
theorem rdI_bin (h : p < s.length) (h4 : s.getD p 0 = 40) : rdI s (f + 1) p = match rdI s f (p + 1) with
      | none => none
      | some (a, q) => if s.length ≤ q ∨ isB (s.getD q 0) = false then none
        else match rdI s f (q + 1) with
          | none => none
          | some (c, e) => if s.length ≤ e ∨ s.getD e 0 ≠ 41 then none else some (.bin (s.getD q 0) a c, e + 1) := by
  rw [rdI, if_neg (by omega), if_neg (by rw [h4]; decide), if_neg (by rw [h4]; decide), if_neg (by rw [h4]; decide)]
end
/-- what the reader leaves -/
inductive Wf : Tm → Prop
  | leaf {c} (h : okL c = true) : Wf (.leaf c)
  | una {s a} (h : isU s = true) (ha : Wf a) : Wf (.una s a)
  | bin {s a b} (h : isB s = true) (ha : Wf a) (hb : Wf b) : Wf (.bin s a b)
theorem rdI_ok {s : Str} : ∀ {f p : Nat} {t : Tm} {e : Nat}, rdI s f p = some (t, e) → Wf t ∧ p < e ∧ e ≤ s.length
  | 0, p, t, e, h => by cases h
  | f + 1, p, t, e, h => by
    by_cases h1 : s.length ≤ p
    · rw [rdI_end h1] at h; cases h
    · by_cases h2 : okL (s.getD p 0) = true
      · rw [rdI_leaf (by omega) h2] at h
        cases h
        exact ⟨.leaf h2, by omega, by omega⟩
      · have h2' : okL (s.getD p 0) = false := by simpa using h2
        by_cases h3 : isU (s.getD p 0) = true
        · rw [rdI_una (by omega) h2' h3] at h
          cases hr : rdI s f (p + 1) with
          | none => rw [hr] at h; cases h
          | some x =>
            rw [hr] at h
            cases h
            obtain ⟨k1, k2, k3⟩ := rdI_ok (t := x.1) (e := x.2) hr
            exact ⟨.una h3 k1, by omega, k3⟩
        · have h3' : isU (s.getD p 0) = false := by simpa using h3
          by_cases h4 : s.getD p 0 = 40
          · rw [rdI_bin (by omega) h4] at h
            cases hr : rdI s f (p + 1) with
            | none => rw [hr] at h; cases h
            | some x =>
              rw [hr] at h
              simp only at h
              obtain ⟨k1, k2, k3⟩ := rdI_ok (t := x.1) (e := x.2) hr
              by_cases h5 : s.length ≤ x.2 ∨ isB (s.getD x.2 0) = false
              · rw [if_pos h5] at h; cases h
              · rw [if_neg h5] at h
                cases hq : rdI s f (x.2 + 1) with
                | none => rw [hq] at h; cases h
                | some y =>
                  rw [hq] at h
                  simp only at h
                  obtain ⟨j1, j2, j3⟩ := rdI_ok (t := y.1) (e := y.2) hq
                  by_cases h6 : s.length ≤ y.2 ∨ s.getD y.2 0 ≠ 41
                  · rw [if_pos h6] at h; cases h
                  · rw [if_neg h6] at h
                    cases h
                    refine ⟨.bin ?_ k1 j1, by omega, by omega⟩
                    cases hb : isB (s.getD x.2 0) with
                    | true => rfl
                    | false => exact absurd (.inr hb) h5
          · rw [rdI_bad (by omega) h2' h3' h4] at h; cases h

/-! sizes and grids -/
def sz : Tm → Nat × Nat
  | .leaf _ => (1, 1)
  | .una s a => if s = 62 then ((sz a).2, (sz a).1) else sz a
  | .bin s a b => if s = 124 then ((sz a).1, (sz a).2 + (sz b).2) else ((sz a).1 + (sz b).1, (sz a).2)
def valid : Tm → Bool
  | .leaf _ => true
  | .una _ a => valid a
  | .bin s a b => valid a && valid b && (if s = 124 then decide ((sz a).1 = (sz b).1 ∧ (sz a).2 + (sz b).2 ≤ 5) else decide ((sz a).2 = (sz b).2 ∧ (sz a).1 + (sz b).1 ≤ 5))
def turnG (g : Grid) : Grid := gridOf (nC g) (nR g) fun r c => exch ((g.getD (nR g - 1 - c) []).getD r 0)
def flipG (g : Grid) : Grid := gridOf (nR g) (nC g) fun r c => exch ((g.getD r []).getD (nC g - 1 - c) 0)
def otherG (g : Grid) : Grid := gridOf (nR g) (nC g) fun r c => exch ((g.getD r []).getD c 0)
def besideG (g h : Grid) : Grid := (List.range (nR g)).map fun i => g.getD i [] ++ h.getD i []
def gridT : Tm → Grid
  | .leaf c => [[c]]
  | .una s a => if s = 62 then turnG (gridT a) else if s = 94 then flipG (gridT a) else otherG (gridT a)
  | .bin s a b => if s = 124 then besideG (gridT a) (gridT b) else gridT a ++ gridT b
theorem exch_ok {c : UInt8} (h : okL c = true) : okL (exch c) = true := by
  have h := of_decide_eq_true h
  rcases h with rfl | rfl | rfl <;> decide
theorem turnG_ok {g : Grid} (h : GridOk g) : GridOk (turnG g) ∧ nR (turnG g) = nC g ∧ nC (turnG g) = nR g :=
  ⟨gridOf_ok h.m1 h.m5 h.n1 h.n5 fun i k hi hk => exch_ok (h.ok _ (show nR g - 1 - k < nR g by omega) i hi), gridOf_nR _ _ _, gridOf_nC _ _ h.m1⟩
theorem flipG_ok {g : Grid} (h : GridOk g) : GridOk (flipG g) ∧ nR (flipG g) = nR g ∧ nC (flipG g) = nC g :=
  ⟨gridOf_ok h.n1 h.n5 h.m1 h.m5 fun i k hi hk => exch_ok (h.ok i hi _ (show nC g - 1 - k < nC g by omega)), gridOf_nR _ _ _, gridOf_nC _ _ h.n1⟩
theorem otherG_ok {g : Grid} (h : GridOk g) : GridOk (otherG g) ∧ nR (otherG g) = nR g ∧ nC (otherG g) = nC g :=
  ⟨gridOf_ok h.n1 h.n5 h.m1 h.m5 fun i k hi hk => exch_ok (h.ok i hi k hk), gridOf_nR _ _ _, gridOf_nC _ _ h.n1⟩
theorem besideG_len (g h : Grid) : (besideG g h).length = nR g := by simp [besideG]
theorem besideG_row {g h : Grid} {i : Nat} (hi : i < nR g) : (besideG g h).getD i [] = g.getD i [] ++ h.getD i [] := by
  unfold besideG
  simp [List.getD_eq_getElem?_getD, hi]
theorem besideG_ok {g h : Grid} (hg : GridOk g) (hh : GridOk h) (hn : nR g = nR h) (hm : nC g + nC h ≤ 5) : GridOk (besideG g h) ∧ nR (besideG g h) = nR g ∧ nC (besideG g h) = nC g + nC h := by
  have hl := besideG_len g h
  have hrow : ∀ i, i < nR g → ((besideG g h).getD i []).length = nC g + nC h := fun i hi => by
    rw [besideG_row hi, List.length_append, hg.row i hi, hh.row i (show i < nR h by rw [← hn]; exact hi)]
  have h0 := hrow 0 hg.n1
  have hm1 : 1 ≤ nC g := hg.m1
  refine ⟨⟨by rw [hl]; exact hg.n1, by rw [hl]; exact hg.n5, by rw [h0]; omega, by rw [h0]; exact hm, fun i hi => by rw [hrow i (by rw [hl] at hi; exact hi), h0], fun i hi j hj => ?_⟩, hl, h0⟩
  rw [hl] at hi
  rw [h0] at hj
  rw [besideG_row hi, List.getD_eq_getElem?_getD, List.getElem?_append]
  have r1 := hg.row i hi
  have r2 := hh.row i (show i < nR h by rw [← hn]; exact hi)
  split
  · next hk => rw [← List.getD_eq_getElem?_getD]; exact hg.ok i hi j (by rw [r1] at hk; exact hk)
  · next hk => rw [← List.getD_eq_getElem?_getD]; exact hh.ok i (show i < nR h by rw [← hn]; exact hi) _ (by rw [r1] at hk ⊢; have : j < nC g + nC h := hj; unfold nC at *; omega)
theorem under_get {g h : Grid} (i : Nat) : (g ++ h).getD i [] = if i < g.length then g.getD i [] else h.getD (i - g.length) [] := by
  rw [List.getD_eq_getElem?_getD, List.getElem?_append]
  split
  · rw [List.getD_eq_getElem?_getD]
  · rw [List.getD_eq_getElem?_getD]
theorem under_ok {g h : Grid} (hg : GridOk g) (hh : GridOk h) (hm : nC g = nC h) (hn : nR g + nR h ≤ 5) : GridOk (g ++ h) ∧ nR (g ++ h) = nR g + nR h ∧ nC (g ++ h) = nC g := by
  have hl : (g ++ h).length = g.length + h.length := List.length_append
  have n1 := hg.n1
  have h0 : ((g ++ h).getD 0 []).length = nC g := by rw [under_get, if_pos (show 0 < g.length by omega)]
  have hrow : ∀ i, i < (g ++ h).length → ((g ++ h).getD i []).length = nC g := fun i hi => by
    rw [under_get]
    split
    · next hk => exact hg.row i hk
    · next hk => rw [hm]; exact hh.row _ (by omega)
  refine ⟨⟨by omega, by rw [hl]; exact hn, by rw [h0]; exact hg.m1, by rw [h0]; exact hg.m5, fun i hi => by rw [hrow i hi, h0], fun i hi j hj => ?_⟩, hl, h0⟩
  rw [h0] at hj
  rw [under_get]
  split
  · next hk => exact hg.ok i hk j hj
  · next hk => exact hh.ok _ (by omega) j (by rw [hm] at hj; exact hj)
theorem gridT_ok {t : Tm} (h : Wf t) : valid t = true → GridOk (gridT t) ∧ nR (gridT t) = (sz t).1 ∧ nC (gridT t) = (sz t).2 := by
  induction h with
  | leaf hc =>
    intro _
    refine ⟨⟨by simp [gridT], by simp [gridT], by simp [gridT], by simp [gridT], fun i hi => ?_, fun i hi j hj => ?_⟩, rfl, rfl⟩
    · simp [gridT] at hi; subst hi; rfl
    · simp [gridT] at hi hj; subst hi; subst hj; exact hc
  | @una s a hs ha ih =>
    intro hv
    obtain ⟨k1, k2, k3⟩ := ih hv
    unfold gridT sz
    by_cases h1 : s = 62
    · rw [if_pos h1, if_pos h1]
      obtain ⟨j1, j2, j3⟩ := turnG_ok k1
      exact ⟨j1, by rw [j2, k3], by rw [j3, k2]⟩
    · rw [if_neg h1, if_neg h1]
      by_cases h2 : s = 94
      · rw [if_pos h2]
        obtain ⟨j1, j2, j3⟩ := flipG_ok k1
        exact ⟨j1, by rw [j2, k2], by rw [j3, k3]⟩
      · rw [if_neg h2]
        obtain ⟨j1, j2, j3⟩ := otherG_ok k1
        exact ⟨j1, by rw [j2, k2], by rw [j3, k3]⟩
  | @bin s a b hs ha hb iha ihb =>
    intro hv
    rw [valid, Bool.and_eq_true, Bool.and_eq_true] at hv
    obtain ⟨⟨v1, v2⟩, v3⟩ := hv
    obtain ⟨k1, k2, k3⟩ := iha v1
    obtain ⟨j1, j2, j3⟩ := ihb v2
    unfold gridT sz
    by_cases h1 : s = 124
    · rw [if_pos h1] at v3 ⊢
      rw [if_pos h1]
      have v3 := of_decide_eq_true v3
      obtain ⟨q1, q2, q3⟩ := besideG_ok k1 j1 (by rw [k2, j2]; exact v3.1) (by rw [k3, j3]; exact v3.2)
      exact ⟨q1, by rw [q2, k2], by rw [q3, k3, j3]⟩
    · rw [if_neg h1] at v3 ⊢
      rw [if_neg h1]
      have v3 := of_decide_eq_true v3
      obtain ⟨q1, q2, q3⟩ := under_ok k1 j1 (by rw [k3, j3]; exact v3.1) (by rw [k2, j2]; exact v3.2)
      exact ⟨q1, by rw [q2, k2, j2], by rw [q3, k3]⟩
/-- a whole text -/
def readT (s : Str) : Option Tm := if 60 < s.length then none else match rdI s (s.length + 1) 0 with
  | none => none
  | some (t, e) => if e = s.length then some t else none
def termT (s : Str) : Option Tm := match readT s with
  | none => none
  | some t => if valid t = true then some t else none
end Go.Proofs.Ytmlkabddhdkpaaa

/- Texts that go on: a sign in front, a bracket behind. -/
namespace Go.Proofs.Ytmlkabddhdkpaaa
set_option maxRecDepth 100000
set_option linter.unusedSimpArgs false
set_option linter.unusedVariables false
theorem rdI_shift (c : UInt8) (s : Str) : ∀ (f p : Nat), rdI (c :: s) f (p + 1) = (rdI s f p).map fun x => (x.1, x.2 + 1)
  | 0, p => rfl
  | f + 1, p => by
    have hg : ∀ q, (c :: s).getD (q + 1) 0 = s.getD q 0 := fun q => rfl
    have hl : (c :: s).length = s.length + 1 := rfl
    by_cases h1 : s.length ≤ p
    · rw [rdI_end h1, rdI_end (by omega)]; rfl
    · by_cases h2 : okL (s.getD p 0) = true
      · rw [rdI_leaf (by omega) h2, rdI_leaf (by omega) (by rw [hg]; exact h2), hg]; rfl
      · have h2' : okL (s.getD p 0) = false := by simpa using h2
        by_cases h3 : isU (s.getD p 0) = true
        · rw [rdI_una (by omega) h2' h3, rdI_una (by omega) (by rw [hg]; exact h2') (by rw [hg]; exact h3), hg, rdI_shift c s f (p + 1)]
          cases rdI s f (p + 1) <;> rfl
        · have h3' : isU (s.getD p 0) = false := by simpa using h3
          by_cases h4 : s.getD p 0 = 40
          · rw [rdI_bin (by omega) h4, rdI_bin (by omega) (by rw [hg]; exact h4), rdI_shift c s f (p + 1)]
            cases rdI s f (p + 1) with
            | none => rfl
            | some x =>
              obtain ⟨a, q⟩ := x
              simp only [Option.map_some]
              rw [hg, hl]
              by_cases h5 : s.length ≤ q ∨ isB (s.getD q 0) = false
              · rw [if_pos h5, if_pos (h5.imp (fun h => by omega) id)]; rfl
              · rw [if_neg h5, if_neg (fun hc => h5 (hc.imp (fun h => by omega) id)), rdI_shift c s f (q + 1)]
                cases rdI s f (q + 1) with
                | none => rfl
                | some y =>
                  obtain ⟨b, e⟩ := y
                  simp only [Option.map_some]
                  rw [hg]
                  by_cases h6 : s.length ≤ e ∨ s.getD e 0 ≠ 41
                  · rw [if_pos h6, if_pos (h6.imp (fun h => by omega) id)]; rfl
                  · rw [if_neg h6, if_neg (fun hc => h6 (hc.imp (fun h => by omega) id))]; rfl
          · rw [rdI_bad (by omega) h2' h3' h4, rdI_bad (by omega) (by rw [hg]; exact h2') (by rw [hg]; exact h3') (by rw [hg]; exact h4)]; rfl
theorem rdI_more (x : Str) (s : Str) : ∀ (f p : Nat) (r : Tm × Nat), rdI s f p = some r → ∀ f', f ≤ f' → rdI (s ++ x) f' p = some r
  | 0, p, r, h, _, _ => by cases h
  | f + 1, p, r, h, f', hf => by
    obtain ⟨k, rfl⟩ : ∃ k, f' = k + 1 := ⟨f' - 1, by omega⟩
    have hl : (s ++ x).length = s.length + x.length := List.length_append
    have hg : ∀ q, q < s.length → (s ++ x).getD q 0 = s.getD q 0 := fun q hq => by
      rw [List.getD_eq_getElem?_getD, List.getD_eq_getElem?_getD, List.getElem?_append_left hq]
    by_cases h1 : s.length ≤ p
    · rw [rdI_end h1] at h; cases h
    · have hp : p < s.length := by omega
      by_cases h2 : okL (s.getD p 0) = true
      · rw [rdI_leaf hp h2] at h
        rw [rdI_leaf (by omega) (by rw [hg p hp]; exact h2), hg p hp]; exact h
      · have h2' : okL (s.getD p 0) = false := by simpa using h2
        by_cases h3 : isU (s.getD p 0) = true
        · rw [rdI_una hp h2' h3] at h
          rw [rdI_una (by omega) (by rw [hg p hp]; exact h2') (by rw [hg p hp]; exact h3), hg p hp]
          cases hr : rdI s f (p + 1) with
          | none => rw [hr] at h; cases h
          | some y => rw [hr] at h; rw [rdI_more x s f (p + 1) y hr k (by omega)]; exact h
        · have h3' : isU (s.getD p 0) = false := by simpa using h3
          by_cases h4 : s.getD p 0 = 40
          · rw [rdI_bin hp h4] at h
            rw [rdI_bin (by omega) (by rw [hg p hp]; exact h4)]
            cases hr : rdI s f (p + 1) with
            | none => rw [hr] at h; cases h
            | some y =>
              obtain ⟨a, q⟩ := y
              rw [hr] at h
              simp only at h
              rw [rdI_more x s f (p + 1) _ hr k (by omega)]
              simp only
              by_cases h5 : s.length ≤ q ∨ isB (s.getD q 0) = false
              · rw [if_pos h5] at h; cases h
              · have hq : q < s.length := by omega
                rw [if_neg h5] at h
                rw [hg q hq, if_neg (fun hc => h5 (hc.imp (fun h => by omega) id))]
                cases hr2 : rdI s f (q + 1) with
                | none => rw [hr2] at h; cases h
                | some z =>
                  obtain ⟨b, e⟩ := z
                  rw [hr2] at h
                  simp only at h
                  rw [rdI_more x s f (q + 1) _ hr2 k (by omega)]
                  simp only
                  by_cases h6 : s.length ≤ e ∨ s.getD e 0 ≠ 41
                  · rw [if_pos h6] at h; cases h
                  · have he : e < s.length := by omega
                    rw [if_neg h6] at h
                    rw [hg e he, if_neg (fun hc => h6 (hc.imp (fun h => by omega) id))]
                    exact h
          · rw [rdI_bad hp h2' h3' h4] at h; cases h
theorem readT_ex {s : Str} {t : Tm} (h : readT s = some t) : s.length ≤ 60 ∧ rdI s (s.length + 1) 0 = some (t, s.length) := by
  unfold readT at h
  split at h
  · cases h
  · next h6 =>
    refine ⟨by omega, ?_⟩
    split at h
    · cases h
    · next t1 e hr =>
      split at h
      · next he => cases h; rw [he] at hr; exact hr
      · cases h
theorem termT_ex {s : Str} {t : Tm} (h : termT s = some t) : readT s = some t ∧ valid t = true := by
  unfold termT at h
  split at h
  · cases h
  · next t1 hr =>
    split at h
    · next hv => cases h; exact ⟨hr, hv⟩
    · cases h
/-- a sign in front -/
theorem termT_sign {c : UInt8} {s : Str} {t : Tm} (hc : isU c = true) (hb : okL c = false) (h : termT s = some t) (hl : s.length ≤ 59) : termT (c :: s) = some (.una c t) := by
  obtain ⟨h1, hv⟩ := termT_ex h
  obtain ⟨_, h2⟩ := readT_ex h1
  have h3 : rdI (c :: s) ((c :: s).length + 1) 0 = some (.una c t, (c :: s).length) := by
    rw [rdI_una (by simp) (show okL ((c :: s).getD 0 0) = false from hb) (show isU ((c :: s).getD 0 0) = true from hc)]
    rw [show (c :: s).length = s.length + 1 from rfl, rdI_shift c s (s.length + 1) 0, h2]; rfl
  unfold termT readT
  rw [if_neg (by simp; omega), h3]
  dsimp only
  rw [if_pos rfl]
  dsimp only
  rw [if_pos (show valid (.una c t) = true from hv)]
/-- a bracket behind -/
theorem termT_tail {s : Str} {t : Tm} (c : UInt8) (h : termT s = some t) : termT (s ++ [c]) = none := by
  obtain ⟨h1, hv⟩ := termT_ex h
  obtain ⟨_, h2⟩ := readT_ex h1
  have h3 := rdI_more [c] s _ _ _ h2 ((s ++ [c]).length + 1) (by simp)
  unfold termT readT
  by_cases h6 : 60 < (s ++ [c]).length
  · rw [if_pos h6]
  · rw [if_neg h6, h3]
    dsimp only
    rw [if_neg (by simp)]
end Go.Proofs.Ytmlkabddhdkpaaa

/- Tidy terms: signs go inwards. -/
namespace Go.Proofs.Ytmlkabddhdkpaaa
set_option maxRecDepth 100000
set_option linter.unusedSimpArgs false
set_option linter.unusedVariables false
theorem exch2 (c : UInt8) : exch (exch c) = c := by
  unfold exch
  by_cases h1 : c = 114
  · subst h1; decide
  · by_cases h2 : c = 102
    · subst h2; decide
    · simp [h1, h2]
/-- no signs in front -/
inductive Td : Tm → Prop
  | leaf {c} (h : okL c = true) : Td (.leaf c)
  | bin {s a b} (h : s = 124 ∨ s = 45) (ha : Td a) (hb : Td b) : Td (.bin s a b)
def signedT (g : UInt8) : Tm → Tm
  | .leaf c => .leaf (exch c)
  | .una s a => .una s a
  | .bin s a b => if g = 62 ∧ s = 124 then .bin 45 (signedT g a) (signedT g b)
    else if g = 62 then .bin 124 (signedT g b) (signedT g a)
    else if g = 94 ∧ s = 124 then .bin 124 (signedT g b) (signedT g a)
    else .bin s (signedT g a) (signedT g b)
def tidyT : Tm → Tm
  | .leaf c => .leaf c
  | .una s a => signedT s (tidyT a)
  | .bin s a b => .bin s (tidyT a) (tidyT b)
def textT : Tm → Str
  | .leaf c => [c]
  | .una _ _ => []
  | .bin s a b => [40] ++ textT a ++ [s] ++ textT b ++ [41]
theorem signed_td {g : UInt8} {t : Tm} (h : Td t) : Td (signedT g t) := by
  induction h with
  | leaf h => exact .leaf (exch_ok h)
  | @bin s a b hs ha hb iha ihb =>
    unfold signedT
    split
    · exact .bin (.inr rfl) iha ihb
    · split
      · exact .bin (.inl rfl) ihb iha
      · split
        · exact .bin (.inl rfl) ihb iha
        · exact .bin hs iha ihb
theorem Td.of {t : Tm} (h : Wf t) : Td (tidyT t) := by
  induction h with
  | leaf h => exact .leaf h
  | una h ha ih => exact signed_td ih
  | bin h ha hb iha ihb => exact .bin (by simpa [isB] using h) iha ihb
theorem tidy_td {t : Tm} (h : Td t) : tidyT t = t := by
  induction h with
  | leaf h => rfl
  | bin h ha hb iha ihb => rw [tidyT, iha, ihb]
theorem Td.wf {t : Tm} (h : Td t) : Wf t := by
  induction h with
  | leaf h => exact .leaf h
  | bin h ha hb iha ihb => exact .bin (by simpa [isB] using h) iha ihb
/-! the reference's way: turns, flipped, exchanged -/
def stepS (x : UInt8 × Bool) : UInt8 × Bool := if x.1 = 124 then (45, x.2) else (124, !x.2)
def stepsS : Nat → UInt8 × Bool → UInt8 × Bool
  | 0, x => x
  | k + 1, x => stepS (stepsS k x)
def tidyS : Tm → Nat → Bool → Bool → Str
  | .leaf c, k, f, o => [if ((decide (k % 2 = 1)) != f) != o then exch c else c]
  | .una s a, k, f, o => if s = 62 then (if f = true then tidyS a ((k + 3) % 4) f o else tidyS a ((k + 1) % 4) f o) else if s = 94 then tidyS a k (!f) o else tidyS a k f (!o)
  | .bin s a b, k, f, o => if (stepsS k (s, f && decide (s = 124))).2 = true then [40] ++ tidyS b k f o ++ [(stepsS k (s, f && decide (s = 124))).1] ++ tidyS a k f o ++ [41]
    else [40] ++ tidyS a k f o ++ [(stepsS k (s, f && decide (s = 124))).1] ++ tidyS b k f o ++ [41]
def act (k : Nat) (f o : Bool) : Tm → Tm
  | .leaf c => .leaf (if ((decide (k % 2 = 1)) != f) != o then exch c else c)
  | .una s a => .una s a
  | .bin s a b => if (stepsS k (s, f && decide (s = 124))).2 = true then .bin (stepsS k (s, f && decide (s = 124))).1 (act k f o b) (act k f o a) else .bin (stepsS k (s, f && decide (s = 124))).1 (act k f o a) (act k f o b)
theorem lt4 {k : Nat} (h : k < 4) : k = 0 ∨ k = 1 ∨ k = 2 ∨ k = 3 := by omega
theorem act_62 {t : Tm} (h : Td t) {k : Nat} (hk : k < 4) (f o : Bool) : act k f o (signedT 62 t) = act (if f = true then (k + 3) % 4 else (k + 1) % 4) f o t := by
  induction h with
  | @leaf c h =>
    rcases lt4 hk with rfl | rfl | rfl | rfl <;> cases f <;> cases o <;> simp [signedT, act, exch2]
  | @bin s a b hs ha hb iha ihb =>
    rcases hs with rfl | rfl
    · rw [signedT, if_pos ⟨rfl, rfl⟩, act, act, iha, ihb]
      rcases lt4 hk with rfl | rfl | rfl | rfl <;> cases f <;> simp [stepsS, stepS]
    · rw [signedT, if_neg (by decide), if_pos rfl, act, act, iha, ihb]
      rcases lt4 hk with rfl | rfl | rfl | rfl <;> cases f <;> simp [stepsS, stepS]
theorem act_94 {t : Tm} (h : Td t) {k : Nat} (hk : k < 4) (f o : Bool) : act k f o (signedT 94 t) = act k (!f) o t := by
  induction h with
  | @leaf c h =>
    rcases lt4 hk with rfl | rfl | rfl | rfl <;> cases f <;> cases o <;> simp [signedT, act, exch2]
  | @bin s a b hs ha hb iha ihb =>
    rcases hs with rfl | rfl
    · rw [signedT, if_neg (by decide), if_neg (by decide), if_pos ⟨rfl, rfl⟩, act, act, iha, ihb]
      rcases lt4 hk with rfl | rfl | rfl | rfl <;> cases f <;> simp [stepsS, stepS]
    · rw [signedT, if_neg (by decide), if_neg (by decide), if_neg (by decide), act, act, iha, ihb]
      rcases lt4 hk with rfl | rfl | rfl | rfl <;> cases f <;> simp [stepsS, stepS]
theorem act_42 {t : Tm} (h : Td t) {k : Nat} (hk : k < 4) (f o : Bool) : act k f o (signedT 42 t) = act k f (!o) t := by
  induction h with
  | @leaf c h =>
    rcases lt4 hk with rfl | rfl | rfl | rfl <;> cases f <;> cases o <;> simp [signedT, act, exch2]
  | @bin s a b hs ha hb iha ihb =>
    rcases hs with rfl | rfl
    · rw [signedT, if_neg (by decide), if_neg (by decide), if_neg (by decide), act, act, iha, ihb]
    · rw [signedT, if_neg (by decide), if_neg (by decide), if_neg (by decide), act, act, iha, ihb]
theorem act_0 {t : Tm} (h : Td t) : act 0 false false t = t := by
  induction h with
  | leaf h => rfl
  | @bin s a b hs ha hb iha ihb =>
    rcases hs with rfl | rfl <;> (rw [act, iha, ihb]; simp [stepsS])
theorem act_td {t : Tm} (h : Td t) (k : Nat) (f o : Bool) : Td (act k f o t) := by
  induction h with
  | @leaf c h =>
    unfold act
    refine .leaf ?_
    split
    · exact exch_ok h
    · exact h
  | @bin s a b hs ha hb iha ihb =>
    have hst : ∀ k x, (x.1 = 124 ∨ x.1 = 45) → ((stepsS k x).1 = 124 ∨ (stepsS k x).1 = 45) := by
      intro k
      induction k with
      | zero => exact fun x h => h
      | succ k ih => intro x hx; unfold stepsS stepS; split <;> simp
    unfold act
    split
    · exact .bin (hst _ _ hs) ihb iha
    · exact .bin (hst _ _ hs) iha ihb
theorem tidyS_eq {t : Tm} (h : Wf t) : ∀ (k : Nat) (f o : Bool), k < 4 → tidyS t k f o = textT (act k f o (tidyT t)) := by
  induction h with
  | leaf h => exact fun k f o _ => rfl
  | @una s a hs ha ih =>
    intro k f o hk
    have hT := Td.of ha
    have h3 : s = 62 ∨ s = 94 ∨ s = 42 := by
      unfold isU at hs
      simp only [Bool.or_eq_true, decide_eq_true_eq] at hs
      rcases hs with (h | h) | h <;> simp [h]
    rw [tidyS, tidyT]
    rcases h3 with rfl | rfl | rfl
    · rw [if_pos rfl, act_62 hT hk]
      split
      · exact ih _ _ _ (Nat.mod_lt _ (by omega))
      · exact ih _ _ _ (Nat.mod_lt _ (by omega))
    · rw [if_neg (by decide), if_pos rfl, act_94 hT hk]
      exact ih _ _ _ hk
    · rw [if_neg (by decide), if_neg (by decide), act_42 hT hk]
      exact ih _ _ _ hk
  | @bin s a b hs ha hb iha ihb =>
    intro k f o hk
    rw [tidyS, tidyT, act, iha k f o hk, ihb k f o hk]
    split <;> rfl
theorem tidyS_0 {t : Tm} (h : Wf t) : tidyS t 0 false false = textT (tidyT t) := by rw [tidyS_eq h 0 false false (by omega), act_0 (Td.of h)]
/-! lengths -/
theorem signed_len {g : UInt8} {t : Tm} (h : Td t) : (textT (signedT g t)).length = (textT t).length := by
  induction h with
  | leaf h => rfl
  | @bin s a b hs ha hb iha ihb =>
    unfold signedT
    (repeat' split) <;> simp only [textT, List.length_append, List.length_cons, List.length_nil, iha, ihb] <;> omega
/-- how long the text of a term is -/
def lenT : Tm → Nat
  | .leaf _ => 1
  | .una _ a => 1 + lenT a
  | .bin _ a b => 3 + lenT a + lenT b
theorem rdI_len {s : Str} : ∀ {f p : Nat} {t : Tm} {e : Nat}, rdI s f p = some (t, e) → e = p + lenT t
  | 0, p, t, e, h => by cases h
  | f + 1, p, t, e, h => by
    by_cases h1 : s.length ≤ p
    · rw [rdI_end h1] at h; cases h
    · by_cases h2 : okL (s.getD p 0) = true
      · rw [rdI_leaf (by omega) h2] at h
        cases h; rfl
      · have h2' : okL (s.getD p 0) = false := by simpa using h2
        by_cases h3 : isU (s.getD p 0) = true
        · rw [rdI_una (by omega) h2' h3] at h
          cases hr : rdI s f (p + 1) with
          | none => rw [hr] at h; cases h
          | some x =>
            rw [hr] at h
            cases h
            have := rdI_len (t := x.1) (e := x.2) hr
            unfold lenT; omega
        · have h3' : isU (s.getD p 0) = false := by simpa using h3
          by_cases h4 : s.getD p 0 = 40
          · rw [rdI_bin (by omega) h4] at h
            cases hr : rdI s f (p + 1) with
            | none => rw [hr] at h; cases h
            | some x =>
              rw [hr] at h
              simp only at h
              have k1 := rdI_len (t := x.1) (e := x.2) hr
              by_cases h5 : s.length ≤ x.2 ∨ isB (s.getD x.2 0) = false
              · rw [if_pos h5] at h; cases h
              · rw [if_neg h5] at h
                cases hq : rdI s f (x.2 + 1) with
                | none => rw [hq] at h; cases h
                | some y =>
                  rw [hq] at h
                  simp only at h
                  have k2 := rdI_len (t := y.1) (e := y.2) hq
                  by_cases h6 : s.length ≤ y.2 ∨ s.getD y.2 0 ≠ 41
                  · rw [if_pos h6] at h; cases h
                  · rw [if_neg h6] at h
                    cases h
                    show y.2 + 1 = p + (3 + lenT x.1 + lenT y.1)
                    omega
          · rw [rdI_bad (by omega) h2' h3' h4] at h; cases h
theorem tidy_len {t : Tm} (h : Wf t) : (textT (tidyT t)).length ≤ lenT t := by
  induction h with
  | leaf h => exact Nat.le_refl _
  | una h ha ih => rw [tidyT, signed_len (Td.of ha), lenT]; omega
  | bin h ha hb iha ihb =>
    rw [tidyT, lenT, textT]
    simp only [List.length_append, List.length_cons, List.length_nil]
    omega
theorem td_len {t : Tm} (h : Td t) : (textT t).length = lenT t := by
  induction h with
  | leaf h => rfl
  | bin h ha hb iha ihb =>
    rw [lenT, textT]
    simp only [List.length_append, List.length_cons, List.length_nil]
    omega
/-! tidy terms are read again -/
theorem rdI_text {t : Tm} (h : Td t) : ∀ (x y : Str) (f : Nat), lenT t ≤ f → rdI (x ++ textT t ++ y) f x.length = some (t, x.length + lenT t) := by
  induction h with
  | @leaf c h =>
    intro x y f hf
    obtain ⟨f, rfl⟩ : ∃ k, f = k + 1 := ⟨f - 1, by simp only [lenT] at hf; omega⟩
    have hc : (x ++ textT (.leaf c) ++ y).getD x.length 0 = c := by simp [textT, List.getD_eq_getElem?_getD]
    rw [rdI_leaf (by simp [textT]) (by rw [hc]; exact h), hc]; rfl
  | @bin s a b hs ha hb iha ihb =>
    intro x y f hf
    obtain ⟨f, rfl⟩ : ∃ k, f = k + 1 := ⟨f - 1, by simp only [lenT] at hf; omega⟩
    simp only [lenT] at hf
    have hla := td_len ha
    have hlb := td_len hb
    have e0 : x ++ textT (.bin s a b) ++ y = (x ++ [40]) ++ textT a ++ ([s] ++ textT b ++ [41] ++ y) := by simp [textT]
    have e1 : x ++ textT (.bin s a b) ++ y = (x ++ [40] ++ textT a ++ [s]) ++ textT b ++ ([41] ++ y) := by simp [textT]
    have hl : (x ++ textT (.bin s a b) ++ y).length = x.length + (3 + lenT a + lenT b) + y.length := by
      rw [e0]; simp only [List.length_append, List.length_cons, List.length_nil]; omega
    have hc0 : (x ++ textT (.bin s a b) ++ y).getD x.length 0 = 40 := by simp [textT, List.getD_eq_getElem?_getD]
    have hc1 : (x ++ textT (.bin s a b) ++ y).getD (x.length + 1 + lenT a) 0 = s := by
      have hlen : (x ++ [40] ++ textT a).length = x.length + 1 + lenT a := by simp only [List.length_append, List.length_cons, List.length_nil]; omega
      rw [e0, List.getD_eq_getElem?_getD, ← hlen, List.getElem?_append_right (Nat.le_refl _), Nat.sub_self]; rfl
    have hc2 : (x ++ textT (.bin s a b) ++ y).getD (x.length + 1 + lenT a + 1 + lenT b) 0 = 41 := by
      have hlen : (x ++ [40] ++ textT a ++ [s] ++ textT b).length = x.length + 1 + lenT a + 1 + lenT b := by simp only [List.length_append, List.length_cons, List.length_nil]; omega
      rw [e1, List.getD_eq_getElem?_getD, ← hlen, List.getElem?_append_right (Nat.le_refl _), Nat.sub_self]; rfl
    have ra : rdI (x ++ textT (.bin s a b) ++ y) f (x.length + 1) = some (a, x.length + 1 + lenT a) := by
      rw [e0]
      have := iha (x ++ [40]) ([s] ++ textT b ++ [41] ++ y) f (by omega)
      simpa using this
    have rb : rdI (x ++ textT (.bin s a b) ++ y) f (x.length + 1 + lenT a + 1) = some (b, x.length + 1 + lenT a + 1 + lenT b) := by
      rw [e1]
      have := ihb (x ++ [40] ++ textT a ++ [s]) ([41] ++ y) f (by omega)
      have hxl : (x ++ [40] ++ textT a ++ [s]).length = x.length + 1 + lenT a + 1 := by simp only [List.length_append, List.length_cons, List.length_nil]; omega
      rw [hxl] at this
      exact this
    generalize x ++ textT (.bin s a b) ++ y = S at *
    rw [rdI_bin (by omega) hc0, ra]
    dsimp only
    rw [hc1, if_neg (by rcases hs with rfl | rfl <;> simp [isB] <;> omega), rb]
    dsimp only
    rw [hc2, if_neg (by simp; omega)]
    rw [lenT]
    congr 2
    omega
theorem readT_text {t : Tm} (h : Td t) (h60 : (textT t).length ≤ 60) : readT (textT t) = some t := by
  have h1 := rdI_text h [] [] ((textT t).length + 1) (by rw [td_len h]; omega)
  simp only [List.nil_append, List.append_nil, List.length_nil, Nat.zero_add] at h1
  unfold readT
  rw [if_neg (by omega), h1]
  dsimp only
  rw [if_pos (td_len h).symm]
end Go.Proofs.Ytmlkabddhdkpaaa

/- Tidy terms tell the same grids. -/
namespace Go.Proofs.Ytmlkabddhdkpaaa
set_option maxRecDepth 100000
set_option linter.unusedSimpArgs false
set_option linter.unusedVariables false
def cl (g : Grid) (i k : Nat) : UInt8 := (g.getD i []).getD k 0
theorem gext {g h : Grid} (hG : GridOk g) (hH : GridOk h) (hn : nR g = nR h) (hm : nC g = nC h) (he : ∀ i k, i < nR g → k < nC g → cl g i k = cl h i k) : g = h := by
  rw [← gridOf_self hG, ← gridOf_self hH, ← hn, ← hm]
  exact gridOf_ext he
theorem cl_turn {g : Grid} {i k : Nat} (hi : i < nC g) (hk : k < nR g) : cl (turnG g) i k = exch (cl g (nR g - 1 - k) i) := gridOf_at _ _ _ hi hk
theorem cl_flip {g : Grid} {i k : Nat} (hi : i < nR g) (hk : k < nC g) : cl (flipG g) i k = exch (cl g i (nC g - 1 - k)) := gridOf_at _ _ _ hi hk
theorem cl_other {g : Grid} {i k : Nat} (hi : i < nR g) (hk : k < nC g) : cl (otherG g) i k = exch (cl g i k) := gridOf_at _ _ _ hi hk
theorem cl_beside {g h : Grid} (hg : GridOk g) {i k : Nat} (hi : i < nR g) : cl (besideG g h) i k = if k < nC g then cl g i k else cl h i (k - nC g) := by
  unfold cl
  rw [besideG_row hi, List.getD_eq_getElem?_getD, List.getElem?_append]
  have r1 := hg.row i hi
  have r2 : (g.getD i []).length = nC g := r1
  rw [r2]
  split <;> simp only [List.getD_eq_getElem?_getD]
theorem cl_under {g h : Grid} (i k : Nat) : cl (g ++ h) i k = if i < nR g then cl g i k else cl h (i - nR g) k := by
  unfold cl
  rw [under_get]
  show (if i < nR g then _ else _ : Str).getD k 0 = _
  split <;> rfl
section
variable {g h : Grid} (hg : GridOk g) (hh : GridOk h)
include hg hh
theorem turn_beside (hn : nR g = nR h) (hm : nC g + nC h ≤ 5) : turnG (besideG g h) = turnG g ++ turnG h := by
  obtain ⟨b1, b2, b3⟩ := besideG_ok hg hh hn hm
  obtain ⟨t1, t2, t3⟩ := turnG_ok b1
  obtain ⟨u1, u2, u3⟩ := turnG_ok hg
  obtain ⟨v1, v2, v3⟩ := turnG_ok hh
  obtain ⟨w1, w2, w3⟩ := under_ok u1 v1 (by omega) (by omega)
  refine gext t1 w1 (by omega) (by omega) fun i k hi hk => ?_
  rw [cl_turn (by omega) (by omega), cl_beside hg (by omega), cl_under, u2, b2]
  split
  · rw [cl_turn (by omega) (by omega)]
  · rw [cl_turn (by omega) (by omega), hn]
theorem turn_under (hm : nC g = nC h) (hn : nR g + nR h ≤ 5) : turnG (g ++ h) = besideG (turnG h) (turnG g) := by
  obtain ⟨b1, b2, b3⟩ := under_ok hg hh hm hn
  obtain ⟨t1, t2, t3⟩ := turnG_ok b1
  obtain ⟨u1, u2, u3⟩ := turnG_ok hg
  obtain ⟨v1, v2, v3⟩ := turnG_ok hh
  obtain ⟨w1, w2, w3⟩ := besideG_ok v1 u1 (by omega) (by omega)
  refine gext t1 w1 (by omega) (by omega) fun i k hi hk => ?_
  rw [cl_turn (by omega) (by omega), cl_under, cl_beside v1 (by omega), v3, b2]
  by_cases h1 : k < nR h
  · rw [if_neg (by omega), if_pos h1, cl_turn (by omega) (by omega)]
    congr 2; omega
  · rw [if_pos (by omega), if_neg h1, cl_turn (by omega) (by omega)]
    congr 2; omega
theorem flip_beside (hn : nR g = nR h) (hm : nC g + nC h ≤ 5) : flipG (besideG g h) = besideG (flipG h) (flipG g) := by
  obtain ⟨b1, b2, b3⟩ := besideG_ok hg hh hn hm
  obtain ⟨t1, t2, t3⟩ := flipG_ok b1
  obtain ⟨u1, u2, u3⟩ := flipG_ok hg
  obtain ⟨v1, v2, v3⟩ := flipG_ok hh
  obtain ⟨w1, w2, w3⟩ := besideG_ok v1 u1 (by omega) (by omega)
  refine gext t1 w1 (by omega) (by omega) fun i k hi hk => ?_
  rw [cl_flip (by omega) (by omega), cl_beside hg (by omega), cl_beside v1 (by omega), v3, b3]
  by_cases h1 : k < nC h
  · rw [if_neg (by omega), if_pos h1, cl_flip (by omega) (by omega)]
    congr 2; omega
  · rw [if_pos (by omega), if_neg h1, cl_flip (by omega) (by omega)]
    congr 2; omega
theorem flip_under (hm : nC g = nC h) (hn : nR g + nR h ≤ 5) : flipG (g ++ h) = flipG g ++ flipG h := by
  obtain ⟨b1, b2, b3⟩ := under_ok hg hh hm hn
  obtain ⟨t1, t2, t3⟩ := flipG_ok b1
  obtain ⟨u1, u2, u3⟩ := flipG_ok hg
  obtain ⟨v1, v2, v3⟩ := flipG_ok hh
  obtain ⟨w1, w2, w3⟩ := under_ok u1 v1 (by omega) (by omega)
  refine gext t1 w1 (by omega) (by omega) fun i k hi hk => ?_
  rw [cl_flip (by omega) (by omega), cl_under, cl_under, u2, b3]
  split
  · rw [cl_flip (by omega) (by omega)]
  · rw [cl_flip (by omega) (by omega), hm]
theorem other_beside (hn : nR g = nR h) (hm : nC g + nC h ≤ 5) : otherG (besideG g h) = besideG (otherG g) (otherG h) := by
  obtain ⟨b1, b2, b3⟩ := besideG_ok hg hh hn hm
  obtain ⟨t1, t2, t3⟩ := otherG_ok b1
  obtain ⟨u1, u2, u3⟩ := otherG_ok hg
  obtain ⟨v1, v2, v3⟩ := otherG_ok hh
  obtain ⟨w1, w2, w3⟩ := besideG_ok u1 v1 (by omega) (by omega)
  refine gext t1 w1 (by omega) (by omega) fun i k hi hk => ?_
  rw [cl_other (by omega) (by omega), cl_beside hg (by omega), cl_beside u1 (by omega), u3]
  split
  · rw [cl_other (by omega) (by omega)]
  · rw [cl_other (by omega) (by omega)]
theorem other_under (hm : nC g = nC h) (hn : nR g + nR h ≤ 5) : otherG (g ++ h) = otherG g ++ otherG h := by
  obtain ⟨b1, b2, b3⟩ := under_ok hg hh hm hn
  obtain ⟨t1, t2, t3⟩ := otherG_ok b1
  obtain ⟨u1, u2, u3⟩ := otherG_ok hg
  obtain ⟨v1, v2, v3⟩ := otherG_ok hh
  obtain ⟨w1, w2, w3⟩ := under_ok u1 v1 (by omega) (by omega)
  refine gext t1 w1 (by omega) (by omega) fun i k hi hk => ?_
  rw [cl_other (by omega) (by omega), cl_under, cl_under, u2]
  split
  · rw [cl_other (by omega) (by omega)]
  · rw [cl_other (by omega) (by omega)]
end
theorem valid_b {a b : Tm} (h : valid (.bin 124 a b) = true) : valid a = true ∧ valid b = true ∧ (sz a).1 = (sz b).1 ∧ (sz a).2 + (sz b).2 ≤ 5 := by
  rw [valid, Bool.and_eq_true, Bool.and_eq_true, if_pos rfl] at h
  obtain ⟨⟨h1, h2⟩, h3⟩ := h
  have h3 := of_decide_eq_true h3
  exact ⟨h1, h2, h3.1, h3.2⟩
theorem valid_u {a b : Tm} (h : valid (.bin 45 a b) = true) : valid a = true ∧ valid b = true ∧ (sz a).2 = (sz b).2 ∧ (sz a).1 + (sz b).1 ≤ 5 := by
  rw [valid, Bool.and_eq_true, Bool.and_eq_true, if_neg (by decide)] at h
  obtain ⟨⟨h1, h2⟩, h3⟩ := h
  have h3 := of_decide_eq_true h3
  exact ⟨h1, h2, h3.1, h3.2⟩
theorem valid_mkb {a b : Tm} (h1 : valid a = true) (h2 : valid b = true) (h3 : (sz a).1 = (sz b).1) (h4 : (sz a).2 + (sz b).2 ≤ 5) : valid (.bin 124 a b) = true := by
  rw [valid, h1, h2, if_pos rfl, decide_eq_true ⟨h3, h4⟩]; rfl
theorem valid_mku {a b : Tm} (h1 : valid a = true) (h2 : valid b = true) (h3 : (sz a).2 = (sz b).2) (h4 : (sz a).1 + (sz b).1 ≤ 5) : valid (.bin 45 a b) = true := by
  rw [valid, h1, h2, if_neg (by decide), decide_eq_true ⟨h3, h4⟩]; rfl
theorem sz_b (a b : Tm) : sz (.bin 124 a b) = ((sz a).1, (sz a).2 + (sz b).2) := by rw [sz, if_pos rfl]
theorem sz_u (a b : Tm) : sz (.bin 45 a b) = ((sz a).1 + (sz b).1, (sz a).2) := by rw [sz, if_neg (by decide)]
theorem g_b (a b : Tm) : gridT (.bin 124 a b) = besideG (gridT a) (gridT b) := by rw [gridT, if_pos rfl]
theorem g_u (a b : Tm) : gridT (.bin 45 a b) = gridT a ++ gridT b := by rw [gridT, if_neg (by decide)]
theorem one_ok {c : UInt8} (h : okL c = true) : GridOk [[c]] := (gridT_ok (.leaf h) rfl).1
theorem signed62 {t : Tm} (h : Td t) : valid t = true → valid (signedT 62 t) = true ∧ sz (signedT 62 t) = ((sz t).2, (sz t).1) ∧ gridT (signedT 62 t) = turnG (gridT t) := by
  induction h with
  | @leaf c h => exact fun _ => ⟨rfl, rfl, rfl⟩
  | @bin s a b hs ha hb iha ihb =>
    rcases hs with rfl | rfl
    · intro hv
      obtain ⟨va, vb, h3, h4⟩ := valid_b hv
      obtain ⟨a1, a2, a3⟩ := iha va
      obtain ⟨b1, b2, b3⟩ := ihb vb
      obtain ⟨p1, p2, p3⟩ := gridT_ok ha.wf va
      obtain ⟨q1, q2, q3⟩ := gridT_ok hb.wf vb
      rw [signedT, if_pos ⟨rfl, rfl⟩, sz_u, sz_b, g_u, g_b, a2, b2, a3, b3, turn_beside p1 q1 (by omega) (by omega)]
      exact ⟨valid_mku a1 b1 (by rw [a2, b2]; exact h3) (by rw [a2, b2]; exact h4), rfl, rfl⟩
    · intro hv
      obtain ⟨va, vb, h3, h4⟩ := valid_u hv
      obtain ⟨a1, a2, a3⟩ := iha va
      obtain ⟨b1, b2, b3⟩ := ihb vb
      obtain ⟨p1, p2, p3⟩ := gridT_ok ha.wf va
      obtain ⟨q1, q2, q3⟩ := gridT_ok hb.wf vb
      rw [signedT, if_neg (by decide), if_pos rfl, sz_u, sz_b, g_u, g_b, a2, b2, a3, b3, turn_under p1 q1 (by omega) (by omega)]
      exact ⟨valid_mkb b1 a1 (by rw [a2, b2]; exact h3.symm) (by rw [a2, b2]; dsimp only; omega), Prod.ext h3.symm (Nat.add_comm _ _), rfl⟩
theorem signed94 {t : Tm} (h : Td t) : valid t = true → valid (signedT 94 t) = true ∧ sz (signedT 94 t) = sz t ∧ gridT (signedT 94 t) = flipG (gridT t) := by
  induction h with
  | @leaf c h => exact fun _ => ⟨rfl, rfl, rfl⟩
  | @bin s a b hs ha hb iha ihb =>
    rcases hs with rfl | rfl
    · intro hv
      obtain ⟨va, vb, h3, h4⟩ := valid_b hv
      obtain ⟨a1, a2, a3⟩ := iha va
      obtain ⟨b1, b2, b3⟩ := ihb vb
      obtain ⟨p1, p2, p3⟩ := gridT_ok ha.wf va
      obtain ⟨q1, q2, q3⟩ := gridT_ok hb.wf vb
      rw [signedT, if_neg (by decide), if_neg (by decide), if_pos ⟨rfl, rfl⟩, sz_b, sz_b, g_b, g_b, a2, b2, a3, b3, flip_beside p1 q1 (by omega) (by omega)]
      exact ⟨valid_mkb b1 a1 (by rw [a2, b2]; exact h3.symm) (by rw [a2, b2]; omega), Prod.ext h3.symm (Nat.add_comm _ _), rfl⟩
    · intro hv
      obtain ⟨va, vb, h3, h4⟩ := valid_u hv
      obtain ⟨a1, a2, a3⟩ := iha va
      obtain ⟨b1, b2, b3⟩ := ihb vb
      obtain ⟨p1, p2, p3⟩ := gridT_ok ha.wf va
      obtain ⟨q1, q2, q3⟩ := gridT_ok hb.wf vb
      rw [signedT, if_neg (by decide), if_neg (by decide), if_neg (by decide), sz_u, sz_u, g_u, g_u, a2, b2, a3, b3, flip_under p1 q1 (by omega) (by omega)]
      exact ⟨valid_mku a1 b1 (by rw [a2, b2]; exact h3) (by rw [a2, b2]; exact h4), rfl, rfl⟩
theorem signed42 {t : Tm} (h : Td t) : valid t = true → valid (signedT 42 t) = true ∧ sz (signedT 42 t) = sz t ∧ gridT (signedT 42 t) = otherG (gridT t) := by
  induction h with
  | @leaf c h => exact fun _ => ⟨rfl, rfl, rfl⟩
  | @bin s a b hs ha hb iha ihb =>
    rcases hs with rfl | rfl
    · intro hv
      obtain ⟨va, vb, h3, h4⟩ := valid_b hv
      obtain ⟨a1, a2, a3⟩ := iha va
      obtain ⟨b1, b2, b3⟩ := ihb vb
      obtain ⟨p1, p2, p3⟩ := gridT_ok ha.wf va
      obtain ⟨q1, q2, q3⟩ := gridT_ok hb.wf vb
      rw [signedT, if_neg (by decide), if_neg (by decide), if_neg (by decide), sz_b, sz_b, g_b, g_b, a2, b2, a3, b3, other_beside p1 q1 (by omega) (by omega)]
      exact ⟨valid_mkb a1 b1 (by rw [a2, b2]; exact h3) (by rw [a2, b2]; exact h4), rfl, rfl⟩
    · intro hv
      obtain ⟨va, vb, h3, h4⟩ := valid_u hv
      obtain ⟨a1, a2, a3⟩ := iha va
      obtain ⟨b1, b2, b3⟩ := ihb vb
      obtain ⟨p1, p2, p3⟩ := gridT_ok ha.wf va
      obtain ⟨q1, q2, q3⟩ := gridT_ok hb.wf vb
      rw [signedT, if_neg (by decide), if_neg (by decide), if_neg (by decide), sz_u, sz_u, g_u, g_u, a2, b2, a3, b3, other_under p1 q1 (by omega) (by omega)]
      exact ⟨valid_mku a1 b1 (by rw [a2, b2]; exact h3) (by rw [a2, b2]; exact h4), rfl, rfl⟩
theorem tidy_same {t : Tm} (h : Wf t) : valid t = true → valid (tidyT t) = true ∧ sz (tidyT t) = sz t ∧ gridT (tidyT t) = gridT t := by
  induction h with
  | leaf h => exact fun _ => ⟨rfl, rfl, rfl⟩
  | @una s a hs ha ih =>
    intro hv
    have hT := Td.of ha
    obtain ⟨k1, k2, k3⟩ := ih hv
    have h3 : s = 62 ∨ s = 94 ∨ s = 42 := by
      unfold isU at hs
      simp only [Bool.or_eq_true, decide_eq_true_eq] at hs
      rcases hs with (h | h) | h <;> simp [h]
    rw [tidyT, sz, gridT]
    rcases h3 with rfl | rfl | rfl
    · obtain ⟨j1, j2, j3⟩ := signed62 hT k1
      rw [if_pos rfl, if_pos rfl, j2, j3, k2, k3]
      exact ⟨j1, rfl, rfl⟩
    · obtain ⟨j1, j2, j3⟩ := signed94 hT k1
      rw [if_neg (by decide), if_neg (by decide), if_pos rfl, j2, j3, k2, k3]
      exact ⟨j1, rfl, rfl⟩
    · obtain ⟨j1, j2, j3⟩ := signed42 hT k1
      rw [if_neg (by decide), if_neg (by decide), if_neg (by decide), j2, j3, k2, k3]
      exact ⟨j1, rfl, rfl⟩
  | @bin s a b hs ha hb iha ihb =>
    intro hv
    have h3 : s = 124 ∨ s = 45 := by simpa [isB] using hs
    rw [tidyT]
    rcases h3 with rfl | rfl
    · obtain ⟨va, vb, h3, h4⟩ := valid_b hv
      obtain ⟨a1, a2, a3⟩ := iha va
      obtain ⟨b1, b2, b3⟩ := ihb vb
      rw [sz_b, sz_b, g_b, g_b, a2, b2, a3, b3]
      exact ⟨valid_mkb a1 b1 (by rw [a2, b2]; exact h3) (by rw [a2, b2]; exact h4), rfl, rfl⟩
    · obtain ⟨va, vb, h3, h4⟩ := valid_u hv
      obtain ⟨a1, a2, a3⟩ := iha va
      obtain ⟨b1, b2, b3⟩ := ihb vb
      rw [sz_u, sz_u, g_u, g_u, a2, b2, a3, b3]
      exact ⟨valid_mku a1 b1 (by rw [a2, b2]; exact h3) (by rw [a2, b2]; exact h4), rfl, rfl⟩
theorem termT_len {s : Str} {t : Tm} (h : termT s = some t) : s.length = lenT t ∧ s.length ≤ 60 := by
  obtain ⟨h1, _⟩ := termT_ex h
  obtain ⟨h2, h3⟩ := readT_ex h1
  have := rdI_len h3
  omega
theorem wf_of_termT {s : Str} {t : Tm} (h : termT s = some t) : Wf t := (rdI_ok (readT_ex (termT_ex h).1).2).1
/-- a text is read as its tidy term's tree -/
theorem termT_text {u : Tm} (hu : Td u) (hv : valid u = true) (hl : (textT u).length ≤ 60) : termT (textT u) = some u := by
  unfold termT
  rw [readT_text hu hl]
  exact if_pos hv
theorem termT_tidy {s : Str} {t : Tm} (h : termT s = some t) : termT (textT (tidyT t)) = some (tidyT t) ∧ (textT (tidyT t)).length ≤ s.length ∧ gridT (tidyT t) = gridT t := by
  have hW := wf_of_termT h
  obtain ⟨h1, h2⟩ := termT_len h
  obtain ⟨k1, _, k3⟩ := tidy_same hW (termT_ex h).2
  have h3 := tidy_len hW
  exact ⟨termT_text (Td.of hW) k1 (by omega), by omega, k3⟩
/-- no sign in the text of a tidy term -/
theorem text_signs {t : Tm} (h : Td t) : ∀ c ∈ textT t, c ≠ 62 ∧ c ≠ 94 ∧ c ≠ 42 := by
  induction h with
  | @leaf c h =>
    intro d hd
    have hd : d = c := by simpa [textT] using hd
    subst hd
    have h := of_decide_eq_true h
    rcases h with rfl | rfl | rfl <;> decide
  | @bin s a b hs ha hb iha ihb =>
    intro c hc
    simp only [textT, List.mem_append, List.mem_singleton] at hc
    rcases hc with (((rfl | hc) | rfl) | hc) | rfl
    · decide
    · exact iha c hc
    · rcases hs with rfl | rfl <;> decide
    · exact ihb c hc
    · decide
def termTidy (s : Str) : Str × Bool := match termT s with
  | some t => (textT (tidyT t), true)
  | none => ([], false)
theorem termTidy_at {s : Str} {t : Tm} (h : termT s = some t) : termTidy s = (textT (tidyT t), true) := by rw [termTidy, h]
theorem termTidy_not {s : Str} (h : termT s = none) : termTidy s = ([], false) := by rw [termTidy, h]
theorem termTidy_ex {s : Str} (h : (termTidy s).2 = true) : ∃ t, termT s = some t := by
  cases ht : termT s with
  | none => rw [termTidy_not ht] at h; cases h
  | some t => exact ⟨t, rfl⟩
theorem termTidy_len (s : Str) : (termTidy s).1.length ≤ 60 := by
  cases ht : termT s with
  | none => rw [termTidy_not ht]; simp
  | some t =>
    rw [termTidy_at ht]
    have h1 := (termT_tidy ht).2.1
    have h2 := (termT_len ht).2
    dsimp only; omega
end Go.Proofs.Ytmlkabddhdkpaaa
