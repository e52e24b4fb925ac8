/- Tidy terms tell the same grids. -/
import Derived.Test.YtnilefmlbedfcaaTmT
namespace Go.Proofs.Ytnilefmlbedfcaa
set_option maxRecDepth 100000
set_option linter.unusedSimpArgs false
set_option linter.unusedVariables false
def cl (g : Grid) (i k : Nat) : UInt8 := (g.getD i []).getD k 0
theorem gext {g h : Grid} (hG : GridOk g) (hH : GridOk h) (hn : nR g = nR h) (hm : nC g = nC h) (he : ∀ i k, i < nR g → k < nC g → cl g i k = cl h i k) : g = h := by
  rw [← gridOf_self hG, ← gridOf_self hH, ← hn, ← hm]
  exact gridOf_ext he
theorem cl_turn {g : Grid} {i k : Nat} (hi : i < nC g) (hk : k < nR g) : cl (turnG g) i k = exch (cl g (nR g - 1 - k) i) := gridOf_at _ _ _ hi hk
theorem cl_flip {g : Grid} {i k : Nat} (hi : i < nR g) (hk : k < nC g) : cl (flipG g) i k = exch (cl g i (nC g - 1 - k)) := gridOf_at _ _ _ hi hk
theorem cl_other {g : Grid} {i k : Nat} (hi : i < nR g) (hk : k < nC g) : cl (otherG g) i k = exch (cl g i k) := gridOf_at _ _ _ hi hk
theorem cl_beside {g h : Grid} (hg : GridOk g) {i k : Nat} (hi : i < nR g) : cl (besideG g h) i k = if k < nC g then cl g i k else cl h i (k - nC g) := by
  unfold cl
  rw [besideG_row hi, List.getD_eq_getElem?_getD, List.getElem?_append]
  have r1 := hg.row i hi
  have r2 : (g.getD i []).length = nC g := r1
  rw [r2]
  split <;> simp only [List.getD_eq_getElem?_getD]
theorem cl_under {g h : Grid} (i k : Nat) : cl (g ++ h) i k = if i < nR g then cl g i k else cl h (i - nR g) k := by
  unfold cl
  rw [under_get]
  show (if i < nR g then _ else _ : Str).getD k 0 = _
  split <;> rfl
section
variable {g h : Grid} (hg : GridOk g) (hh : GridOk h)
include hg hh
theorem turn_beside (hn : nR g = nR h) (hm : nC g + nC h ≤ 5) : turnG (besideG g h) = turnG g ++ turnG h := by
  obtain ⟨b1, b2, b3⟩ := besideG_ok hg hh hn hm
  obtain ⟨t1, t2, t3⟩ := turnG_ok b1
  obtain ⟨u1, u2, u3⟩ := turnG_ok hg
  obtain ⟨v1, v2, v3⟩ := turnG_ok hh
  obtain ⟨w1, w2, w3⟩ := under_ok u1 v1 (by omega) (by omega)
  refine gext t1 w1 (by omega) (by omega) fun i k hi hk => ?_
  rw [cl_turn (by omega) (by omega), cl_beside hg (by omega), cl_under, u2, b2]
  split
  · rw [cl_turn (by omega) (by omega)]
  · rw [cl_turn (by omega) (by omega), hn]
theorem turn_under (hm : nC g = nC h) (hn : nR g + nR h ≤ 5) : turnG (g ++ h) = besideG (turnG h) (turnG g) := by
  obtain ⟨b1, b2, b3⟩ := under_ok hg hh hm hn
  obtain ⟨t1, t2, t3⟩ := turnG_ok b1
  obtain ⟨u1, u2, u3⟩ := turnG_ok hg
  obtain ⟨v1, v2, v3⟩ := turnG_ok hh
  obtain ⟨w1, w2, w3⟩ := besideG_ok v1 u1 (by omega) (by omega)
  refine gext t1 w1 (by omega) (by omega) fun i k hi hk => ?_
  rw [cl_turn (by omega) (by omega), cl_under, cl_beside v1 (by omega), v3, b2]
  by_cases h1 : k < nR h
  · rw [if_neg (by omega), if_pos h1, cl_turn (by omega) (by omega)]
    congr 2; omega
  · rw [if_pos (by omega), if_neg h1, cl_turn (by omega) (by omega)]
    congr 2; omega
theorem flip_beside (hn : nR g = nR h) (hm : nC g + nC h ≤ 5) : flipG (besideG g h) = besideG (flipG h) (flipG g) := by
  obtain ⟨b1, b2, b3⟩ := besideG_ok hg hh hn hm
  obtain ⟨t1, t2, t3⟩ := flipG_ok b1
  obtain ⟨u1, u2, u3⟩ := flipG_ok hg
  obtain ⟨v1, v2, v3⟩ := flipG_ok hh
  obtain ⟨w1, w2, w3⟩ := besideG_ok v1 u1 (by omega) (by omega)
  refine gext t1 w1 (by omega) (by omega) fun i k hi hk => ?_
  rw [cl_flip (by omega) (by omega), cl_beside hg (by omega), cl_beside v1 (by omega), v3, b3]
  by_cases h1 : k < nC h
  · rw [if_neg (by omega), if_pos h1, cl_flip (by omega) (by omega)]
    congr 2; omega
  · rw [if_pos (by omega), if_neg h1, cl_flip (by omega) (by omega)]
    congr 2; omega
theorem flip_under (hm : nC g = nC h) (hn : nR g + nR h ≤ 5) : flipG (g ++ h) = flipG g ++ flipG h := by
  obtain ⟨b1, b2, b3⟩ := under_ok hg hh hm hn
  obtain ⟨t1, t2, t3⟩ := flipG_ok b1
  obtain ⟨u1, u2, u3⟩ := flipG_ok hg
  obtain ⟨v1, v2, v3⟩ := flipG_ok hh
  obtain ⟨w1, w2, w3⟩ := under_ok u1 v1 (by omega) (by omega)
  refine gext t1 w1 (by omega) (by omega) fun i k hi hk => ?_
  rw [cl_flip (by omega) (by omega), cl_under, cl_under, u2, b3]
  split
  · rw [cl_flip (by omega) (by omega)]
  · rw [cl_flip (by omega) (by omega), hm]
theorem other_beside (hn : nR g = nR h) (hm : nC g + nC h ≤ 5) : otherG (besideG g h) = besideG (otherG g) (otherG h) := by
  obtain ⟨b1, b2, b3⟩ := besideG_ok hg hh hn hm
  obtain ⟨t1, t2, t3⟩ := otherG_ok b1
  obtain ⟨u1, u2, u3⟩ := otherG_ok hg
  obtain ⟨v1, v2, v3⟩ := otherG_ok hh
  obtain ⟨w1, w2, w3⟩ := besideG_ok u1 v1 (by omega) (by omega)
  refine gext t1 w1 (by omega) (by omega) fun i k hi hk => ?_
  rw [cl_other (by omega) (by omega), cl_beside hg (by omega), cl_beside u1 (by omega), u3]
  split
  · rw [cl_other (by omega) (by omega)]
  · rw [cl_other (by omega) (by omega)]
theorem other_under (hm : nC g = nC h) (hn : nR g + nR h ≤ 5) : otherG (g ++ h) = otherG g ++ otherG h := by
  obtain ⟨b1, b2, b3⟩ := under_ok hg hh hm hn
  obtain ⟨t1, t2, t3⟩ := otherG_ok b1
  obtain ⟨u1, u2, u3⟩ := otherG_ok hg
  obtain ⟨v1, v2, v3⟩ := otherG_ok hh
  obtain ⟨w1, w2, w3⟩ := under_ok u1 v1 (by omega) (by omega)
  refine gext t1 w1 (by omega) (by omega) fun i k hi hk => ?_
  rw [cl_other (by omega) (by omega), cl_under, cl_under, u2]
  split
  · rw [cl_other (by omega) (by omega)]
  · rw [cl_other (by omega) (by omega)]
end
theorem valid_b {a b : Tm} (h : valid (.bin 124 a b) = true) : valid a = true ∧ valid b = true ∧ (sz a).1 = (sz b).1 ∧ (sz a).2 + (sz b).2 ≤ 5 := by
  rw [valid, Bool.and_eq_true, Bool.and_eq_true, if_pos rfl] at h
  obtain ⟨⟨h1, h2⟩, h3⟩ := h
  have h3 := of_decide_eq_true h3
  exact ⟨h1, h2, h3.1, h3.2⟩
theorem valid_u {a b : Tm} (h : valid (.bin 45 a b) = true) : valid a = true ∧ valid b = true ∧ (sz a).2 = (sz b).2 ∧ (sz a).1 + (sz b).1 ≤ 5 := by
  rw [valid, Bool.and_eq_true, Bool.and_eq_true, if_neg (by decide)] at h
  obtain ⟨⟨h1, h2⟩, h3⟩ := h
  have h3 := of_decide_eq_true h3
  exact ⟨h1, h2, h3.1, h3.2⟩
theorem valid_mkb {a b : Tm} (h1 : valid a = true) (h2 : valid b = true) (h3 : (sz a).1 = (sz b).1) (h4 : (sz a).2 + (sz b).2 ≤ 5) : valid (.bin 124 a b) = true := by
  rw [valid, h1, h2, if_pos rfl, decide_eq_true ⟨h3, h4⟩]; rfl
theorem valid_mku {a b : Tm} (h1 : valid a = true) (h2 : valid b = true) (h3 : (sz a).2 = (sz b).2) (h4 : (sz a).1 + (sz b).1 ≤ 5) : valid (.bin 45 a b) = true := by
  rw [valid, h1, h2, if_neg (by decide), decide_eq_true ⟨h3, h4⟩]; rfl
theorem sz_b (a b : Tm) : sz (.bin 124 a b) = ((sz a).1, (sz a).2 + (sz b).2) := by rw [sz, if_pos rfl]
theorem sz_u (a b : Tm) : sz (.bin 45 a b) = ((sz a).1 + (sz b).1, (sz a).2) := by rw [sz, if_neg (by decide)]
theorem g_b (a b : Tm) : gridT (.bin 124 a b) = besideG (gridT a) (gridT b) := by rw [gridT, if_pos rfl]
theorem g_u (a b : Tm) : gridT (.bin 45 a b) = gridT a ++ gridT b := by rw [gridT, if_neg (by decide)]
theorem one_ok {c : UInt8} (h : okL c = true) : GridOk [[c]] := (gridT_ok (.leaf h) rfl).1
theorem signed62 {t : Tm} (h : Td t) : valid t = true → valid (signedT 62 t) = true ∧ sz (signedT 62 t) = ((sz t).2, (sz t).1) ∧ gridT (signedT 62 t) = turnG (gridT t) := by
  induction h with
  | @leaf c h => exact fun _ => ⟨rfl, rfl, rfl⟩
  | @bin s a b hs ha hb iha ihb =>
    rcases hs with rfl | rfl
    · intro hv
      obtain ⟨va, vb, h3, h4⟩ := valid_b hv
      obtain ⟨a1, a2, a3⟩ := iha va
      obtain ⟨b1, b2, b3⟩ := ihb vb
      obtain ⟨p1, p2, p3⟩ := gridT_ok ha.wf va
      obtain ⟨q1, q2, q3⟩ := gridT_ok hb.wf vb
      rw [signedT, if_pos ⟨rfl, rfl⟩, sz_u, sz_b, g_u, g_b, a2, b2, a3, b3, turn_beside p1 q1 (by omega) (by omega)]
      exact ⟨valid_mku a1 b1 (by rw [a2, b2]; exact h3) (by rw [a2, b2]; exact h4), rfl, rfl⟩
    · intro hv
      obtain ⟨va, vb, h3, h4⟩ := valid_u hv
      obtain ⟨a1, a2, a3⟩ := iha va
      obtain ⟨b1, b2, b3⟩ := ihb vb
      obtain ⟨p1, p2, p3⟩ := gridT_ok ha.wf va
      obtain ⟨q1, q2, q3⟩ := gridT_ok hb.wf vb
      rw [signedT, if_neg (by decide), if_pos rfl, sz_u, sz_b, g_u, g_b, a2, b2, a3, b3, turn_under p1 q1 (by omega) (by omega)]
      exact ⟨valid_mkb b1 a1 (by rw [a2, b2]; exact h3.symm) (by rw [a2, b2]; dsimp only; omega), Prod.ext h3.symm (Nat.add_comm _ _), rfl⟩
theorem signed94 {t : Tm} (h : Td t) : valid t = true → valid (signedT 94 t) = true ∧ sz (signedT 94 t) = sz t ∧ gridT (signedT 94 t) = flipG (gridT t) := by
  induction h with
  | @leaf c h => exact fun _ => ⟨rfl, rfl, rfl⟩
  | @bin s a b hs ha hb iha ihb =>
    rcases hs with rfl | rfl
    · intro hv
      obtain ⟨va, vb, h3, h4⟩ := valid_b hv
      obtain ⟨a1, a2, a3⟩ := iha va
      obtain ⟨b1, b2, b3⟩ := ihb vb
      obtain ⟨p1, p2, p3⟩ := gridT_ok ha.wf va
      obtain ⟨q1, q2, q3⟩ := gridT_ok hb.wf vb
      rw [signedT, if_neg (by decide), if_neg (by decide), if_pos ⟨rfl, rfl⟩, sz_b, sz_b, g_b, g_b, a2, b2, a3, b3, flip_beside p1 q1 (by omega) (by omega)]
      exact ⟨valid_mkb b1 a1 (by rw [a2, b2]; exact h3.symm) (by rw [a2, b2]; omega), Prod.ext h3.symm (Nat.add_comm _ _), rfl⟩
    · intro hv
      obtain ⟨va, vb, h3, h4⟩ := valid_u hv
      obtain ⟨a1, a2, a3⟩ := iha va
      obtain ⟨b1, b2, b3⟩ := ihb vb
      obtain ⟨p1, p2, p3⟩ := gridT_ok ha.wf va
      obtain ⟨q1, q2, q3⟩ := gridT_ok hb.wf vb
      rw [signedT, if_neg (by decide), if_neg (by decide), if_neg (by decide), sz_u, sz_u, g_u, g_u, a2, b2, a3, b3, flip_under p1 q1 (by omega) (by omega)]
      exact ⟨valid_mku a1 b1 (by rw [a2, b2]; exact h3) (by rw [a2, b2]; exact h4), rfl, rfl⟩
theorem signed42 {t : Tm} (h : Td t) : valid t = true → valid (signedT 42 t) = true ∧ sz (signedT 42 t) = sz t ∧ gridT (signedT 42 t) = otherG (gridT t) := by
  induction h with
  | @leaf c h => exact fun _ => ⟨rfl, rfl, rfl⟩
  | @bin s a b hs ha hb iha ihb =>
    rcases hs with rfl | rfl
    · intro hv
      obtain ⟨va, vb, h3, h4⟩ := valid_b hv
      obtain ⟨a1, a2, a3⟩ := iha va
      obtain ⟨b1, b2, b3⟩ := ihb vb
      obtain ⟨p1, p2, p3⟩ := gridT_ok ha.wf va
      obtain ⟨q1, q2, q3⟩ := gridT_ok hb.wf vb
      rw [signedT, if_neg (by decide), if_neg (by decide), if_neg (by decide), sz_b, sz_b, g_b, g_b, a2, b2, a3, b3, other_beside p1 q1 (by omega) (by omega)]
      exact ⟨valid_mkb a1 b1 (by rw [a2, b2]; exact h3) (by rw [a2, b2]; exact h4), rfl, rfl⟩
    · intro hv
      obtain ⟨va, vb, h3, h4⟩ := valid_u hv
      obtain ⟨a1, a2, a3⟩ := iha va
      obtain ⟨b1, b2, b3⟩ := ihb vb
      obtain ⟨p1, p2, p3⟩ := gridT_ok ha.wf va
      obtain ⟨q1, q2, q3⟩ := gridT_ok hb.wf vb
      rw [signedT, if_neg (by decide), if_neg (by decide), if_neg (by decide), sz_u, sz_u, g_u, g_u, a2, b2, a3, b3, other_under p1 q1 (by omega) (by omega)]
      exact ⟨valid_mku a1 b1 (by rw [a2, b2]; exact h3) (by rw [a2, b2]; exact h4), rfl, rfl⟩
theorem tidy_same {t : Tm} (h : Wf t) : valid t = true → valid (tidyT t) = true ∧ sz (tidyT t) = sz t ∧ gridT (tidyT t) = gridT t := by
  induction h with
  | leaf h => exact fun _ => ⟨rfl, rfl, rfl⟩
  | @una s a hs ha ih =>
    intro hv
    have hT := Td.of ha
    obtain ⟨k1, k2, k3⟩ := ih hv
    have h3 : s = 62 ∨ s = 94 ∨ s = 42 := by
      unfold isU at hs
      simp only [Bool.or_eq_true, decide_eq_true_eq] at hs
      rcases hs with (h | h) | h <;> simp [h]
    rw [tidyT, sz, gridT]
    rcases h3 with rfl | rfl | rfl
    · obtain ⟨j1, j2, j3⟩ := signed62 hT k1
      rw [if_pos rfl, if_pos rfl, j2, j3, k2, k3]
      exact ⟨j1, rfl, rfl⟩
    · obtain ⟨j1, j2, j3⟩ := signed94 hT k1
      rw [if_neg (by decide), if_neg (by decide), if_pos rfl, j2, j3, k2, k3]
      exact ⟨j1, rfl, rfl⟩
    · obtain ⟨j1, j2, j3⟩ := signed42 hT k1
      rw [if_neg (by decide), if_neg (by decide), if_neg (by decide), j2, j3, k2, k3]
      exact ⟨j1, rfl, rfl⟩
  | @bin s a b hs ha hb iha ihb =>
    intro hv
    have h3 : s = 124 ∨ s = 45 := by simpa [isB] using hs
    rw [tidyT]
    rcases h3 with rfl | rfl
    · obtain ⟨va, vb, h3, h4⟩ := valid_b hv
      obtain ⟨a1, a2, a3⟩ := iha va
      obtain ⟨b1, b2, b3⟩ := ihb vb
      rw [sz_b, sz_b, g_b, g_b, a2, b2, a3, b3]
      exact ⟨valid_mkb a1 b1 (by rw [a2, b2]; exact h3) (by rw [a2, b2]; exact h4), rfl, rfl⟩
    · obtain ⟨va, vb, h3, h4⟩ := valid_u hv
      obtain ⟨a1, a2, a3⟩ := iha va
      obtain ⟨b1, b2, b3⟩ := ihb vb
      rw [sz_u, sz_u, g_u, g_u, a2, b2, a3, b3]
      exact ⟨valid_mku a1 b1 (by rw [a2, b2]; exact h3) (by rw [a2, b2]; exact h4), rfl, rfl⟩
theorem termT_len {s : Str} {t : Tm} (h : termT s = some t) : s.length = lenT t ∧ s.length ≤ 60 := by
  obtain ⟨h1, _⟩ := termT_ex h
  obtain ⟨h2, h3⟩ := readT_ex h1
  have := rdI_len h3
  omega
theorem wf_of_termT {s : Str} {t : Tm} (h : termT s = some t) : Wf t := (rdI_ok (readT_ex (termT_ex h).1).2).1
/-- a text is read as its tidy term's tree -/
theorem termT_text {u : Tm} (hu : Td u) (hv : valid u = true) (hl : (textT u).length ≤ 60) : termT (textT u) = some u := by
  unfold termT
  rw [readT_text hu hl]
  exact if_pos hv
theorem termT_tidy {s : Str} {t : Tm} (h : termT s = some t) : termT (textT (tidyT t)) = some (tidyT t) ∧ (textT (tidyT t)).length ≤ s.length ∧ gridT (tidyT t) = gridT t := by
  have hW := wf_of_termT h
  obtain ⟨h1, h2⟩ := termT_len h
  obtain ⟨k1, _, k3⟩ := tidy_same hW (termT_ex h).2
  have h3 := tidy_len hW
  exact ⟨termT_text (Td.of hW) k1 (by omega), by omega, k3⟩
/-- no sign in the text of a tidy term -/
theorem text_signs {t : Tm} (h : Td t) : ∀ c ∈ textT t, c ≠ 62 ∧ c ≠ 94 ∧ c ≠ 42 := by
  induction h with
  | @leaf c h =>
    intro d hd
    have hd : d = c := by simpa [textT] using hd
    subst hd
    have h := of_decide_eq_true h
    rcases h with rfl | rfl | rfl <;> decide
  | @bin s a b hs ha hb iha ihb =>
    intro c hc
    simp only [textT, List.mem_append, List.mem_singleton] at hc
    rcases hc with (((rfl | hc) | rfl) | hc) | rfl
    · decide
    · exact iha c hc
    · rcases hs with rfl | rfl <;> decide
    · exact ihb c hc
    · decide
def termTidy (s : Str) : Str × Bool := match termT s with
  | some t => (textT (tidyT t), true)
  | none => ([], false)
theorem termTidy_at {s : Str} {t : Tm} (h : termT s = some t) : termTidy s = (textT (tidyT t), true) := by rw [termTidy, h]
theorem termTidy_not {s : Str} (h : termT s = none) : termTidy s = ([], false) := by rw [termTidy, h]
theorem termTidy_ex {s : Str} (h : (termTidy s).2 = true) : ∃ t, termT s = some t := by
  cases ht : termT s with
  | none => rw [termTidy_not ht] at h; cases h
  | some t => exact ⟨t, rfl⟩
theorem termTidy_len (s : Str) : (termTidy s).1.length ≤ 60 := by
  cases ht : termT s with
  | none => rw [termTidy_not ht]; simp
  | some t =>
    rw [termTidy_at ht]
    have h1 := (termT_tidy ht).2.1
    have h2 := (termT_len ht).2
    dsimp only; omega
end Go.Proofs.Ytnilefmlbedfcaa
