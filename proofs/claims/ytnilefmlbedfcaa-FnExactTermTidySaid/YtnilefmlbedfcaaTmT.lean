/- Tidy terms: signs go inwards. -/
import Derived.Test.YtnilefmlbedfcaaTmX
namespace Go.Proofs.Ytnilefmlbedfcaa
set_option maxRecDepth 100000
set_option linter.unusedSimpArgs false
set_option linter.unusedVariables false
theorem exch2 (c : UInt8) : exch (exch c) = c := by
  unfold exch
  by_cases h1 : c = 114
  · subst h1; decide
  · by_cases h2 : c = 102
    · subst h2; decide
    · simp [h1, h2]
/-- no signs in front -/
inductive Td : Tm → Prop
  | leaf {c} (h : okL c = true) : Td (.leaf c)
  | bin {s a b} (h : s = 124 ∨ s = 45) (ha : Td a) (hb : Td b) : Td (.bin s a b)
def signedT (g : UInt8) : Tm → Tm
  | .leaf c => .leaf (exch c)
  | .una s a => .una s a
  | .bin s a b => if g = 62 ∧ s = 124 then .bin 45 (signedT g a) (signedT g b)
    else if g = 62 then .bin 124 (signedT g b) (signedT g a)
    else if g = 94 ∧ s = 124 then .bin 124 (signedT g b) (signedT g a)
    else .bin s (signedT g a) (signedT g b)
def tidyT : Tm → Tm
  | .leaf c => .leaf c
  | .una s a => signedT s (tidyT a)
  | .bin s a b => .bin s (tidyT a) (tidyT b)
def textT : Tm → Str
  | .leaf c => [c]
  | .una _ _ => []
  | .bin s a b => [40] ++ textT a ++ [s] ++ textT b ++ [41]
theorem signed_td {g : UInt8} {t : Tm} (h : Td t) : Td (signedT g t) := by
  induction h with
  | leaf h => exact .leaf (exch_ok h)
  | @bin s a b hs ha hb iha ihb =>
    unfold signedT
    split
    · exact .bin (.inr rfl) iha ihb
    · split
      · exact .bin (.inl rfl) ihb iha
      · split
        · exact .bin (.inl rfl) ihb iha
        · exact .bin hs iha ihb
theorem Td.of {t : Tm} (h : Wf t) : Td (tidyT t) := by
  induction h with
  | leaf h => exact .leaf h
  | una h ha ih => exact signed_td ih
  | bin h ha hb iha ihb => exact .bin (by simpa [isB] using h) iha ihb
theorem tidy_td {t : Tm} (h : Td t) : tidyT t = t := by
  induction h with
  | leaf h => rfl
  | bin h ha hb iha ihb => rw [tidyT, iha, ihb]
theorem Td.wf {t : Tm} (h : Td t) : Wf t := by
  induction h with
  | leaf h => exact .leaf h
  | bin h ha hb iha ihb => exact .bin (by simpa [isB] using h) iha ihb
/-! the reference's way: turns, flipped, exchanged -/
def stepS (x : UInt8 × Bool) : UInt8 × Bool := if x.1 = 124 then (45, x.2) else (124, !x.2)
def stepsS : Nat → UInt8 × Bool → UInt8 × Bool
  | 0, x => x
  | k + 1, x => stepS (stepsS k x)
def tidyS : Tm → Nat → Bool → Bool → Str
  | .leaf c, k, f, o => [if ((decide (k % 2 = 1)) != f) != o then exch c else c]
  | .una s a, k, f, o => if s = 62 then (if f = true then tidyS a ((k + 3) % 4) f o else tidyS a ((k + 1) % 4) f o) else if s = 94 then tidyS a k (!f) o else tidyS a k f (!o)
  | .bin s a b, k, f, o => if (stepsS k (s, f && decide (s = 124))).2 = true then [40] ++ tidyS b k f o ++ [(stepsS k (s, f && decide (s = 124))).1] ++ tidyS a k f o ++ [41]
    else [40] ++ tidyS a k f o ++ [(stepsS k (s, f && decide (s = 124))).1] ++ tidyS b k f o ++ [41]
def act (k : Nat) (f o : Bool) : Tm → Tm
  | .leaf c => .leaf (if ((decide (k % 2 = 1)) != f) != o then exch c else c)
  | .una s a => .una s a
  | .bin s a b => if (stepsS k (s, f && decide (s = 124))).2 = true then .bin (stepsS k (s, f && decide (s = 124))).1 (act k f o b) (act k f o a) else .bin (stepsS k (s, f && decide (s = 124))).1 (act k f o a) (act k f o b)
theorem lt4 {k : Nat} (h : k < 4) : k = 0 ∨ k = 1 ∨ k = 2 ∨ k = 3 := by omega
theorem act_62 {t : Tm} (h : Td t) {k : Nat} (hk : k < 4) (f o : Bool) : act k f o (signedT 62 t) = act (if f = true then (k + 3) % 4 else (k + 1) % 4) f o t := by
  induction h with
  | @leaf c h =>
    rcases lt4 hk with rfl | rfl | rfl | rfl <;> cases f <;> cases o <;> simp [signedT, act, exch2]
  | @bin s a b hs ha hb iha ihb =>
    rcases hs with rfl | rfl
    · rw [signedT, if_pos ⟨rfl, rfl⟩, act, act, iha, ihb]
      rcases lt4 hk with rfl | rfl | rfl | rfl <;> cases f <;> simp [stepsS, stepS]
    · rw [signedT, if_neg (by decide), if_pos rfl, act, act, iha, ihb]
      rcases lt4 hk with rfl | rfl | rfl | rfl <;> cases f <;> simp [stepsS, stepS]
theorem act_94 {t : Tm} (h : Td t) {k : Nat} (hk : k < 4) (f o : Bool) : act k f o (signedT 94 t) = act k (!f) o t := by
  induction h with
  | @leaf c h =>
    rcases lt4 hk with rfl | rfl | rfl | rfl <;> cases f <;> cases o <;> simp [signedT, act, exch2]
  | @bin s a b hs ha hb iha ihb =>
    rcases hs with rfl | rfl
    · rw [signedT, if_neg (by decide), if_neg (by decide), if_pos ⟨rfl, rfl⟩, act, act, iha, ihb]
      rcases lt4 hk with rfl | rfl | rfl | rfl <;> cases f <;> simp [stepsS, stepS]
    · rw [signedT, if_neg (by decide), if_neg (by decide), if_neg (by decide), act, act, iha, ihb]
      rcases lt4 hk with rfl | rfl | rfl | rfl <;> cases f <;> simp [stepsS, stepS]
theorem act_42 {t : Tm} (h : Td t) {k : Nat} (hk : k < 4) (f o : Bool) : act k f o (signedT 42 t) = act k f (!o) t := by
  induction h with
  | @leaf c h =>
    rcases lt4 hk with rfl | rfl | rfl | rfl <;> cases f <;> cases o <;> simp [signedT, act, exch2]
  | @bin s a b hs ha hb iha ihb =>
    rcases hs with rfl | rfl
    · rw [signedT, if_neg (by decide), if_neg (by decide), if_neg (by decide), act, act, iha, ihb]
    · rw [signedT, if_neg (by decide), if_neg (by decide), if_neg (by decide), act, act, iha, ihb]
theorem act_0 {t : Tm} (h : Td t) : act 0 false false t = t := by
  induction h with
  | leaf h => rfl
  | @bin s a b hs ha hb iha ihb =>
    rcases hs with rfl | rfl <;> (rw [act, iha, ihb]; simp [stepsS])
theorem act_td {t : Tm} (h : Td t) (k : Nat) (f o : Bool) : Td (act k f o t) := by
  induction h with
  | @leaf c h =>
    unfold act
    refine .leaf ?_
    split
    · exact exch_ok h
    · exact h
  | @bin s a b hs ha hb iha ihb =>
    have hst : ∀ k x, (x.1 = 124 ∨ x.1 = 45) → ((stepsS k x).1 = 124 ∨ (stepsS k x).1 = 45) := by
      intro k
      induction k with
      | zero => exact fun x h => h
      | succ k ih => intro x hx; unfold stepsS stepS; split <;> simp
    unfold act
    split
    · exact .bin (hst _ _ hs) ihb iha
    · exact .bin (hst _ _ hs) iha ihb
theorem tidyS_eq {t : Tm} (h : Wf t) : ∀ (k : Nat) (f o : Bool), k < 4 → tidyS t k f o = textT (act k f o (tidyT t)) := by
  induction h with
  | leaf h => exact fun k f o _ => rfl
  | @una s a hs ha ih =>
    intro k f o hk
    have hT := Td.of ha
    have h3 : s = 62 ∨ s = 94 ∨ s = 42 := by
      unfold isU at hs
      simp only [Bool.or_eq_true, decide_eq_true_eq] at hs
      rcases hs with (h | h) | h <;> simp [h]
    rw [tidyS, tidyT]
    rcases h3 with rfl | rfl | rfl
    · rw [if_pos rfl, act_62 hT hk]
      split
      · exact ih _ _ _ (Nat.mod_lt _ (by omega))
      · exact ih _ _ _ (Nat.mod_lt _ (by omega))
    · rw [if_neg (by decide), if_pos rfl, act_94 hT hk]
      exact ih _ _ _ hk
    · rw [if_neg (by decide), if_neg (by decide), act_42 hT hk]
      exact ih _ _ _ hk
  | @bin s a b hs ha hb iha ihb =>
    intro k f o hk
    rw [tidyS, tidyT, act, iha k f o hk, ihb k f o hk]
    split <;> rfl
theorem tidyS_0 {t : Tm} (h : Wf t) : tidyS t 0 false false = textT (tidyT t) := by rw [tidyS_eq h 0 false false (by omega), act_0 (Td.of h)]
/-! lengths -/
theorem signed_len {g : UInt8} {t : Tm} (h : Td t) : (textT (signedT g t)).length = (textT t).length := by
  induction h with
  | leaf h => rfl
  | @bin s a b hs ha hb iha ihb =>
    unfold signedT
    (repeat' split) <;> simp only [textT, List.length_append, List.length_cons, List.length_nil, iha, ihb] <;> omega
/-- how long the text of a term is -/
def lenT : Tm → Nat
  | .leaf _ => 1
  | .una _ a => 1 + lenT a
  | .bin _ a b => 3 + lenT a + lenT b
theorem rdI_len {s : Str} : ∀ {f p : Nat} {t : Tm} {e : Nat}, rdI s f p = some (t, e) → e = p + lenT t
  | 0, p, t, e, h => by cases h
  | f + 1, p, t, e, h => by
    by_cases h1 : s.length ≤ p
    · rw [rdI_end h1] at h; cases h
    · by_cases h2 : okL (s.getD p 0) = true
      · rw [rdI_leaf (by omega) h2] at h
        cases h; rfl
      · have h2' : okL (s.getD p 0) = false := by simpa using h2
        by_cases h3 : isU (s.getD p 0) = true
        · rw [rdI_una (by omega) h2' h3] at h
          cases hr : rdI s f (p + 1) with
          | none => rw [hr] at h; cases h
          | some x =>
            rw [hr] at h
            cases h
            have := rdI_len (t := x.1) (e := x.2) hr
            unfold lenT; omega
        · have h3' : isU (s.getD p 0) = false := by simpa using h3
          by_cases h4 : s.getD p 0 = 40
          · rw [rdI_bin (by omega) h4] at h
            cases hr : rdI s f (p + 1) with
            | none => rw [hr] at h; cases h
            | some x =>
              rw [hr] at h
              simp only at h
              have k1 := rdI_len (t := x.1) (e := x.2) hr
              by_cases h5 : s.length ≤ x.2 ∨ isB (s.getD x.2 0) = false
              · rw [if_pos h5] at h; cases h
              · rw [if_neg h5] at h
                cases hq : rdI s f (x.2 + 1) with
                | none => rw [hq] at h; cases h
                | some y =>
                  rw [hq] at h
                  simp only at h
                  have k2 := rdI_len (t := y.1) (e := y.2) hq
                  by_cases h6 : s.length ≤ y.2 ∨ s.getD y.2 0 ≠ 41
                  · rw [if_pos h6] at h; cases h
                  · rw [if_neg h6] at h
                    cases h
                    show y.2 + 1 = p + (3 + lenT x.1 + lenT y.1)
                    omega
          · rw [rdI_bad (by omega) h2' h3' h4] at h; cases h
theorem tidy_len {t : Tm} (h : Wf t) : (textT (tidyT t)).length ≤ lenT t := by
  induction h with
  | leaf h => exact Nat.le_refl _
  | una h ha ih => rw [tidyT, signed_len (Td.of ha), lenT]; omega
  | bin h ha hb iha ihb =>
    rw [tidyT, lenT, textT]
    simp only [List.length_append, List.length_cons, List.length_nil]
    omega
theorem td_len {t : Tm} (h : Td t) : (textT t).length = lenT t := by
  induction h with
  | leaf h => rfl
  | bin h ha hb iha ihb =>
    rw [lenT, textT]
    simp only [List.length_append, List.length_cons, List.length_nil]
    omega
/-! tidy terms are read again -/
theorem rdI_text {t : Tm} (h : Td t) : ∀ (x y : Str) (f : Nat), lenT t ≤ f → rdI (x ++ textT t ++ y) f x.length = some (t, x.length + lenT t) := by
  induction h with
  | @leaf c h =>
    intro x y f hf
    obtain ⟨f, rfl⟩ : ∃ k, f = k + 1 := ⟨f - 1, by simp only [lenT] at hf; omega⟩
    have hc : (x ++ textT (.leaf c) ++ y).getD x.length 0 = c := by simp [textT, List.getD_eq_getElem?_getD]
    rw [rdI_leaf (by simp [textT]) (by rw [hc]; exact h), hc]; rfl
  | @bin s a b hs ha hb iha ihb =>
    intro x y f hf
    obtain ⟨f, rfl⟩ : ∃ k, f = k + 1 := ⟨f - 1, by simp only [lenT] at hf; omega⟩
    simp only [lenT] at hf
    have hla := td_len ha
    have hlb := td_len hb
    have e0 : x ++ textT (.bin s a b) ++ y = (x ++ [40]) ++ textT a ++ ([s] ++ textT b ++ [41] ++ y) := by simp [textT]
    have e1 : x ++ textT (.bin s a b) ++ y = (x ++ [40] ++ textT a ++ [s]) ++ textT b ++ ([41] ++ y) := by simp [textT]
    have hl : (x ++ textT (.bin s a b) ++ y).length = x.length + (3 + lenT a + lenT b) + y.length := by
      rw [e0]; simp only [List.length_append, List.length_cons, List.length_nil]; omega
    have hc0 : (x ++ textT (.bin s a b) ++ y).getD x.length 0 = 40 := by simp [textT, List.getD_eq_getElem?_getD]
    have hc1 : (x ++ textT (.bin s a b) ++ y).getD (x.length + 1 + lenT a) 0 = s := by
      have hlen : (x ++ [40] ++ textT a).length = x.length + 1 + lenT a := by simp only [List.length_append, List.length_cons, List.length_nil]; omega
      rw [e0, List.getD_eq_getElem?_getD, ← hlen, List.getElem?_append_right (Nat.le_refl _), Nat.sub_self]; rfl
    have hc2 : (x ++ textT (.bin s a b) ++ y).getD (x.length + 1 + lenT a + 1 + lenT b) 0 = 41 := by
      have hlen : (x ++ [40] ++ textT a ++ [s] ++ textT b).length = x.length + 1 + lenT a + 1 + lenT b := by simp only [List.length_append, List.length_cons, List.length_nil]; omega
      rw [e1, List.getD_eq_getElem?_getD, ← hlen, List.getElem?_append_right (Nat.le_refl _), Nat.sub_self]; rfl
    have ra : rdI (x ++ textT (.bin s a b) ++ y) f (x.length + 1) = some (a, x.length + 1 + lenT a) := by
      rw [e0]
      have := iha (x ++ [40]) ([s] ++ textT b ++ [41] ++ y) f (by omega)
      simpa using this
    have rb : rdI (x ++ textT (.bin s a b) ++ y) f (x.length + 1 + lenT a + 1) = some (b, x.length + 1 + lenT a + 1 + lenT b) := by
      rw [e1]
      have := ihb (x ++ [40] ++ textT a ++ [s]) ([41] ++ y) f (by omega)
      have hxl : (x ++ [40] ++ textT a ++ [s]).length = x.length + 1 + lenT a + 1 := by simp only [List.length_append, List.length_cons, List.length_nil]; omega
      rw [hxl] at this
      exact this
    generalize x ++ textT (.bin s a b) ++ y = S at *
    rw [rdI_bin (by omega) hc0, ra]
    dsimp only
    rw [hc1, if_neg (by rcases hs with rfl | rfl <;> simp [isB] <;> omega), rb]
    dsimp only
    rw [hc2, if_neg (by simp; omega)]
    rw [lenT]
    congr 2
    omega
theorem readT_text {t : Tm} (h : Td t) (h60 : (textT t).length ≤ 60) : readT (textT t) = some t := by
  have h1 := rdI_text h [] [] ((textT t).length + 1) (by rw [td_len h]; omega)
  simp only [List.nil_append, List.append_nil, List.length_nil, Nat.zero_add] at h1
  unfold readT
  rw [if_neg (by omega), h1]
  dsimp only
  rw [if_pos (td_len h).symm]
end Go.Proofs.Ytnilefmlbedfcaa
