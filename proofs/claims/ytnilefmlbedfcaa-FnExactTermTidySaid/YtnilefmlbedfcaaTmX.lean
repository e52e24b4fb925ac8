/- Texts that go on: a sign in front, a bracket behind. -/
import Derived.Test.YtnilefmlbedfcaaTm
namespace Go.Proofs.Ytnilefmlbedfcaa
set_option maxRecDepth 100000
set_option linter.unusedSimpArgs false
set_option linter.unusedVariables false
theorem rdI_shift (c : UInt8) (s : Str) : ∀ (f p : Nat), rdI (c :: s) f (p + 1) = (rdI s f p).map fun x => (x.1, x.2 + 1)
  | 0, p => rfl
  | f + 1, p => by
    have hg : ∀ q, (c :: s).getD (q + 1) 0 = s.getD q 0 := fun q => rfl
    have hl : (c :: s).length = s.length + 1 := rfl
    by_cases h1 : s.length ≤ p
    · rw [rdI_end h1, rdI_end (by omega)]; rfl
    · by_cases h2 : okL (s.getD p 0) = true
      · rw [rdI_leaf (by omega) h2, rdI_leaf (by omega) (by rw [hg]; exact h2), hg]; rfl
      · have h2' : okL (s.getD p 0) = false := by simpa using h2
        by_cases h3 : isU (s.getD p 0) = true
        · rw [rdI_una (by omega) h2' h3, rdI_una (by omega) (by rw [hg]; exact h2') (by rw [hg]; exact h3), hg, rdI_shift c s f (p + 1)]
          cases rdI s f (p + 1) <;> rfl
        · have h3' : isU (s.getD p 0) = false := by simpa using h3
          by_cases h4 : s.getD p 0 = 40
          · rw [rdI_bin (by omega) h4, rdI_bin (by omega) (by rw [hg]; exact h4), rdI_shift c s f (p + 1)]
            cases rdI s f (p + 1) with
            | none => rfl
            | some x =>
              obtain ⟨a, q⟩ := x
              simp only [Option.map_some]
              rw [hg, hl]
              by_cases h5 : s.length ≤ q ∨ isB (s.getD q 0) = false
              · rw [if_pos h5, if_pos (h5.imp (fun h => by omega) id)]; rfl
              · rw [if_neg h5, if_neg (fun hc => h5 (hc.imp (fun h => by omega) id)), rdI_shift c s f (q + 1)]
                cases rdI s f (q + 1) with
                | none => rfl
                | some y =>
                  obtain ⟨b, e⟩ := y
                  simp only [Option.map_some]
                  rw [hg]
                  by_cases h6 : s.length ≤ e ∨ s.getD e 0 ≠ 41
                  · rw [if_pos h6, if_pos (h6.imp (fun h => by omega) id)]; rfl
                  · rw [if_neg h6, if_neg (fun hc => h6 (hc.imp (fun h => by omega) id))]; rfl
          · rw [rdI_bad (by omega) h2' h3' h4, rdI_bad (by omega) (by rw [hg]; exact h2') (by rw [hg]; exact h3') (by rw [hg]; exact h4)]; rfl
theorem rdI_more (x : Str) (s : Str) : ∀ (f p : Nat) (r : Tm × Nat), rdI s f p = some r → ∀ f', f ≤ f' → rdI (s ++ x) f' p = some r
  | 0, p, r, h, _, _ => by cases h
  | f + 1, p, r, h, f', hf => by
    obtain ⟨k, rfl⟩ : ∃ k, f' = k + 1 := ⟨f' - 1, by omega⟩
    have hl : (s ++ x).length = s.length + x.length := List.length_append
    have hg : ∀ q, q < s.length → (s ++ x).getD q 0 = s.getD q 0 := fun q hq => by
      rw [List.getD_eq_getElem?_getD, List.getD_eq_getElem?_getD, List.getElem?_append_left hq]
    by_cases h1 : s.length ≤ p
    · rw [rdI_end h1] at h; cases h
    · have hp : p < s.length := by omega
      by_cases h2 : okL (s.getD p 0) = true
      · rw [rdI_leaf hp h2] at h
        rw [rdI_leaf (by omega) (by rw [hg p hp]; exact h2), hg p hp]; exact h
      · have h2' : okL (s.getD p 0) = false := by simpa using h2
        by_cases h3 : isU (s.getD p 0) = true
        · rw [rdI_una hp h2' h3] at h
          rw [rdI_una (by omega) (by rw [hg p hp]; exact h2') (by rw [hg p hp]; exact h3), hg p hp]
          cases hr : rdI s f (p + 1) with
          | none => rw [hr] at h; cases h
          | some y => rw [hr] at h; rw [rdI_more x s f (p + 1) y hr k (by omega)]; exact h
        · have h3' : isU (s.getD p 0) = false := by simpa using h3
          by_cases h4 : s.getD p 0 = 40
          · rw [rdI_bin hp h4] at h
            rw [rdI_bin (by omega) (by rw [hg p hp]; exact h4)]
            cases hr : rdI s f (p + 1) with
            | none => rw [hr] at h; cases h
            | some y =>
              obtain ⟨a, q⟩ := y
              rw [hr] at h
              simp only at h
              rw [rdI_more x s f (p + 1) _ hr k (by omega)]
              simp only
              by_cases h5 : s.length ≤ q ∨ isB (s.getD q 0) = false
              · rw [if_pos h5] at h; cases h
              · have hq : q < s.length := by omega
                rw [if_neg h5] at h
                rw [hg q hq, if_neg (fun hc => h5 (hc.imp (fun h => by omega) id))]
                cases hr2 : rdI s f (q + 1) with
                | none => rw [hr2] at h; cases h
                | some z =>
                  obtain ⟨b, e⟩ := z
                  rw [hr2] at h
                  simp only at h
                  rw [rdI_more x s f (q + 1) _ hr2 k (by omega)]
                  simp only
                  by_cases h6 : s.length ≤ e ∨ s.getD e 0 ≠ 41
                  · rw [if_pos h6] at h; cases h
                  · have he : e < s.length := by omega
                    rw [if_neg h6] at h
                    rw [hg e he, if_neg (fun hc => h6 (hc.imp (fun h => by omega) id))]
                    exact h
          · rw [rdI_bad hp h2' h3' h4] at h; cases h
theorem readT_ex {s : Str} {t : Tm} (h : readT s = some t) : s.length ≤ 60 ∧ rdI s (s.length + 1) 0 = some (t, s.length) := by
  unfold readT at h
  split at h
  · cases h
  · next h6 =>
    refine ⟨by omega, ?_⟩
    split at h
    · cases h
    · next t1 e hr =>
      split at h
      · next he => cases h; rw [he] at hr; exact hr
      · cases h
theorem termT_ex {s : Str} {t : Tm} (h : termT s = some t) : readT s = some t ∧ valid t = true := by
  unfold termT at h
  split at h
  · cases h
  · next t1 hr =>
    split at h
    · next hv => cases h; exact ⟨hr, hv⟩
    · cases h
/-- a sign in front -/
theorem termT_sign {c : UInt8} {s : Str} {t : Tm} (hc : isU c = true) (hb : okL c = false) (h : termT s = some t) (hl : s.length ≤ 59) : termT (c :: s) = some (.una c t) := by
  obtain ⟨h1, hv⟩ := termT_ex h
  obtain ⟨_, h2⟩ := readT_ex h1
  have h3 : rdI (c :: s) ((c :: s).length + 1) 0 = some (.una c t, (c :: s).length) := by
    rw [rdI_una (by simp) (show okL ((c :: s).getD 0 0) = false from hb) (show isU ((c :: s).getD 0 0) = true from hc)]
    rw [show (c :: s).length = s.length + 1 from rfl, rdI_shift c s (s.length + 1) 0, h2]; rfl
  unfold termT readT
  rw [if_neg (by simp; omega), h3]
  dsimp only
  rw [if_pos rfl]
  dsimp only
  rw [if_pos (show valid (.una c t) = true from hv)]
/-- a bracket behind -/
theorem termT_tail {s : Str} {t : Tm} (c : UInt8) (h : termT s = some t) : termT (s ++ [c]) = none := by
  obtain ⟨h1, hv⟩ := termT_ex h
  obtain ⟨_, h2⟩ := readT_ex h1
  have h3 := rdI_more [c] s _ _ _ h2 ((s ++ [c]).length + 1) (by simp)
  unfold termT readT
  by_cases h6 : 60 < (s ++ [c]).length
  · rw [if_pos h6]
  · rw [if_neg h6, h3]
    dsimp only
    rw [if_neg (by simp)]
end Go.Proofs.Ytnilefmlbedfcaa
