/- Proofs as texts: rounds and their numbers; how such a text is read. -/
import Derived.Test.YtmhmdlgcdeodmaaDoorLen
namespace Go.Proofs.YtmhmdlgcdeodmaaDoor
set_option maxRecDepth 100000
set_option linter.unusedSimpArgs false
set_option linter.unusedVariables false
/-- a number below 100 in decimals -/
def decL (n : Nat) : Str := if n < 10 then [UInt8.ofNat (48 + n)] else [UInt8.ofNat (48 + n / 10), UInt8.ofNat (48 + n % 10)]
def digB (c : UInt8) : Bool := decide (48 ≤ c.toNat) && decide (c.toNat ≤ 57)
def rnd : Str := [114, 111, 117, 110, 100, 32]
/-- a number of one or two digits, without a nought ahead; where it ends (0: there is none) -/
def numAt (s : Str) (a : Nat) : Nat × Nat :=
  if s.length ≤ a ∨ digB (s.getD a 0) = false then (0, 0)
  else if s.length ≤ a + 1 ∨ digB (s.getD (a + 1) 0) = false then ((s.getD a 0).toNat - 48, a + 1)
  else if s.getD a 0 = 48 then (0, 0)
  else (10 * ((s.getD a 0).toNat - 48) + ((s.getD (a + 1) 0).toNat - 48), a + 2)
/-- cell and ways of a text -/
def parseR (t : Str) : Option (Nat × Str) :=
  if t.take 6 ≠ rnd then none
  else if (numAt t 6).2 = 0 ∨ t.length ≤ (numAt t 6).2 + 1 ∨ t.getD (numAt t 6).2 0 ≠ 32 then none
  else some ((numAt t 6).1, t.drop ((numAt t 6).2 + 1))
def decChk (n : Nat) : Bool := (decL n).all digB && (decide (n < 10) || decide ((decL n).getD 0 0 ≠ 48)) && decide (decL n ≠ [])
theorem decAll : ∀ n < 100, decChk n = true := by decide +kernel
def decRead (n : Nat) : Bool := if n < 10 then decide (((decL n).getD 0 0).toNat - 48 = n) && decide ((decL n).length = 1) && digB ((decL n).getD 0 0) else decide (10 * (((decL n).getD 0 0).toNat - 48) + (((decL n).getD 1 0).toNat - 48) = n) && decide ((decL n).length = 2) && digB ((decL n).getD 0 0) && digB ((decL n).getD 1 0) && decide ((decL n).getD 0 0 ≠ 48)
theorem decReadAll : ∀ n < 100, decRead n = true := by decide +kernel
theorem decL_len {n : Nat} (h : n < 100) : 1 ≤ (decL n).length ∧ (decL n).length ≤ 2 := by
  unfold decL; split <;> simp
theorem parse_of {c : Nat} {u : Str} (hc : c < 100) (hu : u ≠ []) : parseR (rnd ++ decL c ++ [32] ++ u) = some (c, u) := by
  have hr := decReadAll c hc
  have hu1 : 0 < u.length := List.length_pos_iff.2 hu
  have htake : (rnd ++ decL c ++ [32] ++ u).take 6 = rnd := by simp [rnd]
  unfold decRead at hr
  by_cases h10 : c < 10
  · rw [if_pos h10] at hr
    simp only [Bool.and_eq_true, decide_eq_true_eq] at hr
    obtain ⟨⟨h1, h2⟩, h3⟩ := hr
    obtain ⟨d, hd⟩ : ∃ d, decL c = [d] := by
      match h : decL c, h2 with
      | [d], _ => exact ⟨d, rfl⟩
    rw [hd] at h1 h3
    have e6 : (rnd ++ decL c ++ [32] ++ u).getD 6 0 = d := by rw [hd]; rfl
    have e7 : (rnd ++ decL c ++ [32] ++ u).getD 7 0 = 32 := by rw [hd]; rfl
    have hl : (rnd ++ decL c ++ [32] ++ u).length = 8 + u.length := by rw [hd]; simp [rnd]; omega
    have hdr : (rnd ++ decL c ++ [32] ++ u).drop 8 = u := by rw [hd]; rfl
    have hn : numAt (rnd ++ decL c ++ [32] ++ u) 6 = (c, 7) := by
      unfold numAt
      rw [e6, e7, hl, if_neg (by rw [show digB d = true from h3]; simp; omega), if_pos (.inr (by decide))]
      exact Prod.ext h1 rfl
    unfold parseR
    rw [if_neg (by rw [htake]; simp), hn]
    dsimp only
    rw [if_neg (by rw [e7, hl]; simp; omega), hdr]
  · rw [if_neg h10] at hr
    simp only [Bool.and_eq_true, decide_eq_true_eq] at hr
    obtain ⟨⟨⟨⟨h1, h2⟩, h3⟩, h4⟩, h5⟩ := hr
    obtain ⟨d, e, hd⟩ : ∃ d e, decL c = [d, e] := by
      match h : decL c, h2 with
      | [d, e], _ => exact ⟨d, e, rfl⟩
    rw [hd] at h1 h3 h4 h5
    have e6 : (rnd ++ decL c ++ [32] ++ u).getD 6 0 = d := by rw [hd]; rfl
    have e7 : (rnd ++ decL c ++ [32] ++ u).getD 7 0 = e := by rw [hd]; rfl
    have e8 : (rnd ++ decL c ++ [32] ++ u).getD 8 0 = 32 := by rw [hd]; rfl
    have hl : (rnd ++ decL c ++ [32] ++ u).length = 9 + u.length := by rw [hd]; simp [rnd]; omega
    have hdr : (rnd ++ decL c ++ [32] ++ u).drop 9 = u := by rw [hd]; rfl
    have hn : numAt (rnd ++ decL c ++ [32] ++ u) 6 = (c, 8) := by
      unfold numAt
      rw [e6, e7, hl, if_neg (by rw [show digB d = true from h3]; simp; omega), if_neg (by rw [show digB e = true from h4]; simp; omega), if_neg (show ¬ d = 48 from h5)]
      exact Prod.ext h1 rfl
    unfold parseR
    rw [if_neg (by rw [htake]; simp), hn]
    dsimp only
    rw [if_neg (by rw [e8, hl]; simp; omega), hdr]
theorem dig1 : ∀ k < 10, decL k = [UInt8.ofNat (48 + k)] := by decide +kernel
theorem dig2 : ∀ a < 10, ∀ b < 10, 0 < a → decL (10 * a + b) = [UInt8.ofNat (48 + a), UInt8.ofNat (48 + b)] := by decide +kernel
theorem dig_of {c : UInt8} (h : digB c = true) : c.toNat - 48 < 10 ∧ c = UInt8.ofNat (48 + (c.toNat - 48)) := by
  simp only [digB, Bool.and_eq_true, decide_eq_true_eq] at h
  refine ⟨by omega, ?_⟩
  rw [show 48 + (c.toNat - 48) = c.toNat by omega, UInt8.ofNat_toNat]
theorem parse_some {t : Str} {c : Nat} {u : Str} (h : parseR t = some (c, u)) : c < 100 ∧ u ≠ [] ∧ t = rnd ++ decL c ++ [32] ++ u := by
  unfold parseR at h
  split at h
  · cases h
  · next h6 =>
    split at h
    · cases h
    · next hb =>
      have h6 := Classical.not_not.1 h6
      simp only [Option.some.injEq, Prod.mk.injEq] at h
      obtain ⟨hc, hu⟩ := h
      obtain ⟨r, hr⟩ : ∃ r, t = rnd ++ r := ⟨t.drop 6, by rw [← h6, List.take_append_drop]⟩
      subst hr
      have g6 : ∀ k, (rnd ++ r).getD (6 + k) 0 = r.getD k 0 := fun k => by
        rw [List.getD_eq_getElem?_getD, List.getElem?_append_right (by simp [rnd]), List.getD_eq_getElem?_getD]
        simp [rnd]
      have hlen : (rnd ++ r).length = 6 + r.length := by simp [rnd]; omega
      have g60 := g6 0
      have g61 := g6 1
      unfold numAt at hc hu hb
      rw [hlen] at hc hu hb
      simp only [Nat.add_zero] at g60
      rw [g60, show 6 + 1 = 7 from rfl] at hc hu hb
      rw [show 6 + 1 = 7 from rfl] at g61
      rw [g61] at hc hu hb
      by_cases c1 : 6 + r.length ≤ 6 ∨ digB (r.getD 0 0) = false
      · rw [if_pos c1] at hb; exact absurd (.inl rfl) hb
      · rw [if_neg c1] at hc hu hb
        have d0 : digB (r.getD 0 0) = true := by
          cases e : digB (r.getD 0 0) with
          | true => rfl
          | false => exact absurd (.inr e) c1
        have hr1 : 1 ≤ r.length := by omega
        obtain ⟨k0, k1⟩ := dig_of d0
        by_cases c2 : 6 + r.length ≤ 7 ∨ digB (r.getD 1 0) = false
        · rw [if_pos c2] at hc hu hb
          dsimp only at hc hu hb
          rw [g61] at hb
          subst hc
          have hb2 : r.getD 1 0 = 32 := by
            apply Classical.byContradiction
            exact fun e => hb (.inr (.inr e))
          have hb3 : 2 < r.length := by omega
          refine ⟨by omega, ?_, ?_⟩
          · rw [← hu]
            intro e
            have := congrArg List.length e
            rw [List.length_drop, hlen] at this
            simp at this; omega
          · rw [dig1 _ k0, ← k1, ← hu]
            match r, hb3, hb2 with
            | x :: y :: r', _, hb2 =>
              have : y = 32 := hb2
              subst this
              simp [rnd]
        · rw [if_neg c2] at hc hu hb
          have d1 : digB (r.getD 1 0) = true := by
            cases e : digB (r.getD 1 0) with
            | true => rfl
            | false => exact absurd (.inr e) c2
          obtain ⟨m0, m1⟩ := dig_of d1
          by_cases c3 : r.getD 0 0 = 48
          · rw [if_pos c3] at hb; exact absurd (.inl rfl) hb
          · rw [if_neg c3] at hc hu hb
            dsimp only at hc hu hb
            rw [show 6 + 2 = 6 + 2 from rfl, g6 2] at hb
            subst hc
            have hb2 : r.getD 2 0 = 32 := by
              apply Classical.byContradiction
              exact fun e => hb (.inr (.inr e))
            have hb3 : 3 < r.length := by omega
            have ha : 0 < (r.getD 0 0).toNat - 48 := by
              apply Classical.byContradiction
              intro e
              have e2 : (r.getD 0 0).toNat - 48 = 0 := by omega
              rw [e2] at k1
              exact c3 k1
            refine ⟨by omega, ?_, ?_⟩
            · rw [← hu]
              intro e
              have := congrArg List.length e
              rw [List.length_drop, hlen] at this
              simp at this; omega
            · rw [dig2 _ k0 _ m0 ha, ← k1, ← m1, ← hu]
              match r, hb3, hb2 with
              | x :: y :: v :: r', _, hb2 =>
                have : v = 32 := hb2
                subst this
                simp [rnd]
/-- the proof of the round of a step; empty if it is on a beam -/
def waysL (L : List (Nat × Nat)) : Str := L.map fun s => dirL s.2
def roundText (g : Grid) (s : Nat × Nat) : Str := if (close g s).2 = true then rnd ++ decL s.1 ++ [32] ++ waysL (close g s).1 else []
theorem waysL_ne {g : Grid} (z : Sz g) {s : Nat × Nat} (hs : Ok g s) : waysL (close g s).1 ≠ [] := by
  obtain ⟨M, h⟩ := close_head z hs
  rw [h]; simp [waysL]
theorem cell_100 {g : Grid} (z : Sz g) {s : Nat × Nat} (hs : Ok g s) : s.1 < 100 := by
  have h1 := hs.cell
  have h2 : nR g * nC g ≤ 5 * 5 := Nat.mul_le_mul (by have := z.n5; omega) (by have := z.m5; omega)
  omega
theorem roundText_parse {g : Grid} (z : Sz g) {s : Nat × Nat} (hs : Ok g s) {t : Str} (ht : t ≠ []) : roundText g s = t ↔ (parseR t = some (s.1, waysL (close g s).1) ∧ (close g s).2 = true) := by
  constructor
  · intro h
    unfold roundText at h
    split at h
    · next hc => rw [← h]; exact ⟨parse_of (cell_100 z hs) (waysL_ne z hs), hc⟩
    · exact absurd h.symm ht
  · rintro ⟨h, hc⟩
    unfold roundText
    rw [if_pos hc]
    exact (parse_some h).2.2.symm
/-- whether a direction at a cell tells these ways -/
def tellsB (g : Grid) (c : Nat) (u : Str) (d : Nat) : Bool := (close g (c, d)).2 && decide (waysL (close g (c, d)).1 = u)
def roundIs (g : Grid) (t : Str) : Int × Bool := match parseR t with
  | none => (0, false)
  | some (c, u) => if gridIn g = true ∧ c < nR g * nC g ∧ (tellsB g c u 0 || tellsB g c u 1 || tellsB g c u 2 || tellsB g c u 3) = true then ((u.length : Int), true) else (0, false)
theorem roundIs_no {g : Grid} {t : Str} (h : parseR t = none) : roundIs g t = (0, false) := by unfold roundIs; rw [h]
theorem roundIs_grid {g : Grid} {t : Str} (h : gridIn g = false) : roundIs g t = (0, false) := by
  unfold roundIs
  split
  · rfl
  · rw [if_neg (fun e => by rw [h] at e; cases e.1)]
theorem roundIs_cell {g : Grid} {t : Str} {c : Nat} {u : Str} (h : parseR t = some (c, u)) (hc : nR g * nC g ≤ c) : roundIs g t = (0, false) := by
  unfold roundIs; rw [h]; dsimp only
  rw [if_neg (fun e => by omega)]
theorem roundIs_none {g : Grid} {t : Str} {c : Nat} {u : Str} (h : parseR t = some (c, u)) (hn : ∀ d, d < 4 → tellsB g c u d = false) : roundIs g t = (0, false) := by
  unfold roundIs; rw [h]; dsimp only
  rw [hn 0 (by omega), hn 1 (by omega), hn 2 (by omega), hn 3 (by omega), if_neg (fun e => by cases e.2.2)]
theorem roundIs_some {g : Grid} {t : Str} {c d : Nat} {u : Str} (hg : gridIn g = true) (h : parseR t = some (c, u)) (hc : c < nR g * nC g) (hd : d < 4) (ht : tellsB g c u d = true) : roundIs g t = (((close g (c, d)).1.length : Int), true) := by
  unfold roundIs; rw [h]; dsimp only
  have hl : u.length = (close g (c, d)).1.length := by
    simp only [tellsB, Bool.and_eq_true, decide_eq_true_eq] at ht
    rw [← ht.2]; simp [waysL]
  have h4 : d = 0 ∨ d = 1 ∨ d = 2 ∨ d = 3 := by omega
  have hx : (tellsB g c u 0 || tellsB g c u 1 || tellsB g c u 2 || tellsB g c u 3) = true := by
    rcases h4 with rfl | rfl | rfl | rfl <;> rw [ht] <;> simp
  rw [if_pos ⟨hg, hc, hx⟩, hl]
/-- the program's way: the first step that tells the text -/
theorem roundIs_hit {g : Grid} (z : Sz g) (hg : gridIn g = true) {s : Nat × Nat} (hs : Ok g s) {t : Str} (ht : t ≠ []) (h : roundText g s = t) : roundIs g t = (((close g s).1.length : Int), true) := by
  obtain ⟨h1, h2⟩ := (roundText_parse z hs ht).1 h
  exact roundIs_some (d := s.2) hg h1 hs.cell hs.d (by simp only [tellsB, Bool.and_eq_true, decide_eq_true_eq]; exact ⟨h2, trivial⟩)
theorem roundIs_miss {g : Grid} (z : Sz g) {t : Str} (ht : t ≠ []) (h : ∀ s, Ok g s → roundText g s ≠ t) : roundIs g t = (0, false) := by
  cases hp : parseR t with
  | none => exact roundIs_no hp
  | some x =>
    obtain ⟨c, u⟩ := x
    by_cases hc : nR g * nC g ≤ c
    · exact roundIs_cell hp hc
    · refine roundIs_none hp fun d hd => ?_
      cases e : tellsB g c u d with
      | false => rfl
      | true =>
        simp only [tellsB, Bool.and_eq_true, decide_eq_true_eq] at e
        have hok : Ok g (c, d) := ⟨by show c < _; omega, hd⟩
        exact absurd ((roundText_parse z hok ht).2 ⟨by rw [hp, e.2], e.1⟩) (h _ hok)
theorem roundIs_nil (g : Grid) : roundIs g [] = (0, false) := roundIs_no (by decide)
/-! rounds have four steps at least -/
def chk4 (n m cell e1 e2 e3 : Nat) : Bool := match goN n m cell e1 with
  | .inl _ => true
  | .inr s1 => decide (s1.1 ≠ cell) && (match goN n m s1.1 e2 with
    | .inl _ => true
    | .inr s2 => (decide (e2 = rv e1) || decide (s2.1 ≠ cell)) && (match goN n m s2.1 e3 with
      | .inl _ => true
      | .inr s3 => decide (s3.1 ≠ cell)))
theorem all4 : ∀ n < 6, ∀ m < 6, ∀ cell < n * m, ∀ e1 < 4, ∀ e2 < 4, ∀ e3 < 4, chk4 n m cell e1 e2 e3 = true := by decide +kernel
theorem bend_nrv (c : UInt8) {d : Nat} (h : d < 4) : bend c d ≠ rv d := by
  have hd : d = 0 ∨ d = 1 ∨ d = 2 ∨ d = 3 := by omega
  unfold bend rv
  rcases hd with rfl | rfl | rfl | rfl <;> (split <;> (try split) <;> simp_all)
theorem go_dir {n m cell e : Nat} {s : Nat × Nat} (h : goN n m cell e = .inr s) (he : e < 4) : s.2 = e := by
  unfold goN at h
  have hd : e = 0 ∨ e = 1 ∨ e = 2 ∨ e = 3 := by omega
  rcases hd with rfl | rfl | rfl | rfl <;> simp at h <;> (split at h <;> (cases h <;> rfl))
theorem close_four {g : Grid} (z : Sz g) {s : Nat × Nat} (hs : Ok g s) (h : (close g s).2 = true) : 4 ≤ (close g s).1.length := by
  have h0 : 0 < nR g * nC g := Nat.mul_pos z.n1 z.m1
  obtain ⟨k, hk⟩ : ∃ k, 4 * (nR g * nC g) = k + 4 := ⟨4 * (nR g * nC g) - 4, by omega⟩
  unfold close at h ⊢
  rw [hk] at h ⊢
  have b1 := bend_lt (letter g s.1) s.2 hs.d
  cases e1 : afterN g s with
  | inl p =>
    unfold closeF at h
    rw [e1] at h; cases h
  | inr s1 =>
    have o1 := (after_r z hs e1).1
    have d1 : s1.2 = bend (letter g s.1) s.2 := go_dir e1 b1
    have b2 := bend_lt (letter g s1.1) s1.2 o1.d
    have c1 := all4 (nR g) z.n5 (nC g) z.m5 s.1 hs.cell (bend (letter g s.1) s.2) b1 (bend (letter g s1.1) s1.2) b2 0 (by omega)
    unfold chk4 at c1
    rw [show goN (nR g) (nC g) s.1 (bend (letter g s.1) s.2) = .inr s1 from e1] at c1
    simp only [Bool.and_eq_true, decide_eq_true_eq] at c1
    have n1 : s1 ≠ s := fun e => c1.1 (by rw [e])
    unfold closeF at h ⊢
    rw [e1] at h ⊢
    simp only at h ⊢
    rw [if_neg n1] at h ⊢
    simp only at h ⊢
    cases e2 : afterN g s1 with
    | inl p =>
      unfold closeF at h
      rw [e2] at h; cases h
    | inr s2 =>
      have o2 := (after_r z o1 e2).1
      have b3 := bend_lt (letter g s2.1) s2.2 o2.d
      have c2 := all4 (nR g) z.n5 (nC g) z.m5 s.1 hs.cell (bend (letter g s.1) s.2) b1 (bend (letter g s1.1) s1.2) b2 (bend (letter g s2.1) s2.2) b3
      unfold chk4 at c2
      rw [show goN (nR g) (nC g) s.1 (bend (letter g s.1) s.2) = .inr s1 from e1] at c2
      simp only at c2
      rw [show goN (nR g) (nC g) s1.1 (bend (letter g s1.1) s1.2) = .inr s2 from e2] at c2
      simp only [Bool.and_eq_true, Bool.or_eq_true, decide_eq_true_eq] at c2
      have n2 : s2 ≠ s := fun e => by
        rcases c2.2.1 with h1 | h1
        · exact bend_nrv (letter g s1.1) o1.d (by rw [h1, d1])
        · exact h1 (by rw [e])
      unfold closeF at h ⊢
      rw [e2] at h ⊢
      simp only at h ⊢
      rw [if_neg n2] at h ⊢
      simp only at h ⊢
      cases e3 : afterN g s2 with
      | inl p =>
        unfold closeF at h
        rw [e3] at h; cases h
      | inr s3 =>
        rw [show goN (nR g) (nC g) s2.1 (bend (letter g s2.1) s2.2) = .inr s3 from e3] at c2
        simp only [decide_eq_true_eq] at c2
        have n3 : s3 ≠ s := fun e => c2.2.2 (by rw [e])
        unfold closeF at h ⊢
        rw [e3] at h ⊢
        simp only at h ⊢
        rw [if_neg n3] at h ⊢
        simp only at h ⊢
        unfold closeF at h ⊢
        cases e4 : afterN g s3 with
        | inl p => rw [e4] at h; cases h
        | inr s4 =>
          simp only
          split <;> simp
theorem roundIs_four {g : Grid} (z : Sz g) {t : Str} (h : (roundIs g t).2 = true) : 4 ≤ (roundIs g t).1 ∧ 1 ≤ (rounds g).length := by
  unfold roundIs at h ⊢
  split at h
  · cases h
  · next c u hp =>
    split at h
    · next hc =>
      rw [if_pos hc]
      obtain ⟨_, h1, h2⟩ := hc
      have hex : ∃ d, d < 4 ∧ tellsB g c u d = true := by
        simp only [Bool.or_eq_true] at h2
        rcases h2 with ((h2 | h2) | h2) | h2
        · exact ⟨0, by omega, h2⟩
        · exact ⟨1, by omega, h2⟩
        · exact ⟨2, by omega, h2⟩
        · exact ⟨3, by omega, h2⟩
      obtain ⟨d, hd, ht⟩ := hex
      simp only [tellsB, Bool.and_eq_true, decide_eq_true_eq] at ht
      have hok : Ok g (c, d) := ⟨h1, hd⟩
      have h4 := close_four z hok ht.1
      have hl : u.length = (close g (c, d)).1.length := by rw [← ht.2]; simp [waysL]
      refine ⟨by dsimp only; omega, ?_⟩
      have hn := (close_iff z hok).1 ht.1
      have hc4 : code (c, d) < 4 * (nR g * nC g) := code_lt hok
      apply Classical.byContradiction
      intro e
      have := (rounds_nil z).1 (by omega) (code (c, d)) hc4
      rw [stepOf_code (show (c, d).2 < 4 from hd)] at this
      exact hn this
    · cases h
/-! lengths as a text -/
def lensTo (g : Grid) : Nat → List Nat
  | 0 => []
  | p + 1 => if p < (way g p).2 then lensTo g p ++ [(way g p).1.length] else lensTo g p
def lensL (g : Grid) : List Nat := lensTo g (ports g)
def lth : Str := [108, 101, 110, 103, 116, 104, 115]
def wordsT (l : List Nat) : Str := lth ++ l.flatMap fun n => [32] ++ decL n
theorem lensTo_sum (g : Grid) : ∀ k, (lensTo g k).sum = halfSum g k
  | 0 => rfl
  | k + 1 => by
    rw [lensTo, halfSum]
    split
    · rw [List.sum_append, lensTo_sum g k]; simp
    · rw [lensTo_sum g k]; rfl
theorem lensTo_len (g : Grid) : ∀ k, (lensTo g k).length ≤ k
  | 0 => Nat.le_refl _
  | k + 1 => by
    have := lensTo_len g k
    rw [lensTo]
    split
    · rw [List.length_append]; simp; omega
    · omega
theorem sum_mem : ∀ (l : List Nat) (x : Nat), x ∈ l → x ≤ l.sum
  | [], _, h => by cases h
  | y :: l, x, h => by
    rw [List.sum_cons]
    rcases List.mem_cons.1 h with rfl | h
    · omega
    · have := sum_mem l x h; omega
theorem half_le {g : Grid} (z : Sz g) : halfSum g (ports g) ≤ 2 * (nR g * nC g) := by
  have h1 := sums_split z (ports g) (Nat.le_refl _)
  have h2 := half_other z
  have h3 : (beamCodes g).length = lenSum g (ports g) := flatMap_len g _
  have h4 := nodup_le _ _ (beamCodes_nodup z) (beamCodes_lt z)
  omega
theorem half_mono (g : Grid) (k : Nat) : ∀ d, halfSum g k ≤ halfSum g (k + d)
  | 0 => Nat.le_refl _
  | d + 1 => by
    have := half_mono g k d
    rw [← Nat.add_assoc, halfSum]; omega
theorem lens_lt {g : Grid} (z : Sz g) {k : Nat} (hk : k ≤ ports g) : ∀ x ∈ lensTo g k, x < 100 := fun x hx => by
  have h1 := sum_mem _ x hx
  rw [lensTo_sum] at h1
  have h2 := half_mono g k (ports g - k)
  rw [show k + (ports g - k) = ports g by omega] at h2
  have h3 := half_le z
  have h4 : nR g * nC g ≤ 5 * 5 := Nat.mul_le_mul (by have := z.n5; omega) (by have := z.m5; omega)
  omega
def proofNone (g : Grid) : Str × Bool := if gridIn g = true ∧ (rounds g).length = 0 then (wordsT (lensL g), true) else ([], false)
theorem proofNone_at {g : Grid} (h : gridIn g = true) (hr : (rounds g).length = 0) : proofNone g = (wordsT (lensL g), true) := by rw [proofNone, if_pos ⟨h, hr⟩]
theorem proofNone_not {g : Grid} (h : ¬ (gridIn g = true ∧ (rounds g).length = 0)) : proofNone g = ([], false) := by rw [proofNone, if_neg h]
def proofNoneIs (g : Grid) (t : Str) : Bool := (proofNone g).2 && decide ((proofNone g).1 = t)
theorem wordsT_snoc (l : List Nat) (n : Nat) : wordsT (l ++ [n]) = wordsT l ++ [32] ++ decL n := by
  unfold wordsT; rw [List.flatMap_append]; simp
theorem wordsT_len {l : List Nat} (h : ∀ x ∈ l, x < 100) : (wordsT l).length ≤ 7 + 3 * l.length := by
  unfold wordsT
  rw [List.length_append]
  have : (l.flatMap fun n => [32] ++ decL n).length ≤ 3 * l.length := by
    induction l with
    | nil => simp
    | cons x l ih =>
      have h1 := ih fun y hy => h y (List.mem_cons_of_mem _ hy)
      have h2 := decL_len (h x (by simp))
      simp only [List.flatMap_cons, List.length_append, List.length_cons, List.length_nil]
      omega
  simp only [lth, List.length_cons, List.length_nil]
  omega
/-! the first step that is on no beam -/
def firstOff (g : Grid) : Nat → Nat → Option Nat
  | 0, _ => none
  | k + 1, x => if beamMark g x = true then firstOff g k (x + 1) else some x
theorem firstOff_some {g : Grid} : ∀ (k x y : Nat), firstOff g k x = some y → x ≤ y ∧ y < x + k ∧ beamMark g y = false ∧ ∀ j, x ≤ j → j < y → beamMark g j = true
  | 0, x, y, h => by cases h
  | k + 1, x, y, h => by
    unfold firstOff at h
    by_cases hm : beamMark g x = true
    · rw [if_pos hm] at h
      obtain ⟨h1, h2, h3, h4⟩ := firstOff_some k (x + 1) y h
      exact ⟨by omega, by omega, h3, fun j hj hjy => by
        by_cases e : j = x
        · rw [e]; exact hm
        · exact h4 j (by omega) hjy⟩
    · rw [if_neg hm] at h
      cases h
      exact ⟨Nat.le_refl _, by omega, by simpa using hm, fun j h1 h2 => by omega⟩
theorem firstOff_none {g : Grid} : ∀ (k x : Nat), firstOff g k x = none → ∀ j, x ≤ j → j < x + k → beamMark g j = true
  | 0, x, _, j, h1, h2 => by omega
  | k + 1, x, h, j, h1, h2 => by
    unfold firstOff at h
    by_cases hm : beamMark g x = true
    · rw [if_pos hm] at h
      by_cases e : j = x
      · rw [e]; exact hm
      · exact firstOff_none k (x + 1) h j (by omega) (by omega)
    · rw [if_neg hm] at h; cases h
def offAt (g : Grid) : Option Nat := firstOff g (4 * (nR g * nC g)) 0
theorem off_none {g : Grid} (z : Sz g) : offAt g = none ↔ (rounds g).length = 0 := by
  rw [rounds_nil z]
  constructor
  · intro h x hx
    exact (beamMark_iff z).1 (firstOff_none _ _ h x (by omega) (by omega))
  · intro h
    cases e : offAt g with
    | none => rfl
    | some y =>
      obtain ⟨_, h2, h3, _⟩ := firstOff_some _ _ _ e
      rw [(beamMark_iff z).2 (h y (by omega))] at h3; cases h3
def proofRound (g : Grid) : Str × Bool := if gridIn g = true then match offAt g with
  | none => ([], false)
  | some x => (roundText g (stepOf x), true) else ([], false)
theorem proofRound_not {g : Grid} (h : gridIn g = false) : proofRound g = ([], false) := by rw [proofRound, if_neg (by rw [h]; decide)]
theorem proofRound_none {g : Grid} (ho : offAt g = none) : proofRound g = ([], false) := by
  unfold proofRound
  split
  · rw [ho]
  · rfl
theorem proofRound_at {g : Grid} {x : Nat} (h : gridIn g = true) (ho : offAt g = some x) : proofRound g = (roundText g (stepOf x), true) := by
  rw [proofRound, if_pos h, ho]
theorem roundText_len {g : Grid} (z : Sz g) {s : Nat × Nat} (hs : Ok g s) : (roundText g s).length ≤ 110 := by
  unfold roundText
  split
  · have h1 := decL_len (cell_100 z hs)
    have h2 := close_len g s
    have h4 : nR g * nC g ≤ 5 * 5 := Nat.mul_le_mul (by have := z.n5; omega) (by have := z.m5; omega)
    simp only [waysL, rnd, List.length_append, List.length_cons, List.length_nil, List.length_map]
    omega
  · simp
theorem off_close {g : Grid} (z : Sz g) {x : Nat} (ho : offAt g = some x) : x < 4 * (nR g * nC g) ∧ (close g (stepOf x)).2 = true ∧ ¬ OnBeam g (stepOf x) := by
  obtain ⟨_, h2, h3, _⟩ := firstOff_some _ _ _ ho
  have hx : x < 4 * (nR g * nC g) := by omega
  have hn : ¬ OnBeam g (stepOf x) := fun e => by rw [(beamMark_iff z).2 e] at h3; cases h3
  exact ⟨hx, (close_iff z (stepOf_ok hx)).2 hn, hn⟩
end Go.Proofs.YtmhmdlgcdeodmaaDoor
