/- Plain laws of ways: a step can be gone back, so that a beam leaves the grid and leads back. -/
import Derived.Test.YtjejdebmlgjdeaaModel
namespace Go.Proofs.Ytjejdebmlgjdeaa
set_option maxRecDepth 100000
set_option linter.unusedSimpArgs false
set_option linter.unusedVariables false

def rv (d : Nat) : Nat := (d + 2) % 4
def rev (g : Grid) (s : Nat × Nat) : Nat × Nat := (s.1, rv (bend (letter g s.1) s.2))

/-! the finite facts -/
def chkA (n m cell e : Nat) : Bool := match goN n m cell e with
  | .inl p => decide (p < 2 * n + 2 * m) && decide (enterN n m p = (cell, rv e))
  | .inr s => decide (s.1 < n * m) && decide (s.2 = e) && decide (goN n m s.1 (rv e) = .inr (cell, rv e))
def chkC (n m p : Nat) : Bool := decide ((enterN n m p).1 < n * m) && decide ((enterN n m p).2 < 4) && decide (goN n m (enterN n m p).1 (rv (enterN n m p).2) = .inl p)
theorem allA : ∀ n < 6, ∀ m < 6, ∀ cell < n * m, ∀ e < 4, chkA n m cell e = true := by decide +kernel
theorem allC : ∀ n < 6, ∀ m < 6, 0 < n → 0 < m → ∀ p < 2 * n + 2 * m, chkC n m p = true := by decide +kernel

/-- sizes of a grid -/
structure Sz (g : Grid) : Prop where
  n1 : 0 < nR g
  n5 : nR g < 6
  m1 : 0 < nC g
  m5 : nC g < 6

theorem rv_lt (d : Nat) : rv d < 4 := Nat.mod_lt _ (by decide)
theorem rv_rv {d : Nat} (h : d < 4) : rv (rv d) = d := by unfold rv; omega
theorem bend_lt (c : UInt8) (d : Nat) (hd : d < 4) : bend c d < 4 := by unfold bend; split <;> (try split) <;> (try split) <;> (try split) <;> omega
theorem bend_rv (c : UInt8) {d : Nat} (h : d < 4) : bend c (rv (bend c d)) = rv d := by
  obtain h | h | h | h : d = 0 ∨ d = 1 ∨ d = 2 ∨ d = 3 := by omega
  all_goals
    subst h
    unfold bend
    by_cases h1 : c = 114
    · simp [h1, rv]
    · by_cases h2 : c = 102
      · simp [h2, rv]
      · simp [h1, h2, rv]

/-- a step within the grid -/
structure Ok (g : Grid) (s : Nat × Nat) : Prop where
  cell : s.1 < nR g * nC g
  d : s.2 < 4

theorem Ok.rev {g : Grid} {s : Nat × Nat} (h : Ok g s) : Ok g (rev g s) := ⟨h.cell, rv_lt _⟩
theorem rev_rev {g : Grid} {s : Nat × Nat} (h : Ok g s) : rev g (rev g s) = s := by
  unfold Go.Proofs.Ytjejdebmlgjdeaa.rev
  simp only [bend_rv _ h.d, rv_rv h.d]

theorem enter_ok {g : Grid} (z : Sz g) {p : Nat} (hp : p < ports g) : Ok g (enterN (nR g) (nC g) p) := by
  have := allC _ z.n5 _ z.m5 z.n1 z.m1 p hp
  simp only [chkC, Bool.and_eq_true, decide_eq_true_eq] at this
  exact ⟨this.1.1, this.1.2⟩
theorem rev_enter {g : Grid} (z : Sz g) {p : Nat} (hp : p < ports g) : afterN g (rev g (enterN (nR g) (nC g) p)) = .inl p := by
  have := allC _ z.n5 _ z.m5 z.n1 z.m1 p hp
  simp only [chkC, Bool.and_eq_true, decide_eq_true_eq] at this
  unfold afterN rev
  simp only [bend_rv _ (enter_ok z hp).d]
  exact this.2
theorem after_r {g : Grid} (z : Sz g) {s s' : Nat × Nat} (h : Ok g s) (e : afterN g s = .inr s') : Ok g s' ∧ afterN g (rev g s') = .inr (rev g s) := by
  have hb := bend_lt (letter g s.1) s.2 h.d
  have := allA _ z.n5 _ z.m5 s.1 h.cell _ hb
  unfold chkA at this
  unfold afterN at e
  rw [e] at this
  simp only [Bool.and_eq_true, decide_eq_true_eq] at this
  refine ⟨⟨this.1.1, by rw [this.1.2]; exact hb⟩, ?_⟩
  unfold afterN rev
  simp only [bend_rv _ (show s'.2 < 4 by rw [this.1.2]; exact hb)]
  rw [this.1.2]
  exact this.2
theorem after_l {g : Grid} (z : Sz g) {s : Nat × Nat} {p : Nat} (h : Ok g s) (e : afterN g s = .inl p) : p < ports g ∧ enterN (nR g) (nC g) p = rev g s := by
  have := allA _ z.n5 _ z.m5 s.1 h.cell _ (bend_lt (letter g s.1) s.2 h.d)
  unfold chkA at this
  unfold afterN at e
  rw [e] at this
  simp only [Bool.and_eq_true, decide_eq_true_eq] at this
  exact ⟨this.1, this.2⟩
theorem after_inj {g : Grid} (z : Sz g) {s t x : Nat × Nat} (hs : Ok g s) (ht : Ok g t) (e1 : afterN g s = .inr x) (e2 : afterN g t = .inr x) : s = t := by
  have h1 := (after_r z hs e1).2
  have h2 := (after_r z ht e2).2
  rw [h1] at h2
  have := congrArg (rev g) (Sum.inr.inj h2)
  rwa [rev_rev hs, rev_rev ht] at this
theorem no_before {g : Grid} (z : Sz g) {s : Nat × Nat} {p : Nat} (hp : p < ports g) (hs : Ok g s) : afterN g s ≠ .inr (enterN (nR g) (nC g) p) := fun e => by
  have h1 := (after_r z hs e).2
  rw [rev_enter z hp] at h1
  cases h1

/-! leaving -/
/-- pigeons -/
theorem pigeon : ∀ (b k : Nat) (f : Nat → Nat), (∀ i, i < k → f i < b) → (∀ i j, i < j → j < k → f i ≠ f j) → k ≤ b
  | 0, k, f, h1, _ => by
    rcases Nat.eq_zero_or_pos k with h | h
    · omega
    · have := h1 0 h; omega
  | b + 1, k, f, h1, h2 => by
    rcases Nat.eq_zero_or_pos k with h | h
    · omega
    · -- take the last one away
      have hk := h1 (k - 1) (by omega)
      have key : k - 1 ≤ b := pigeon b (k - 1) (fun i => if f i = b then f (k - 1) else f i) (fun i hi => by
          show (if f i = b then f (k - 1) else f i) < b
          have a1 := h1 i (by omega)
          have a2 := h2 i (k - 1) hi (by omega)
          split
          · rename_i e; omega
          · omega) (fun i j hij hj => by
          show (if f i = b then f (k - 1) else f i) ≠ (if f j = b then f (k - 1) else f j)
          have a1 := h2 i j hij (by omega)
          have a2 := h2 i (k - 1) (by omega) (by omega)
          have a3 := h2 j (k - 1) hj (by omega)
          split <;> split <;> omega)
      omega

/-- the state after k steps, as long as one stays in -/
def stepsN (g : Grid) : Nat → Nat × Nat → Option (Nat × Nat)
  | 0, s => some s
  | k + 1, s => match afterN g s with
    | .inl _ => none
    | .inr s' => stepsN g k s'

theorem stepsN_succ (g : Grid) : ∀ (k : Nat) (s : Nat × Nat), stepsN g (k + 1) s = (stepsN g k s).bind fun t => match afterN g t with
    | .inl _ => none
    | .inr t' => some t'
  | 0, s => by simp only [stepsN, Option.bind_some]
  | k + 1, s => by
    rw [stepsN]
    cases h : afterN g s with
    | inl p => simp [stepsN, h]
    | inr s' => simpa only [stepsN, h] using stepsN_succ g k s'

theorem stepsN_of_not_leaves (g : Grid) : ∀ (f : Nat) (s : Nat × Nat), leaves g f s = false → ∃ t, stepsN g f s = some t
  | 0, s, _ => ⟨s, rfl⟩
  | f + 1, s, h => by
    unfold leaves at h
    unfold stepsN
    cases e : afterN g s with
    | inl p => rw [e] at h; cases h
    | inr s' => rw [e] at h; exact stepsN_of_not_leaves g f s' h

theorem stepsN_le (g : Grid) : ∀ (k j : Nat) (s t : Nat × Nat), stepsN g (k + j) s = some t → ∃ u, stepsN g k s = some u ∧ stepsN g j u = some t
  | 0, j, s, t, h => ⟨s, rfl, by rwa [Nat.zero_add] at h⟩
  | k + 1, j, s, t, h => by
    rw [show k + 1 + j = (k + j) + 1 by omega, stepsN] at h
    rw [stepsN]
    cases e : afterN g s with
    | inl p => rw [e] at h; cases h
    | inr s' => rw [e] at h; exact stepsN_le g k j s' t h

theorem stepsN_ok {g : Grid} (z : Sz g) : ∀ (k : Nat) (s t : Nat × Nat), Ok g s → stepsN g k s = some t → Ok g t
  | 0, s, t, h, e => by cases e; exact h
  | k + 1, s, t, h, e => by
    rw [stepsN] at e
    cases e1 : afterN g s with
    | inl p => rw [e1] at e; cases e
    | inr s' => rw [e1] at e; exact stepsN_ok z k s' t (after_r z h e1).1 e

/-- two ways to one state of as many steps begin at one -/
theorem stepsN_inj {g : Grid} (z : Sz g) : ∀ (k : Nat) (s t x : Nat × Nat), Ok g s → Ok g t → stepsN g k s = some x → stepsN g k t = some x → s = t
  | 0, s, t, x, _, _, e1, e2 => by cases e1; cases e2; rfl
  | k + 1, s, t, x, hs, ht, e1, e2 => by
    rw [stepsN] at e1 e2
    cases h1 : afterN g s with
    | inl p => rw [h1] at e1; cases e1
    | inr s' =>
      cases h2 : afterN g t with
      | inl p => rw [h2] at e2; cases e2
      | inr t' =>
        rw [h1] at e1; rw [h2] at e2
        have := stepsN_inj z k s' t' x (after_r z hs h1).1 (after_r z ht h2).1 e1 e2
        subst this
        exact after_inj z hs ht h1 h2

def code (s : Nat × Nat) : Nat := 4 * s.1 + s.2
theorem code_inj {g : Grid} {s t : Nat × Nat} (hs : Ok g s) (ht : Ok g t) (h : code s = code t) : s = t := by
  have h1 := hs.d; have h2 := ht.d
  unfold code at h
  exact Prod.ext (by omega) (by omega)
theorem code_lt {g : Grid} {s : Nat × Nat} (hs : Ok g s) : code s < 4 * (nR g * nC g) := by
  have h1 := hs.d; have h2 := hs.cell
  unfold code; omega

theorem way_leaves {g : Grid} (z : Sz g) {p : Nat} (hp : p < ports g) : leaves g (4 * (nR g * nC g)) (enterN (nR g) (nC g) p) = true := by
  have h0 := enter_ok z hp
  cases hl : leaves g (4 * (nR g * nC g)) (enterN (nR g) (nC g) p) with
  | true => rfl
  | false =>
    exfalso
    obtain ⟨t, ht⟩ := stepsN_of_not_leaves g _ _ hl
    have hall : ∀ i, i ≤ 4 * (nR g * nC g) → ∃ u, stepsN g i (enterN (nR g) (nC g) p) = some u ∧ Ok g u := fun i hi => by
      obtain ⟨u, h1, _⟩ := stepsN_le g i (4 * (nR g * nC g) - i) _ t (by rw [show i + (4 * (nR g * nC g) - i) = 4 * (nR g * nC g) by omega]; exact ht)
      exact ⟨u, h1, stepsN_ok z i _ u h0 h1⟩
    have := pigeon (4 * (nR g * nC g)) (4 * (nR g * nC g) + 1) (fun i => ((stepsN g i (enterN (nR g) (nC g) p)).map code).getD 0) (fun i hi => by
        obtain ⟨u, h1, h2⟩ := hall i (by omega)
        simp only [h1, Option.map_some, Option.getD_some]
        exact code_lt h2) (fun i j hij hj e => by
        obtain ⟨u, h1, h2⟩ := hall i (by omega)
        obtain ⟨v, h3, h4⟩ := hall j (by omega)
        simp only [h1, h3, Option.map_some, Option.getD_some] at e
        obtain rfl := code_inj h2 h4 e
        obtain ⟨x, h5, h6⟩ := stepsN_le g (j - i) i _ u (by rw [show j - i + i = j by omega]; exact h3)
        have hx := stepsN_ok z _ _ _ h0 h5
        have hxe := stepsN_inj z i _ _ u hx h0 h6 h1
        subst hxe
        obtain ⟨k, hk⟩ : ∃ k, j - i = k + 1 := ⟨j - i - 1, by omega⟩
        rw [hk, stepsN_succ] at h5
        cases h7 : stepsN g k (enterN (nR g) (nC g) p) with
        | none => rw [h7] at h5; simp at h5
        | some y =>
          rw [h7, Option.bind_some] at h5
          have hy := stepsN_ok z _ _ _ h0 h7
          cases h8 : afterN g y with
          | inl q => simp [h8] at h5
          | inr y' =>
            simp only [h8, Option.some.injEq] at h5
            rw [h5] at h8
            exact no_before z hp hy h8)
    omega
theorem wayF_ok {g : Grid} (z : Sz g) : ∀ (f : Nat) (s : Nat × Nat), Ok g s → ∀ t ∈ (wayF g f s).1, Ok g t
  | 0, _, _, t, ht => by simp [wayF] at ht
  | f + 1, s, h, t, ht => by
    unfold wayF at ht
    cases e : afterN g s with
    | inl p =>
      rw [e] at ht
      rw [List.mem_singleton.1 ht]; exact h
    | inr s' =>
      rw [e] at ht
      rcases List.mem_cons.1 ht with rfl | ht
      · exact h
      · exact wayF_ok z f s' (after_r z h e).1 t ht
theorem way_ok {g : Grid} (z : Sz g) {p : Nat} (hp : p < ports g) : ∀ t ∈ (way g p).1, Ok g t := wayF_ok z _ _ (enter_ok z hp)
theorem wayF_len (g : Grid) : ∀ (f : Nat) (s : Nat × Nat), (wayF g f s).1.length ≤ f
  | 0, _ => by simp [wayF]
  | f + 1, s => by
    unfold wayF
    cases e : afterN g s with
    | inl p => simp
    | inr s' => simpa using wayF_len g f s'
theorem way_len (g : Grid) (p : Nat) : (way g p).1.length ≤ 4 * (nR g * nC g) := wayF_len g _ _
theorem wayF_end {g : Grid} (z : Sz g) : ∀ (f : Nat) (s : Nat × Nat), Ok g s → leaves g f s = true → (wayF g f s).2 < ports g
  | 0, _, _, h => by cases h
  | f + 1, s, hs, h => by
    unfold leaves at h
    unfold wayF
    cases e : afterN g s with
    | inl p => exact (after_l z hs e).1
    | inr s' => rw [e] at h; exact wayF_end z f s' (after_r z hs e).1 h
theorem way_end {g : Grid} (z : Sz g) {p : Nat} (hp : p < ports g) : (way g p).2 < ports g := wayF_end z _ _ (enter_ok z hp) (way_leaves z hp)
end Go.Proofs.Ytjejdebmlgjdeaa
