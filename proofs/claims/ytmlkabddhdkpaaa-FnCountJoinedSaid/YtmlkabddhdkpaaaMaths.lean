/- The plain models: grids, beams, rounds. No program in sight. -/
import Derived.LoadGo2
namespace Go.Proofs.Ytmlkabddhdkpaaa
set_option maxRecDepth 100000
set_option linter.unusedSimpArgs false
set_option linter.unusedVariables false

abbrev Str := List UInt8
abbrev Grid := List Str

def okL (c : UInt8) : Bool := decide (c = 46 ∨ c = 114 ∨ c = 102)
/-- a row of m letters -/
def rowOk (m : Nat) (r : Str) : Bool := r.length == m && r.all okL
def gridIn (g : Grid) : Bool := decide (1 ≤ g.length) && decide (g.length ≤ 5) && decide (1 ≤ (g.getD 0 []).length) && decide ((g.getD 0 []).length ≤ 5) && g.all (rowOk (g.getD 0 []).length)
abbrev nR (g : Grid) : Nat := g.length
abbrev nC (g : Grid) : Nat := (g.getD 0 []).length
def exch (c : UInt8) : UInt8 := if c = 114 then 102 else if c = 102 then 114 else c
def bend (c : UInt8) (d : Nat) : Nat := if c = 114 then (if d = 0 then 1 else if d = 1 then 0 else if d = 2 then 3 else 2) else if c = 102 then 3 - d else d
def letter (g : Grid) (cell : Nat) : UInt8 := (g.getD (cell / nC g) []).getD (cell % nC g) 0
def ports (g : Grid) : Nat := 2 * nR g + 2 * nC g

/-- the first step of a port: the cell and the direction -/
def enterN (n m p : Nat) : Nat × Nat :=
  if p < m then (p, 2) else if p < m + n then ((p - m) * m + m - 1, 3) else if p < 2 * m + n then ((n - 1) * m + m - 1 - (p - m - n), 0) else ((n - 1 - (p - 2 * m - n)) * m, 1)
/-- where one comes from a cell in a direction: out at a port, or the next step -/
def goN (n m cell d : Nat) : Sum Nat (Nat × Nat) :=
  let r := cell / m
  let c := cell % m
  if d = 0 then (if r = 0 then .inl c else .inr (cell - m, 0))
  else if d = 1 then (if c + 1 = m then .inl (m + r) else .inr (cell + 1, 1))
  else if d = 2 then (if r + 1 = n then .inl (2 * m + n - 1 - c) else .inr (cell + m, 2))
  else (if c = 0 then .inl (2 * m + 2 * n - 1 - r) else .inr (cell - 1, 3))
def afterN (g : Grid) (s : Nat × Nat) : Sum Nat (Nat × Nat) := goN (nR g) (nC g) s.1 (bend (letter g s.1) s.2)

/-- the steps from s on, and the port at which the grid is left, within so many steps -/
def wayF (g : Grid) : Nat → Nat × Nat → List (Nat × Nat) × Nat
  | 0, _ => ([], 0)
  | f + 1, s => match afterN g s with
    | .inl p => ([s], p)
    | .inr s' => (s :: (wayF g f s').1, (wayF g f s').2)
def leaves (g : Grid) : Nat → Nat × Nat → Bool
  | 0, _ => false
  | f + 1, s => match afterN g s with
    | .inl _ => true
    | .inr s' => leaves g f s'
def way (g : Grid) (p : Nat) : List (Nat × Nat) × Nat := wayF g (4 * (nR g * nC g)) (enterN (nR g) (nC g) p)
/-- the letter of a direction -/
def dirL (d : Nat) : UInt8 := ([117, 114, 100, 108] : List UInt8).getD d 0
def portIn (g : Grid) (port : Int) : Bool := gridIn g && decide (0 ≤ port ∧ port < ports g)
def proofBeam (g : Grid) (port : Int) : Str × Bool := if portIn g port = true then ([98, 101, 97, 109, 32] ++ (way g port.toNat).1.map (fun s => dirL s.2), true) else ([], false)
end Go.Proofs.Ytmlkabddhdkpaaa

/- Plain laws of ways: a step can be gone back, so that a beam leaves the grid and leads back. -/
namespace Go.Proofs.Ytmlkabddhdkpaaa
set_option maxRecDepth 100000
set_option linter.unusedSimpArgs false
set_option linter.unusedVariables false

def rv (d : Nat) : Nat := (d + 2) % 4
def rev (g : Grid) (s : Nat × Nat) : Nat × Nat := (s.1, rv (bend (letter g s.1) s.2))

/-! the finite facts -/
def chkA (n m cell e : Nat) : Bool := match goN n m cell e with
  | .inl p => decide (p < 2 * n + 2 * m) && decide (enterN n m p = (cell, rv e))
  | .inr s => decide (s.1 < n * m) && decide (s.2 = e) && decide (goN n m s.1 (rv e) = .inr (cell, rv e))
def chkC (n m p : Nat) : Bool := decide ((enterN n m p).1 < n * m) && decide ((enterN n m p).2 < 4) && decide (goN n m (enterN n m p).1 (rv (enterN n m p).2) = .inl p)
theorem allA : ∀ n < 6, ∀ m < 6, ∀ cell < n * m, ∀ e < 4, chkA n m cell e = true := by decide +kernel
theorem allC : ∀ n < 6, ∀ m < 6, 0 < n → 0 < m → ∀ p < 2 * n + 2 * m, chkC n m p = true := by decide +kernel

/-- sizes of a grid -/
structure Sz (g : Grid) : Prop where
  n1 : 0 < nR g
  n5 : nR g < 6
  m1 : 0 < nC g
  m5 : nC g < 6

theorem rv_lt (d : Nat) : rv d < 4 := Nat.mod_lt _ (by decide)
theorem rv_rv {d : Nat} (h : d < 4) : rv (rv d) = d := by unfold rv; omega
theorem bend_lt (c : UInt8) (d : Nat) (hd : d < 4) : bend c d < 4 := by unfold bend; split <;> (try split) <;> (try split) <;> (try split) <;> omega
theorem bend_rv (c : UInt8) {d : Nat} (h : d < 4) : bend c (rv (bend c d)) = rv d := by
  obtain h | h | h | h : d = 0 ∨ d = 1 ∨ d = 2 ∨ d = 3 := by omega
  all_goals
    subst h
    unfold bend
    by_cases h1 : c = 114
    · simp [h1, rv]
    · by_cases h2 : c = 102
      · simp [h2, rv]
      · simp [h1, h2, rv]

/-- a step within the grid -/
structure Ok (g : Grid) (s : Nat × Nat) : Prop where
  cell : s.1 < nR g * nC g
  d : s.2 < 4

theorem Ok.rev {g : Grid} {s : Nat × Nat} (h : Ok g s) : Ok g (rev g s) := ⟨h.cell, rv_lt _⟩
theorem rev_rev {g : Grid} {s : Nat × Nat} (h : Ok g s) : rev g (rev g s) = s := by
  unfold Go.Proofs.Ytmlkabddhdkpaaa.rev
  simp only [bend_rv _ h.d, rv_rv h.d]

theorem enter_ok {g : Grid} (z : Sz g) {p : Nat} (hp : p < ports g) : Ok g (enterN (nR g) (nC g) p) := by
  have := allC _ z.n5 _ z.m5 z.n1 z.m1 p hp
  simp only [chkC, Bool.and_eq_true, decide_eq_true_eq] at this
  exact ⟨this.1.1, this.1.2⟩
theorem rev_enter {g : Grid} (z : Sz g) {p : Nat} (hp : p < ports g) : afterN g (rev g (enterN (nR g) (nC g) p)) = .inl p := by
  have := allC _ z.n5 _ z.m5 z.n1 z.m1 p hp
  simp only [chkC, Bool.and_eq_true, decide_eq_true_eq] at this
  unfold afterN rev
  simp only [bend_rv _ (enter_ok z hp).d]
  exact this.2
theorem after_r {g : Grid} (z : Sz g) {s s' : Nat × Nat} (h : Ok g s) (e : afterN g s = .inr s') : Ok g s' ∧ afterN g (rev g s') = .inr (rev g s) := by
  have hb := bend_lt (letter g s.1) s.2 h.d
  have := allA _ z.n5 _ z.m5 s.1 h.cell _ hb
  unfold chkA at this
  unfold afterN at e
  rw [e] at this
  simp only [Bool.and_eq_true, decide_eq_true_eq] at this
  refine ⟨⟨this.1.1, by rw [this.1.2]; exact hb⟩, ?_⟩
  unfold afterN rev
  simp only [bend_rv _ (show s'.2 < 4 by rw [this.1.2]; exact hb)]
  rw [this.1.2]
  exact this.2
theorem after_l {g : Grid} (z : Sz g) {s : Nat × Nat} {p : Nat} (h : Ok g s) (e : afterN g s = .inl p) : p < ports g ∧ enterN (nR g) (nC g) p = rev g s := by
  have := allA _ z.n5 _ z.m5 s.1 h.cell _ (bend_lt (letter g s.1) s.2 h.d)
  unfold chkA at this
  unfold afterN at e
  rw [e] at this
  simp only [Bool.and_eq_true, decide_eq_true_eq] at this
  exact ⟨this.1, this.2⟩
theorem after_inj {g : Grid} (z : Sz g) {s t x : Nat × Nat} (hs : Ok g s) (ht : Ok g t) (e1 : afterN g s = .inr x) (e2 : afterN g t = .inr x) : s = t := by
  have h1 := (after_r z hs e1).2
  have h2 := (after_r z ht e2).2
  rw [h1] at h2
  have := congrArg (rev g) (Sum.inr.inj h2)
  rwa [rev_rev hs, rev_rev ht] at this
theorem no_before {g : Grid} (z : Sz g) {s : Nat × Nat} {p : Nat} (hp : p < ports g) (hs : Ok g s) : afterN g s ≠ .inr (enterN (nR g) (nC g) p) := fun e => by
  have h1 := (after_r z hs e).2
  rw [rev_enter z hp] at h1
  cases h1

/-! leaving -/
/-- pigeons -/
theorem pigeon : ∀ (b k : Nat) (f : Nat → Nat), (∀ i, i < k → f i < b) → (∀ i j, i < j → j < k → f i ≠ f j) → k ≤ b
  | 0, k, f, h1, _ => by
    rcases Nat.eq_zero_or_pos k with h | h
    · omega
    · have := h1 0 h; omega
  | b + 1, k, f, h1, h2 => by
    rcases Nat.eq_zero_or_pos k with h | h
    · omega
    · -- take the last one away
      have hk := h1 (k - 1) (by omega)
      have key : k - 1 ≤ b := pigeon b (k - 1) (fun i => if f i = b then f (k - 1) else f i) (fun i hi => by
          show (if f i = b then f (k - 1) else f i) < b
          have a1 := h1 i (by omega)
          have a2 := h2 i (k - 1) hi (by omega)
          split
          · rename_i e; omega
          · omega) (fun i j hij hj => by
          show (if f i = b then f (k - 1) else f i) ≠ (if f j = b then f (k - 1) else f j)
          have a1 := h2 i j hij (by omega)
          have a2 := h2 i (k - 1) (by omega) (by omega)
          have a3 := h2 j (k - 1) hj (by omega)
          split <;> split <;> omega)
      omega

/-- the state after k steps, as long as one stays in -/
def stepsN (g : Grid) : Nat → Nat × Nat → Option (Nat × Nat)
  | 0, s => some s
  | k + 1, s => match afterN g s with
    | .inl _ => none
    | .inr s' => stepsN g k s'

theorem stepsN_succ (g : Grid) : ∀ (k : Nat) (s : Nat × Nat), stepsN g (k + 1) s = (stepsN g k s).bind fun t => match afterN g t with
    | .inl _ => none
    | .inr t' => some t'
  | 0, s => by simp only [stepsN, Option.bind_some]
  | k + 1, s => by
    rw [stepsN]
    cases h : afterN g s with
    | inl p => simp [stepsN, h]
    | inr s' => simpa only [stepsN, h] using stepsN_succ g k s'

theorem stepsN_of_not_leaves (g : Grid) : ∀ (f : Nat) (s : Nat × Nat), leaves g f s = false → ∃ t, stepsN g f s = some t
  | 0, s, _ => ⟨s, rfl⟩
  | f + 1, s, h => by
    unfold leaves at h
    unfold stepsN
    cases e : afterN g s with
    | inl p => rw [e] at h; cases h
    | inr s' => rw [e] at h; exact stepsN_of_not_leaves g f s' h

theorem stepsN_le (g : Grid) : ∀ (k j : Nat) (s t : Nat × Nat), stepsN g (k + j) s = some t → ∃ u, stepsN g k s = some u ∧ stepsN g j u = some t
  | 0, j, s, t, h => ⟨s, rfl, by rwa [Nat.zero_add] at h⟩
  | k + 1, j, s, t, h => by
    rw [show k + 1 + j = (k + j) + 1 by omega, stepsN] at h
    rw [stepsN]
    cases e : afterN g s with
    | inl p => rw [e] at h; cases h
    | inr s' => rw [e] at h; exact stepsN_le g k j s' t h

theorem stepsN_ok {g : Grid} (z : Sz g) : ∀ (k : Nat) (s t : Nat × Nat), Ok g s → stepsN g k s = some t → Ok g t
  | 0, s, t, h, e => by cases e; exact h
  | k + 1, s, t, h, e => by
    rw [stepsN] at e
    cases e1 : afterN g s with
    | inl p => rw [e1] at e; cases e
    | inr s' => rw [e1] at e; exact stepsN_ok z k s' t (after_r z h e1).1 e

/-- two ways to one state of as many steps begin at one -/
theorem stepsN_inj {g : Grid} (z : Sz g) : ∀ (k : Nat) (s t x : Nat × Nat), Ok g s → Ok g t → stepsN g k s = some x → stepsN g k t = some x → s = t
  | 0, s, t, x, _, _, e1, e2 => by cases e1; cases e2; rfl
  | k + 1, s, t, x, hs, ht, e1, e2 => by
    rw [stepsN] at e1 e2
    cases h1 : afterN g s with
    | inl p => rw [h1] at e1; cases e1
    | inr s' =>
      cases h2 : afterN g t with
      | inl p => rw [h2] at e2; cases e2
      | inr t' =>
        rw [h1] at e1; rw [h2] at e2
        have := stepsN_inj z k s' t' x (after_r z hs h1).1 (after_r z ht h2).1 e1 e2
        subst this
        exact after_inj z hs ht h1 h2

def code (s : Nat × Nat) : Nat := 4 * s.1 + s.2
theorem code_inj {g : Grid} {s t : Nat × Nat} (hs : Ok g s) (ht : Ok g t) (h : code s = code t) : s = t := by
  have h1 := hs.d; have h2 := ht.d
  unfold code at h
  exact Prod.ext (by omega) (by omega)
theorem code_lt {g : Grid} {s : Nat × Nat} (hs : Ok g s) : code s < 4 * (nR g * nC g) := by
  have h1 := hs.d; have h2 := hs.cell
  unfold code; omega

theorem way_leaves {g : Grid} (z : Sz g) {p : Nat} (hp : p < ports g) : leaves g (4 * (nR g * nC g)) (enterN (nR g) (nC g) p) = true := by
  have h0 := enter_ok z hp
  cases hl : leaves g (4 * (nR g * nC g)) (enterN (nR g) (nC g) p) with
  | true => rfl
  | false =>
    exfalso
    obtain ⟨t, ht⟩ := stepsN_of_not_leaves g _ _ hl
    have hall : ∀ i, i ≤ 4 * (nR g * nC g) → ∃ u, stepsN g i (enterN (nR g) (nC g) p) = some u ∧ Ok g u := fun i hi => by
      obtain ⟨u, h1, _⟩ := stepsN_le g i (4 * (nR g * nC g) - i) _ t (by rw [show i + (4 * (nR g * nC g) - i) = 4 * (nR g * nC g) by omega]; exact ht)
      exact ⟨u, h1, stepsN_ok z i _ u h0 h1⟩
    have := pigeon (4 * (nR g * nC g)) (4 * (nR g * nC g) + 1) (fun i => ((stepsN g i (enterN (nR g) (nC g) p)).map code).getD 0) (fun i hi => by
        obtain ⟨u, h1, h2⟩ := hall i (by omega)
        simp only [h1, Option.map_some, Option.getD_some]
        exact code_lt h2) (fun i j hij hj e => by
        obtain ⟨u, h1, h2⟩ := hall i (by omega)
        obtain ⟨v, h3, h4⟩ := hall j (by omega)
        simp only [h1, h3, Option.map_some, Option.getD_some] at e
        obtain rfl := code_inj h2 h4 e
        obtain ⟨x, h5, h6⟩ := stepsN_le g (j - i) i _ u (by rw [show j - i + i = j by omega]; exact h3)
        have hx := stepsN_ok z _ _ _ h0 h5
        have hxe := stepsN_inj z i _ _ u hx h0 h6 h1
        subst hxe
        obtain ⟨k, hk⟩ : ∃ k, j - i = k + 1 := ⟨j - i - 1, by omega⟩
        rw [hk, stepsN_succ] at h5
        cases h7 : stepsN g k (enterN (nR g) (nC g) p) with
        | none => rw [h7] at h5; simp at h5
        | some y =>
          rw [h7, Option.bind_some] at h5
          have hy := stepsN_ok z _ _ _ h0 h7
          cases h8 : afterN g y with
          | inl q => simp [h8] at h5
          | inr y' =>
            simp only [h8, Option.some.injEq] at h5
            rw [h5] at h8
            exact no_before z hp hy h8)
    omega
theorem wayF_ok {g : Grid} (z : Sz g) : ∀ (f : Nat) (s : Nat × Nat), Ok g s → ∀ t ∈ (wayF g f s).1, Ok g t
  | 0, _, _, t, ht => by simp [wayF] at ht
  | f + 1, s, h, t, ht => by
    unfold wayF at ht
    cases e : afterN g s with
    | inl p =>
      rw [e] at ht
      rw [List.mem_singleton.1 ht]; exact h
    | inr s' =>
      rw [e] at ht
      rcases List.mem_cons.1 ht with rfl | ht
      · exact h
      · exact wayF_ok z f s' (after_r z h e).1 t ht
theorem way_ok {g : Grid} (z : Sz g) {p : Nat} (hp : p < ports g) : ∀ t ∈ (way g p).1, Ok g t := wayF_ok z _ _ (enter_ok z hp)
theorem wayF_len (g : Grid) : ∀ (f : Nat) (s : Nat × Nat), (wayF g f s).1.length ≤ f
  | 0, _ => by simp [wayF]
  | f + 1, s => by
    unfold wayF
    cases e : afterN g s with
    | inl p => simp
    | inr s' => simpa using wayF_len g f s'
theorem way_len (g : Grid) (p : Nat) : (way g p).1.length ≤ 4 * (nR g * nC g) := wayF_len g _ _
theorem wayF_end {g : Grid} (z : Sz g) : ∀ (f : Nat) (s : Nat × Nat), Ok g s → leaves g f s = true → (wayF g f s).2 < ports g
  | 0, _, _, h => by cases h
  | f + 1, s, hs, h => by
    unfold leaves at h
    unfold wayF
    cases e : afterN g s with
    | inl p => exact (after_l z hs e).1
    | inr s' => rw [e] at h; exact wayF_end z f s' (after_r z hs e).1 h
theorem way_end {g : Grid} (z : Sz g) {p : Nat} (hp : p < ports g) : (way g p).2 < ports g := wayF_end z _ _ (enter_ok z hp) (way_leaves z hp)
end Go.Proofs.Ytmlkabddhdkpaaa

/- The beam back: the same way, turned round. -/
namespace Go.Proofs.Ytmlkabddhdkpaaa
set_option maxRecDepth 100000
set_option linter.unusedSimpArgs false
set_option linter.unusedVariables false

/-- from s on these steps are taken, then the grid is left at e -/
inductive Walk (g : Grid) : Nat × Nat → List (Nat × Nat) → Nat → Prop
  | out {s e} (h : afterN g s = .inl e) : Walk g s [s] e
  | on {s s' L e} (h : afterN g s = .inr s') (k : Walk g s' L e) : Walk g s (s :: L) e

theorem Walk.of {g : Grid} : ∀ (f : Nat) (s : Nat × Nat), leaves g f s = true → Walk g s (wayF g f s).1 (wayF g f s).2
  | 0, _, h => by cases h
  | f + 1, s, h => by
    unfold leaves at h
    unfold wayF
    cases e : afterN g s with
    | inl p => exact .out e
    | inr s' => rw [e] at h; exact .on e (Walk.of f s' h)
theorem Walk.way {g : Grid} {s : Nat × Nat} {L : List (Nat × Nat)} {e : Nat} (h : Walk g s L e) : ∀ f, L.length ≤ f → wayF g f s = (L, e) := by
  induction h with
  | out h =>
    intro f hf
    cases f with
    | zero => simp at hf
    | succ f => unfold wayF; rw [h]
  | on h k ih =>
    intro f hf
    cases f with
    | zero => simp at hf
    | succ f => unfold wayF; rw [h]; simp only; rw [ih f (by simpa using hf)]
theorem Walk.head {g : Grid} {s : Nat × Nat} {L : List (Nat × Nat)} {e : Nat} (h : Walk g s L e) : ∃ M, L = s :: M := by
  cases h with
  | out h => exact ⟨[], rfl⟩
  | on h k => exact ⟨_, rfl⟩
theorem Walk.back {g : Grid} (z : Sz g) {s : Nat × Nat} {L : List (Nat × Nat)} {e : Nat} (h : Walk g s L e) : Ok g s → ∀ (M : List (Nat × Nat)) (p : Nat), Walk g (rev g s) (rev g s :: M) p → Walk g (enterN (nR g) (nC g) e) ((L.map (rev g)).reverse ++ M) p := by
  induction h with
  | @out s e h =>
    intro hs M p hw
    rw [(after_l z hs h).2]
    exact hw
  | @on s s' L e h k ih =>
    intro hs M p hw
    have h2 := after_r z hs h
    have h3 := ih h2.1 (rev g s :: M) p (.on h2.2 hw)
    simpa using h3
theorem way_back {g : Grid} (z : Sz g) {p : Nat} (hp : p < ports g) : way g (way g p).2 = (((way g p).1.map (rev g)).reverse, p) := by
  have h := Walk.of _ _ (way_leaves z hp)
  have h2 := h.back z (enter_ok z hp) [] p (.out (rev_enter z hp))
  rw [List.append_nil] at h2
  exact h2.way _ (by rw [List.length_reverse, List.length_map]; exact way_len g p)
theorem way_back_len {g : Grid} (z : Sz g) {p : Nat} (hp : p < ports g) : (way g (way g p).2).1.length = (way g p).1.length := by
  rw [way_back z hp]; simp
theorem way_pos {g : Grid} (z : Sz g) {p : Nat} (hp : p < ports g) : 0 < (way g p).1.length := by
  obtain ⟨M, h⟩ := (Walk.of _ _ (way_leaves z hp)).head
  unfold way
  rw [h]; simp
end Go.Proofs.Ytmlkabddhdkpaaa

/- Rounds: ways that come back; the sweep that finds each round once. -/
namespace Go.Proofs.Ytmlkabddhdkpaaa
set_option maxRecDepth 100000
set_option linter.unusedSimpArgs false
set_option linter.unusedVariables false

/-- the steps from s on, until the grid is left (false) or s0 comes again (true) -/
def closeF (g : Grid) (s0 : Nat × Nat) : Nat → Nat × Nat → List (Nat × Nat) × Bool
  | 0, _ => ([], false)
  | f + 1, s => match afterN g s with
    | .inl _ => ([s], false)
    | .inr s' => if s' = s0 then ([s], true) else (s :: (closeF g s0 f s').1, (closeF g s0 f s').2)
def closes (g : Grid) (s0 : Nat × Nat) : Nat → Nat × Nat → Bool
  | 0, _ => false
  | f + 1, s => match afterN g s with
    | .inl _ => true
    | .inr s' => if s' = s0 then true else closes g s0 f s'
def close (g : Grid) (s : Nat × Nat) : List (Nat × Nat) × Bool := closeF g s (4 * (nR g * nC g)) s

theorem closes_false {g : Grid} {s0 : Nat × Nat} : ∀ (f : Nat) (s : Nat × Nat), closes g s0 f s = false → ∀ k, k ≤ f → ∃ t, stepsN g k s = some t ∧ (0 < k → t ≠ s0)
  | 0, s, _, k, hk => ⟨s, by rw [show k = 0 by omega]; rfl, fun h => by omega⟩
  | f + 1, s, h, k, hk => by
    cases k with
    | zero => exact ⟨s, rfl, fun h => by omega⟩
    | succ k =>
      unfold closes at h
      rw [stepsN]
      cases e : afterN g s with
      | inl p => rw [e] at h; cases h
      | inr s' =>
        rw [e] at h
        simp only at h
        by_cases hs : s' = s0
        · rw [if_pos hs] at h; cases h
        · rw [if_neg hs] at h
          obtain ⟨t, h1, h2⟩ := closes_false f s' h k (by omega)
          refine ⟨t, h1, fun _ => ?_⟩
          cases k with
          | zero => cases h1; exact hs
          | succ k => exact h2 (by omega)

theorem close_closes {g : Grid} (z : Sz g) {s : Nat × Nat} (hs : Ok g s) : closes g s (4 * (nR g * nC g)) s = true := by
  cases hl : closes g s (4 * (nR g * nC g)) s with
  | true => rfl
  | false =>
    exfalso
    have hall := closes_false _ _ hl
    have hok : ∀ i, i ≤ 4 * (nR g * nC g) → ∃ u, stepsN g i s = some u ∧ Ok g u := fun i hi => by
      obtain ⟨u, h1, _⟩ := hall i hi
      exact ⟨u, h1, stepsN_ok z i _ u hs h1⟩
    have := pigeon (4 * (nR g * nC g)) (4 * (nR g * nC g) + 1) (fun i => ((stepsN g i s).map code).getD 0) (fun i hi => by
        obtain ⟨u, h1, h2⟩ := hok i (by omega)
        simp only [h1, Option.map_some, Option.getD_some]
        exact code_lt h2) (fun i j hij hj e => by
        obtain ⟨u, h1, h2⟩ := hok i (by omega)
        obtain ⟨v, h3, h4⟩ := hok j (by omega)
        simp only [h1, h3, Option.map_some, Option.getD_some] at e
        obtain rfl := code_inj h2 h4 e
        obtain ⟨x, h5, h6⟩ := stepsN_le g (j - i) i _ u (by rw [show j - i + i = j by omega]; exact h3)
        have hx := stepsN_ok z _ _ _ hs h5
        have hxe := stepsN_inj z i _ _ u hx hs h6 h1
        obtain ⟨t, h7, h8⟩ := hall (j - i) (by omega)
        rw [h5] at h7
        exact h8 (by omega) (by rw [← Option.some.inj h7, hxe]))
    omega
theorem closeF_ok {g : Grid} (z : Sz g) (s0 : Nat × Nat) : ∀ (f : Nat) (s : Nat × Nat), Ok g s → ∀ t ∈ (closeF g s0 f s).1, Ok g t
  | 0, _, _, t, ht => by simp [closeF] at ht
  | f + 1, s, h, t, ht => by
    unfold closeF at ht
    cases e : afterN g s with
    | inl p =>
      rw [e] at ht
      rw [List.mem_singleton.1 ht]; exact h
    | inr s' =>
      rw [e] at ht
      simp only at ht
      by_cases hs : s' = s0
      · rw [if_pos hs] at ht
        rw [List.mem_singleton.1 ht]; exact h
      · rw [if_neg hs] at ht
        rcases List.mem_cons.1 ht with rfl | ht
        · exact h
        · exact closeF_ok z s0 f s' (after_r z h e).1 t ht
theorem close_ok {g : Grid} (z : Sz g) {s : Nat × Nat} (hs : Ok g s) : ∀ t ∈ (close g s).1, Ok g t := closeF_ok z s _ s hs
theorem closeF_len (g : Grid) (s0 : Nat × Nat) : ∀ (f : Nat) (s : Nat × Nat), (closeF g s0 f s).1.length ≤ f
  | 0, _ => by simp [closeF]
  | f + 1, s => by
    unfold closeF
    cases e : afterN g s with
    | inl p => simp
    | inr s' =>
      simp only
      by_cases hs : s' = s0
      · rw [if_pos hs]; simp
      · rw [if_neg hs]; simpa using closeF_len g s0 f s'
theorem close_len (g : Grid) (s : Nat × Nat) : (close g s).1.length ≤ 4 * (nR g * nC g) := closeF_len g s _ s

/-! beams -/
def OnBeam (g : Grid) (s : Nat × Nat) : Prop := ∃ p, p < ports g ∧ s ∈ (way g p).1

theorem OnBeam.rev {g : Grid} (z : Sz g) {s : Nat × Nat} (h : OnBeam g s) : OnBeam g (rev g s) := by
  obtain ⟨p, hp, hs⟩ := h
  refine ⟨(way g p).2, way_end z hp, ?_⟩
  rw [way_back z hp]
  simp only [List.mem_reverse]
  exact List.mem_map_of_mem hs
theorem Walk.next {g : Grid} {s : Nat × Nat} {L : List (Nat × Nat)} {e : Nat} (h : Walk g s L e) {t t' : Nat × Nat} (ht : t ∈ L) (ha : afterN g t = .inr t') : t' ∈ L := by
  induction h with
  | out h =>
    rw [List.mem_singleton.1 ht, h] at ha; cases ha
  | @on s s' L e h k ih =>
    rcases List.mem_cons.1 ht with rfl | ht
    · rw [h] at ha
      cases ha
      obtain ⟨M, hM⟩ := k.head
      rw [hM]; simp
    · exact List.mem_cons_of_mem _ (ih ht)
theorem way_walk {g : Grid} (z : Sz g) {p : Nat} (hp : p < ports g) : Walk g (enterN (nR g) (nC g) p) (way g p).1 (way g p).2 := Walk.of _ _ (way_leaves z hp)
theorem OnBeam.next {g : Grid} (z : Sz g) {s s' : Nat × Nat} (h : OnBeam g s) (ha : afterN g s = .inr s') : OnBeam g s' := by
  obtain ⟨p, hp, hs⟩ := h
  exact ⟨p, hp, (way_walk z hp).next hs ha⟩
theorem OnBeam.prev {g : Grid} (z : Sz g) {s s' : Nat × Nat} (hs : Ok g s) (h : OnBeam g s') (ha : afterN g s = .inr s') : OnBeam g s := by
  have h1 := (after_r z hs ha).2
  have h2 := ((h.rev z).next z h1).rev z
  rwa [rev_rev hs] at h2
theorem OnBeam.exit {g : Grid} (z : Sz g) {s : Nat × Nat} (hs : Ok g s) {p : Nat} (ha : afterN g s = .inl p) : OnBeam g s := by
  obtain ⟨hp, he⟩ := after_l z hs ha
  have h1 : OnBeam g (Go.Proofs.Ytmlkabddhdkpaaa.rev g s) := by
    refine ⟨p, hp, ?_⟩
    obtain ⟨M, hM⟩ := (way_walk z hp).head
    rw [hM, he]; simp
  have h2 := h1.rev z
  rwa [rev_rev hs] at h2
theorem closeF_onBeam {g : Grid} (z : Sz g) {s0 : Nat × Nat} : ∀ (f : Nat) (s : Nat × Nat), Ok g s → closes g s0 f s = true → (closeF g s0 f s).2 = false → OnBeam g s
  | 0, _, _, h, _ => by cases h
  | f + 1, s, hs, h, hc => by
    unfold closes at h
    unfold closeF at hc
    cases e : afterN g s with
    | inl p => exact OnBeam.exit z hs e
    | inr s' =>
      rw [e] at h hc
      simp only at h hc
      by_cases hq : s' = s0
      · rw [if_pos hq] at hc; cases hc
      · rw [if_neg hq] at h hc
        exact (closeF_onBeam z f s' (after_r z hs e).1 h hc).prev z hs e
theorem Walk.after_close {g : Grid} {s0 : Nat × Nat} : ∀ (f : Nat) (s : Nat × Nat), (closeF g s0 f s).2 = true → ∀ L e, Walk g s L e → ∃ M, Walk g s0 M e ∧ M.length < L.length
  | 0, _, h, _, _, _ => by cases h
  | f + 1, s, h, L, e, hw => by
    unfold closeF at h
    cases ha : afterN g s with
    | inl p => rw [ha] at h; cases h
    | inr s' =>
      rw [ha] at h
      simp only at h
      cases hw with
      | out h1 => rw [h1] at ha; cases ha
      | @on _ s'' L' _ h1 k =>
        rw [h1] at ha
        cases ha
        by_cases hq : s' = s0
        · subst hq; exact ⟨L', k, by simp⟩
        · rw [if_neg hq] at h
          obtain ⟨M, h2, h3⟩ := Walk.after_close f s' h L' e k
          exact ⟨M, h2, by simp; omega⟩
theorem Walk.det {g : Grid} {s : Nat × Nat} {L M : List (Nat × Nat)} {e e' : Nat} (h : Walk g s L e) : Walk g s M e' → L = M ∧ e = e' := by
  induction h generalizing M with
  | out h =>
    intro k
    cases k with
    | out h2 => rw [h] at h2; cases h2; exact ⟨rfl, rfl⟩
    | on h2 _ => rw [h] at h2; cases h2
  | on h k ih =>
    intro k2
    cases k2 with
    | out h2 => rw [h] at h2; cases h2
    | on h2 k3 =>
      rw [h] at h2; cases h2
      obtain ⟨h4, h5⟩ := ih k3
      exact ⟨by rw [h4], h5⟩
theorem Walk.suffix {g : Grid} {s : Nat × Nat} {L : List (Nat × Nat)} {e : Nat} (h : Walk g s L e) : ∀ t ∈ L, ∃ M, Walk g t M e := by
  induction h with
  | out h => intro t ht; rw [List.mem_singleton.1 ht]; exact ⟨_, .out h⟩
  | on h k ih =>
    intro t ht
    rcases List.mem_cons.1 ht with rfl | ht
    · exact ⟨_, .on h k⟩
    · exact ih t ht
theorem close_iff {g : Grid} (z : Sz g) {s : Nat × Nat} (hs : Ok g s) : (close g s).2 = true ↔ ¬ OnBeam g s := by
  constructor
  · rintro h ⟨p, hp, hm⟩
    obtain ⟨M, hM⟩ := (way_walk z hp).suffix s hm
    obtain ⟨M', h1, h2⟩ := Walk.after_close _ s h M _ hM
    have := (hM.det h1).1
    rw [this] at h2; omega
  · intro h
    cases hc : (close g s).2 with
    | true => rfl
    | false => exact absurd (closeF_onBeam z _ s hs (close_closes z hs) hc) h

/-! the sweep -/
def inL (L : List (Nat × Nat)) (x : Nat) : Bool := L.any fun s => code s == x
def markL (g : Grid) (M : Nat → Bool) (L : List (Nat × Nat)) : Nat → Bool := fun y => M y || inL L y || inL (L.map (rev g)) y
def stepOf (x : Nat) : Nat × Nat := (x / 4, x % 4)
def sweep (g : Grid) : List Nat → (Nat → Bool) → List (List (Nat × Nat))
  | [], _ => []
  | x :: xs, M => if M x = true then sweep g xs M else (close g (stepOf x)).1 :: sweep g xs (markL g M (close g (stepOf x)).1)
def beamMark (g : Grid) : Nat → Bool := fun x => (List.range (ports g)).any fun p => inL (way g p).1 x
def rounds (g : Grid) : List (List (Nat × Nat)) := sweep g (List.range (4 * (nR g * nC g))) (beamMark g)

theorem stepOf_code {s : Nat × Nat} (h : s.2 < 4) : stepOf (code s) = s := by
  unfold stepOf code
  exact Prod.ext (by show (4 * s.1 + s.2) / 4 = s.1; omega) (by show (4 * s.1 + s.2) % 4 = s.2; omega)
theorem code_stepOf (x : Nat) : code (stepOf x) = x := by unfold stepOf code; omega
theorem stepOf_ok {g : Grid} {x : Nat} (h : x < 4 * (nR g * nC g)) : Ok g (stepOf x) := ⟨by unfold stepOf; show x / 4 < _; omega, by unfold stepOf; show x % 4 < 4; omega⟩
theorem inL_iff {L : List (Nat × Nat)} {x : Nat} (hL : ∀ s ∈ L, s.2 < 4) : inL L x = true ↔ stepOf x ∈ L := by
  unfold inL
  rw [List.any_eq_true]
  constructor
  · rintro ⟨s, hs, he⟩
    have : code s = x := by simpa using he
    rw [← this, stepOf_code (hL s hs)]; exact hs
  · intro h
    exact ⟨_, h, by simp [code_stepOf]⟩
theorem beamMark_iff {g : Grid} (z : Sz g) {x : Nat} : beamMark g x = true ↔ OnBeam g (stepOf x) := by
  unfold beamMark OnBeam
  rw [List.any_eq_true]
  constructor
  · rintro ⟨p, hp, h⟩
    have hp' := List.mem_range.1 hp
    exact ⟨p, hp', (inL_iff fun s hs => (way_ok z hp' s hs).d).1 h⟩
  · rintro ⟨p, hp, h⟩
    exact ⟨p, List.mem_range.2 hp, (inL_iff fun s hs => (way_ok z hp s hs).d).2 h⟩
theorem rev_d (g : Grid) (L : List (Nat × Nat)) : ∀ s ∈ L.map (rev g), s.2 < 4 := fun s hs => by
  obtain ⟨t, _, rfl⟩ := List.mem_map.1 hs
  exact rv_lt _

/-- what a round's list holds: the step itself first, and each step is no beam's -/
theorem closeF_off {g : Grid} (z : Sz g) {s0 : Nat × Nat} : ∀ (f : Nat) (s : Nat × Nat), Ok g s → ¬ OnBeam g s → ∀ t ∈ (closeF g s0 f s).1, ¬ OnBeam g t
  | 0, _, _, _, t, ht => by simp [closeF] at ht
  | f + 1, s, hs, hn, t, ht => by
    unfold closeF at ht
    cases e : afterN g s with
    | inl p => exact absurd (OnBeam.exit z hs e) hn
    | inr s' =>
      rw [e] at ht
      simp only at ht
      by_cases hq : s' = s0
      · rw [if_pos hq] at ht
        rw [List.mem_singleton.1 ht]; exact hn
      · rw [if_neg hq] at ht
        rcases List.mem_cons.1 ht with rfl | ht
        · exact hn
        · exact closeF_off z f s' (after_r z hs e).1 (fun h => hn (h.prev z hs e)) t ht
theorem close_head {g : Grid} (z : Sz g) {s : Nat × Nat} (hs : Ok g s) : ∃ M, (close g s).1 = s :: M := by
  have h0 : 0 < 4 * (nR g * nC g) := by
    have := Nat.mul_pos z.n1 z.m1; omega
  obtain ⟨k, hk⟩ : ∃ k, 4 * (nR g * nC g) = k + 1 := ⟨4 * (nR g * nC g) - 1, by omega⟩
  unfold close
  rw [hk]
  unfold closeF
  cases afterN g s with
  | inl p => exact ⟨[], rfl⟩
  | inr s' =>
    simp only
    by_cases hq : s' = s
    · rw [if_pos hq]; exact ⟨[], rfl⟩
    · rw [if_neg hq]; exact ⟨_, rfl⟩

/-- what the sweep finds: each list is a round of a step that is on no beam -/
theorem sweep_mem {g : Grid} (z : Sz g) : ∀ (xs : List Nat) (M : Nat → Bool), (∀ x ∈ xs, x < 4 * (nR g * nC g)) → (∀ x, OnBeam g (stepOf x) → M x = true) →
    ∀ r ∈ sweep g xs M, ∃ x, x ∈ xs ∧ ¬ OnBeam g (stepOf x) ∧ r = (close g (stepOf x)).1
  | [], _, _, _, r, h => by simp [sweep] at h
  | x :: xs, M, hx, hM, r, h => by
    unfold sweep at h
    by_cases hm : M x = true
    · rw [if_pos hm] at h
      obtain ⟨y, h1, h2⟩ := sweep_mem z xs M (fun y hy => hx y (List.mem_cons_of_mem _ hy)) hM r h
      exact ⟨y, List.mem_cons_of_mem _ h1, h2⟩
    · rw [if_neg hm] at h
      rcases List.mem_cons.1 h with rfl | h
      · exact ⟨x, by simp, fun hb => hm (hM x hb), rfl⟩
      · obtain ⟨y, h1, h2⟩ := sweep_mem z xs _ (fun y hy => hx y (List.mem_cons_of_mem _ hy)) (fun y hy => by simp [markL, hM y hy]) r h
        exact ⟨y, List.mem_cons_of_mem _ h1, h2⟩
/-- each step that is not marked is found: it or its way back is in a list -/
theorem sweep_covers {g : Grid} (z : Sz g) : ∀ (xs : List Nat) (M : Nat → Bool), (∀ x ∈ xs, x < 4 * (nR g * nC g)) →
    ∀ x ∈ xs, M x = false → ∃ r ∈ sweep g xs M, stepOf x ∈ r ∨ rev g (stepOf x) ∈ r
  | [], _, _, x, h, _ => by cases h
  | y :: xs, M, hx, x, h, hm => by
    unfold sweep
    by_cases hy : M y = true
    · rw [if_pos hy]
      rcases List.mem_cons.1 h with rfl | h
      · rw [hm] at hy; cases hy
      · exact sweep_covers z xs M (fun y hy => hx y (List.mem_cons_of_mem _ hy)) x h hm
    · rw [if_neg hy]
      have hyok := stepOf_ok (hx y (by simp))
      have hxok := stepOf_ok (hx x h)
      by_cases hmm : markL g M (close g (stepOf y)).1 x = true
      · refine ⟨_, List.mem_cons_self, ?_⟩
        simp only [markL, hm, Bool.false_or, Bool.or_eq_true] at hmm
        rcases hmm with h1 | h1
        · exact .inl ((inL_iff fun s hs => (close_ok z hyok s hs).d).1 h1)
        · right
          have h2 := (inL_iff (rev_d g _)).1 h1
          obtain ⟨t, ht, he⟩ := List.mem_map.1 h2
          rw [← he, rev_rev (close_ok z hyok t ht)]; exact ht
      · rcases List.mem_cons.1 h with rfl | h
        · exfalso
          apply hmm
          obtain ⟨M', hM'⟩ := close_head z hyok
          have : inL (close g (stepOf x)).1 x = true := (inL_iff fun s hs => (close_ok z hyok s hs).d).2 (by rw [hM']; simp)
          simp [markL, this]
        · obtain ⟨r, h1, h2⟩ := sweep_covers z xs _ (fun y hy => hx y (List.mem_cons_of_mem _ hy)) x h (by simpa using hmm)
          exact ⟨r, List.mem_cons_of_mem _ h1, h2⟩
theorem rounds_mem {g : Grid} (z : Sz g) {r : List (Nat × Nat)} (h : r ∈ rounds g) : ∃ x, x < 4 * (nR g * nC g) ∧ ¬ OnBeam g (stepOf x) ∧ r = (close g (stepOf x)).1 := by
  obtain ⟨x, h1, h2⟩ := sweep_mem z _ _ (fun x hx => List.mem_range.1 hx) (fun x hx => (beamMark_iff z).2 hx) r h
  exact ⟨x, List.mem_range.1 h1, h2⟩
theorem rounds_covers {g : Grid} (z : Sz g) {x : Nat} (hx : x < 4 * (nR g * nC g)) (h : ¬ OnBeam g (stepOf x)) : ∃ r ∈ rounds g, stepOf x ∈ r ∨ rev g (stepOf x) ∈ r :=
  sweep_covers z _ _ (fun x hx => List.mem_range.1 hx) x (List.mem_range.2 hx) (by
    cases e : beamMark g x with
    | true => exact absurd ((beamMark_iff z).1 e) h
    | false => rfl)
theorem rounds_nil {g : Grid} (z : Sz g) : (rounds g).length = 0 ↔ ∀ x, x < 4 * (nR g * nC g) → OnBeam g (stepOf x) := by
  constructor
  · intro h x hx
    apply Classical.byContradiction
    intro hn
    obtain ⟨r, h1, _⟩ := rounds_covers z hx hn
    rw [List.eq_nil_of_length_eq_zero h] at h1; cases h1
  · intro h
    cases e : rounds g with
    | nil => rfl
    | cons r R =>
      obtain ⟨x, h1, h2, _⟩ := rounds_mem z (r := r) (by rw [e]; simp)
      exact absurd (h x h1) h2
end Go.Proofs.Ytmlkabddhdkpaaa
