/- Grids that fit answers: plain laws. -/
import Derived.Test.YtmlkabddhdkpaaaJnCn
namespace Go.Proofs.Ytmlkabddhdkpaaa
set_option maxRecDepth 100000
set_option linter.unusedSimpArgs false
set_option linter.unusedVariables false

/-- the partners of all ports -/
def pairsI (g : Grid) : List Int := (List.range (ports g)).map fun p => ((way g p).2 : Int)
theorem pairsI_len (g : Grid) : (pairsI g).length = ports g := by simp [pairsI]
theorem pairsI_get (g : Grid) {p : Nat} (h : p < ports g) : (pairsI g).getD p 0 = ((way g p).2 : Int) := by
  simp [pairsI, List.getD_eq_getElem?_getD, h]
/-- the answer at p is kept -/
def keepB (g : Grid) (ans : List Int) (p : Nat) : Bool := decide (ans.getD p 0 = -1) || decide (ans.getD p 0 = ((way g p).2 : Int))
def fitTo (g : Grid) (ans : List Int) : Nat → Bool
  | 0 => true
  | p + 1 => fitTo g ans p && keepB g ans p
def fitB (g : Grid) (ans : List Int) : Bool := fitTo g ans (ports g)
theorem fitTo_iff (g : Grid) (ans : List Int) : ∀ k, fitTo g ans k = true ↔ ∀ p, p < k → keepB g ans p = true
  | 0 => by simp [fitTo]
  | k + 1 => by
    rw [fitTo, Bool.and_eq_true, fitTo_iff g ans k]
    constructor
    · rintro ⟨h1, h2⟩ p hp
      rcases Nat.lt_succ_iff_lt_or_eq.1 hp with hp | rfl
      · exact h1 p hp
      · exact h2
    · intro h
      exact ⟨fun p hp => h p (by omega), h k (by omega)⟩
theorem fitB_iff (g : Grid) (ans : List Int) : fitB g ans = true ↔ ∀ p, p < ports g → keepB g ans p = true := fitTo_iff g ans _
theorem fitTo_false {g : Grid} {ans : List Int} {k p : Nat} (hp : p < k) (h : keepB g ans p = false) : fitTo g ans k = false := by
  cases e : fitTo g ans k with
  | false => rfl
  | true => rw [(fitTo_iff g ans k).1 e p hp] at h; cases h
theorem keepB_iff (g : Grid) (ans : List Int) (p : Nat) : keepB g ans p = true ↔ (ans.getD p 0 = -1 ∨ ans.getD p 0 = ((way g p).2 : Int)) := by
  unfold keepB; rw [Bool.or_eq_true, decide_eq_true_eq, decide_eq_true_eq]

/-- the grids that fit, among the first k -/
def fitL (n m : Nat) (ans : List Int) : Nat → List Grid
  | 0 => []
  | k + 1 => if fitB (numG n m k) ans = true then fitL n m ans k ++ [numG n m k] else fitL n m ans k
def fits (n m : Nat) (ans : List Int) : List Grid := fitL n m ans (3 ^ (n * m))
theorem fitL_mem {n m : Nat} {ans : List Int} : ∀ {k : Nat} {g : Grid}, g ∈ fitL n m ans k ↔ ∃ i, i < k ∧ g = numG n m i ∧ fitB g ans = true
  | 0, g => by simp [fitL]
  | k + 1, g => by
    have ih := fitL_mem (n := n) (m := m) (ans := ans) (k := k) (g := g)
    unfold fitL
    split
    · next h =>
      rw [List.mem_append, ih, List.mem_singleton]
      constructor
      · rintro (⟨i, h1, h2, h3⟩ | rfl)
        · exact ⟨i, by omega, h2, h3⟩
        · exact ⟨k, by omega, rfl, h⟩
      · rintro ⟨i, h1, h2, h3⟩
        rcases Nat.lt_succ_iff_lt_or_eq.1 h1 with h1 | rfl
        · exact .inl ⟨i, h1, h2, h3⟩
        · exact .inr h2
    · next h =>
      rw [ih]
      constructor
      · rintro ⟨i, h1, h2, h3⟩
        exact ⟨i, by omega, h2, h3⟩
      · rintro ⟨i, h1, h2, h3⟩
        rcases Nat.lt_succ_iff_lt_or_eq.1 h1 with h1 | rfl
        · exact ⟨i, h1, h2, h3⟩
        · rw [h2] at h3; exact absurd h3 h
theorem fitL_le (n m : Nat) (ans : List Int) : ∀ k, (fitL n m ans k).length ≤ k
  | 0 => by simp [fitL]
  | k + 1 => by
    have := fitL_le n m ans k
    unfold fitL
    split
    · simp; omega
    · omega
theorem fitL_mono {n m : Nat} {ans bns : List Int} (h : ∀ i, fitB (numG n m i) ans = true → fitB (numG n m i) bns = true) : ∀ k, (fitL n m ans k).length ≤ (fitL n m bns k).length
  | 0 => by simp [fitL]
  | k + 1 => by
    have ih := fitL_mono h k
    unfold fitL
    by_cases h1 : fitB (numG n m k) ans = true
    · rw [if_pos h1, if_pos (h k h1)]; simp; omega
    · rw [if_neg h1]
      split
      · simp; omega
      · exact ih
theorem fitL_all {n m : Nat} {ans : List Int} (h : ∀ i, fitB (numG n m i) ans = true) : ∀ k, (fitL n m ans k).length = k
  | 0 => by simp [fitL]
  | k + 1 => by rw [fitL, if_pos (h k)]; simp [fitL_all h k]
/-- split by the partner of the first port -/
def sumX (f : Nat → Nat) : Nat → Nat
  | 0 => 0
  | x + 1 => sumX f x + f x
theorem sumX_add (f g : Nat → Nat) : ∀ P, sumX (fun x => f x + g x) P = sumX f P + sumX g P
  | 0 => rfl
  | P + 1 => by rw [sumX, sumX, sumX, sumX_add f g P]; omega
theorem sumX_zero (f : Nat → Nat) : ∀ P, (∀ x, x < P → f x = 0) → sumX f P = 0
  | 0, _ => rfl
  | P + 1, h => by rw [sumX, sumX_zero f P (fun x hx => h x (by omega)), h P (by omega)]
theorem sumX_one (e : Nat) : ∀ P, sumX (fun x => if e = x then 1 else 0) P = if e < P then 1 else 0
  | 0 => rfl
  | P + 1 => by
    rw [sumX, sumX_one e P]
    by_cases h1 : e < P
    · rw [if_pos h1, if_neg (by omega), if_pos (by omega)]
    · by_cases h2 : e = P
      · rw [if_neg h1, if_pos h2, if_pos (by omega)]
      · rw [if_neg h1, if_neg h2, if_neg (by omega)]
theorem sumX_congr {f g : Nat → Nat} : ∀ P, (∀ x, x < P → f x = g x) → sumX f P = sumX g P
  | 0, _ => rfl
  | P + 1, h => by rw [sumX, sumX, sumX_congr P (fun x hx => h x (by omega)), h P (by omega)]
theorem fitB_set {g : Grid} {ans : List Int} (x : Nat) (hP : 0 < ports g) (hl : ans.length = ports g) (h0 : ans.getD 0 0 = -1) : fitB g (ans.set 0 (x : Int)) = (fitB g ans && decide ((way g 0).2 = x)) := by
  have hget : ∀ p, (ans.set 0 (x : Int)).getD p 0 = if 0 = p then (x : Int) else ans.getD p 0 := fun p => by
    rw [List.getD_eq_getElem?_getD, List.getElem?_set]
    by_cases e : 0 = p
    · rw [if_pos e, if_pos (by omega), if_pos e]; rfl
    · rw [if_neg e, if_neg e, ← List.getD_eq_getElem?_getD]
  rw [Bool.eq_iff_iff, Bool.and_eq_true, fitB_iff, fitB_iff, decide_eq_true_eq]
  constructor
  · intro h
    refine ⟨fun p hp => ?_, ?_⟩
    · have := (keepB_iff _ _ _).1 (h p hp)
      rw [hget] at this
      by_cases e : 0 = p
      · subst e; exact (keepB_iff _ _ _).2 (.inl h0)
      · rw [if_neg e] at this; exact (keepB_iff _ _ _).2 this
    · have := (keepB_iff _ _ _).1 (h 0 hP)
      rw [hget, if_pos rfl] at this
      omega
  · rintro ⟨h, h2⟩ p hp
    refine (keepB_iff _ _ _).2 ?_
    rw [hget]
    by_cases e : 0 = p
    · subst e; rw [if_pos rfl]; exact .inr (by omega)
    · rw [if_neg e]; exact (keepB_iff _ _ _).1 (h p hp)
theorem fits_split {n m : Nat} {ans : List Int} (h1 : 1 ≤ n) (h2 : n ≤ 5) (h3 : 1 ≤ m) (h4 : m ≤ 5) (hl : ans.length = 2 * n + 2 * m) (h0 : ans.getD 0 0 = -1) : ∀ k, sumX (fun x => (fitL n m (ans.set 0 (x : Int)) k).length) (2 * n + 2 * m) = (fitL n m ans k).length
  | 0 => by
    rw [show (fitL n m ans 0).length = 0 from rfl]
    exact sumX_zero _ _ (fun x _ => rfl)
  | k + 1 => by
    have hG := numG_ok k h1 h2 h3 h4
    have hP : ports (numG n m k) = 2 * n + 2 * m := gridOf_ports m _ h1
    have he : (way (numG n m k) 0).2 < 2 * n + 2 * m := by
      have := way_end hG.sz (p := 0) (by rw [hP]; omega)
      rwa [hP] at this
    have step : ∀ x : Nat, (fitL n m (ans.set 0 (x : Int)) (k + 1)).length = (fitL n m (ans.set 0 (x : Int)) k).length + (if fitB (numG n m k) ans = true then (if (way (numG n m k) 0).2 = x then 1 else 0) else 0) := fun x => by
      rw [fitL, fitB_set x (by rw [hP]; omega) (by rw [hP]; exact hl) h0]
      by_cases hf : fitB (numG n m k) ans = true
      · rw [hf, Bool.true_and]
        by_cases hx : (way (numG n m k) 0).2 = x
        · rw [if_pos (by simpa using hx), if_pos rfl, if_pos hx]; simp
        · rw [if_neg (by simpa using hx), if_pos rfl, if_neg hx]; rfl
      · have hf' : fitB (numG n m k) ans = false := by simpa using hf
        rw [hf', Bool.false_and]; simp
    rw [sumX_congr _ (fun x _ => step x), sumX_add, fits_split h1 h2 h3 h4 hl h0 k]
    by_cases hf : fitB (numG n m k) ans = true
    · rw [fitL, if_pos hf]
      simp only [if_pos hf]
      rw [sumX_one, if_pos he]; simp
    · rw [fitL, if_neg hf]
      simp only [if_neg hf]
      rw [sumX_zero _ _ (fun x _ => rfl), Nat.add_zero]
theorem sumX_mono {f : Nat → Nat} : ∀ (P i : Nat), i ≤ P → sumX f i ≤ sumX f P
  | 0, i, h => by rw [show i = 0 by omega]; exact Nat.le_refl _
  | P + 1, i, h => by
    rcases Nat.lt_or_ge P i with h1 | h1
    · rw [show i = P + 1 by omega]; exact Nat.le_refl _
    · have := sumX_mono (f := f) P i h1
      rw [sumX]; omega

/-! the worst case -/
def mostN (f : Nat → Nat) : Nat → Nat
  | 0 => 0
  | k + 1 => Max.max (mostN f k) (tally f (f k) (k + 1))
theorem tally_succ (f : Nat → Nat) (j k : Nat) : tally f j (k + 1) = tally f j k + (if f k = j then 1 else 0) := rfl
theorem mostN_ge (f : Nat → Nat) (j : Nat) : ∀ k, tally f j k ≤ mostN f k
  | 0 => by simp [tally]
  | k + 1 => by
    have ih := mostN_ge f j k
    rw [mostN]
    by_cases h : f k = j
    · subst h; omega
    · rw [tally_succ, if_neg h]; omega
theorem mostN_le (f : Nat → Nat) : ∀ k, mostN f k ≤ k
  | 0 => by simp [mostN]
  | k + 1 => by
    have ih := mostN_le f k
    have := tally_le f (f k) (k + 1)
    rw [mostN]; omega
theorem mostN_const {f : Nat → Nat} {q : Nat} : ∀ k, (∀ i, i < k → f i = q) → mostN f k = k := fun k h => by
  have h1 : tally f q k = k := by
    induction k with
    | zero => rfl
    | succ k ih => rw [tally_succ, ih (fun i hi => h i (by omega)), if_pos (h k (by omega))]
  have h2 := mostN_ge f q k
  have h3 := mostN_le f k
  omega
theorem mostN_cg {f g : Nat → Nat} : ∀ k, (∀ i, i < k → f i = g i) → mostN f k = mostN g k
  | 0, _ => rfl
  | k + 1, h => by
    have e : ∀ j, tally f j (k + 1) = tally g j (k + 1) := by
      intro j
      have : ∀ q, q ≤ k + 1 → tally f j q = tally g j q := by
        intro q
        induction q with
        | zero => intro _; rfl
        | succ q ih => intro hq; rw [tally_succ, tally_succ, ih (by omega), h q (by omega)]
      exact this _ (Nat.le_refl _)
    rw [mostN, mostN, mostN_cg k (fun i hi => h i (by omega)), h k (by omega), e]
theorem sum_tally (f : Nat → Nat) (P : Nat) : ∀ k, (∀ i, i < k → f i < P) → sumX (fun j => tally f j k) P = k
  | 0, _ => sumX_zero _ _ (fun x _ => rfl)
  | k + 1, h => by
    rw [show (fun j => tally f j (k + 1)) = fun j => tally f j k + (if f k = j then 1 else 0) from rfl, sumX_add, sum_tally f P k (fun i hi => h i (by omega)), sumX_one, if_pos (h k (by omega))]
theorem sumX_le {f : Nat → Nat} {M : Nat} (h : ∀ x, f x ≤ M) : ∀ P, sumX f P ≤ P * M
  | 0 => by simp [sumX]
  | P + 1 => by
    have := sumX_le h P
    have := h P
    rw [sumX, Nat.add_mul, Nat.one_mul]; omega
theorem sumX_le1 {f : Nat → Nat} {M port : Nat} (h : ∀ x, f x ≤ M) (h0 : f port = 0) : ∀ P, port < P → sumX f P ≤ (P - 1) * M
  | 0, hp => by omega
  | P + 1, hp => by
    rw [sumX, Nat.add_sub_cancel]
    rcases Nat.lt_succ_iff_lt_or_eq.1 hp with hp | rfl
    · have h1 := sumX_le1 h h0 P hp
      have h2 := h P
      obtain ⟨Q, rfl⟩ : ∃ Q, P = Q + 1 := ⟨P - 1, by omega⟩
      rw [Nat.add_sub_cancel] at h1
      rw [Nat.add_mul, Nat.one_mul]; omega
    · have := sumX_le h port
      rw [h0]; omega
theorem mostN_share {f : Nat → Nat} {P port k : Nat} (hf : ∀ i, i < k → f i < P) (hp : port < P) (hn : ∀ i, i < k → f i ≠ port) : k ≤ mostN f k * (P - 1) := by
  have h1 := sum_tally f P k hf
  have h2 := sumX_le1 (f := fun j => tally f j k) (M := mostN f k) (port := port) (fun x => mostN_ge f x k) (tally_zero f port k hn) P hp
  rw [h1] at h2
  rw [Nat.mul_comm]; exact h2
/-- the first best one -/
def bestN (W : Nat → Nat) : Nat → Nat
  | 0 => 0
  | p + 1 => if W p < W (bestN W p) then p else bestN W p
theorem bestN_le (W : Nat → Nat) : ∀ P, bestN W P ≤ P - 1
  | 0 => by simp [bestN]
  | P + 1 => by
    have := bestN_le W P
    rw [bestN]; split <;> omega
theorem bestN_min (W : Nat → Nat) : ∀ P i, i < P → W (bestN W P) ≤ W i ∧ (i < bestN W P → W (bestN W P) < W i)
  | 0, i, h => by omega
  | P + 1, i, h => by
    rw [bestN]
    split
    · next hw =>
      rcases Nat.lt_succ_iff_lt_or_eq.1 h with h | rfl
      · have := bestN_min W P i h; omega
      · omega
    · next hw =>
      rcases Nat.lt_succ_iff_lt_or_eq.1 h with h | rfl
      · exact bestN_min W P i h
      · have := bestN_le W i; omega
end Go.Proofs.Ytmlkabddhdkpaaa
