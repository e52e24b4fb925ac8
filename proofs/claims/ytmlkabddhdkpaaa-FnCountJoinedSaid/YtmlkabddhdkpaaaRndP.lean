/- The loops that follow a round and that find them all: what holds in each turn. -/
import Derived.Test.YtmlkabddhdkpaaaJnCn
import Derived.Test.YtmlkabddhdkpaaaWays
namespace Go.Proofs.Ytmlkabddhdkpaaa
set_option maxRecDepth 100000
set_option linter.unusedSimpArgs false
set_option linter.unusedVariables false

def CI (g : Grid) (s0 : Nat × Nat) (l : List (Nat × Nat)) (s : Nat × Nat) (f : Nat) : Prop :=
  Ok g s ∧ l.length + f ≤ 4 * (nR g * nC g) ∧ closes g s0 f s = true ∧ (close g s0).1 = l ++ (closeF g s0 f s).1 ∧ (close g s0).2 = (closeF g s0 f s).2
theorem CI.start {g : Grid} (z : Sz g) {s : Nat × Nat} (hs : Ok g s) : CI g s [] s (4 * (nR g * nC g)) := ⟨hs, by simp, close_closes z hs, rfl, rfl⟩
theorem CI.out {g : Grid} {s0 : Nat × Nat} {l : List (Nat × Nat)} {s : Nat × Nat} {f p : Nat} (h : CI g s0 l s f) (ha : afterN g s = .inl p) : close g s0 = (l ++ [s], false) := by
  obtain ⟨h1, h2, h3, h4, h5⟩ := h
  cases f with
  | zero => cases h3
  | succ f =>
    unfold closeF at h4 h5
    rw [ha] at h4 h5
    exact Prod.ext h4 h5
theorem CI.back {g : Grid} {s0 : Nat × Nat} {l : List (Nat × Nat)} {s : Nat × Nat} {f : Nat} (h : CI g s0 l s f) (ha : afterN g s = .inr s0) : close g s0 = (l ++ [s], true) := by
  obtain ⟨h1, h2, h3, h4, h5⟩ := h
  cases f with
  | zero => cases h3
  | succ f =>
    unfold closeF at h4 h5
    rw [ha] at h4 h5
    simp only [if_true] at h4 h5
    exact Prod.ext h4 h5
theorem CI.on {g : Grid} (z : Sz g) {s0 : Nat × Nat} {l : List (Nat × Nat)} {s s' : Nat × Nat} {f : Nat} (h : CI g s0 l s f) (ha : afterN g s = .inr s') (hne : s' ≠ s0) : CI g s0 (l ++ [s]) s' (f - 1) ∧ f - 1 < f := by
  obtain ⟨h1, h2, h3, h4, h5⟩ := h
  cases f with
  | zero => cases h3
  | succ f =>
    unfold closeF at h4 h5
    unfold closes at h3
    rw [ha] at h3 h4 h5
    simp only [if_neg hne] at h3 h4 h5
    refine ⟨⟨(after_r z h1 ha).1, by simp; omega, h3, by simpa using h4, h5⟩, by omega⟩
theorem CI.len {g : Grid} (h : GridOk g) {s0 : Nat × Nat} {l : List (Nat × Nat)} {s : Nat × Nat} {f : Nat} (hC : CI g s0 l s f) : l.length ≤ 100 := by
  have := hC.2.1; have := cells_le h; omega

/-- of a step that is on no beam -/
def RI (g : Grid) (s0 : Nat × Nat) (l : List (Nat × Nat)) (s : Nat × Nat) (f : Nat) : Prop :=
  l.length ≤ 4 * (nR g * nC g) ∧ ((s = s0 ∧ (close g s0).1 = l) ∨ (s ≠ s0 ∧ CI g s0 l s f ∧ ¬ OnBeam g s))
theorem CI.next {g : Grid} (z : Sz g) {s0 : Nat × Nat} {l : List (Nat × Nat)} {s : Nat × Nat} {f : Nat} (h : CI g s0 l s f) (hn : ¬ OnBeam g s) : ∃ f', f' < f ∧ RI g s0 (l ++ [s]) (nx g s) f' ∧ ex g s = -1 := by
  have hf : 0 < f := by
    obtain ⟨_, _, h3, _⟩ := h
    cases f with
    | zero => cases h3
    | succ f => omega
  have hl : (l ++ [s]).length ≤ 4 * (nR g * nC g) := by have := h.2.1; simp; omega
  cases ha : afterN g s with
  | inl p => exact absurd (OnBeam.exit z h.1 ha) hn
  | inr s' =>
    have e1 : nx g s = s' := by simp [nx, ha]
    have e2 : ex g s = -1 := by simp [ex, ha]
    rw [e1]
    by_cases hq : s' = s0
    · subst hq
      exact ⟨0, hf, ⟨hl, .inl ⟨rfl, by rw [h.back ha]⟩⟩, e2⟩
    · have h2 := h.on z ha hq
      exact ⟨f - 1, h2.2, ⟨hl, .inr ⟨hq, h2.1, fun hb => hn (hb.prev z h.1 ha)⟩⟩, e2⟩
theorem RI.go {g : Grid} {s0 : Nat × Nat} {l : List (Nat × Nat)} {s : Nat × Nat} {f : Nat} (h : RI g s0 l s f) (hne : s ≠ s0) : CI g s0 l s f ∧ ¬ OnBeam g s := by
  rcases h.2 with ⟨h1, _⟩ | ⟨_, h1⟩
  · exact absurd h1 hne
  · exact h1
theorem RI.done {g : Grid} {s0 : Nat × Nat} {l : List (Nat × Nat)} {s : Nat × Nat} {f : Nat} (h : RI g s0 l s f) (he : s = s0) : (close g s0).1 = l := by
  rcases h.2 with ⟨_, h1⟩ | ⟨h1, _⟩
  · exact h1
  · exact absurd he h1

/-! marks as sets of steps -/
theorem mark_snoc (A : Bool) (L : List (Nat × Nat)) (s x : Nat × Nat) : ((A || decide (x ∈ L)) || x == s) = (A || decide (x ∈ L ++ [s])) := by
  rw [Bool.eq_iff_iff]
  simp only [Bool.or_eq_true, decide_eq_true_eq, beq_iff_eq, List.mem_append, List.mem_singleton]
  exact or_assoc
theorem mark2_snoc (g : Grid) (A : Bool) (L : List (Nat × Nat)) (s x : Nat × Nat) : (((A || decide (x ∈ L) || decide (x ∈ L.map (rev g))) || x == s) || x == rev g s) = (A || decide (x ∈ L ++ [s]) || decide (x ∈ (L ++ [s]).map (rev g))) := by
  rw [Bool.eq_iff_iff]
  simp only [Bool.or_eq_true, decide_eq_true_eq, beq_iff_eq, List.mem_append, List.mem_singleton, List.map_append, List.map_cons, List.map_nil]
  constructor
  · rintro ((((h | h) | h) | h) | h)
    · exact .inl (.inl h)
    · exact .inl (.inr (.inl h))
    · exact .inr (.inl h)
    · exact .inl (.inr (.inr h))
    · exact .inr (.inr h)
  · rintro ((h | (h | h)) | (h | h))
    · exact .inl (.inl (.inl (.inl h)))
    · exact .inl (.inl (.inl (.inr h)))
    · exact .inl (.inr h)
    · exact .inl (.inl (.inr h))
    · exact .inr h
def beamF (g : Grid) (p : Nat) (x : Nat × Nat) : Bool := (List.range p).any fun q => decide (x ∈ (way g q).1)
theorem beamF_succ (g : Grid) (p : Nat) (x : Nat × Nat) : beamF g (p + 1) x = (beamF g p x || decide (x ∈ (way g p).1)) := by
  unfold beamF
  rw [List.range_succ, List.any_append]
  simp
theorem beamF_mark {g : Grid} (z : Sz g) {s : Nat × Nat} (hs : Ok g s) : beamF g (ports g) s = beamMark g (code s) := by
  rw [Bool.eq_iff_iff, beamMark_iff z, stepOf_code hs.d]
  unfold beamF OnBeam
  simp only [List.any_eq_true, List.mem_range, decide_eq_true_eq]
theorem inL_mem {L : List (Nat × Nat)} (hL : ∀ s ∈ L, s.2 < 4) {s : Nat × Nat} (hs : s.2 < 4) : inL L (code s) = decide (s ∈ L) := by
  rw [Bool.eq_iff_iff, inL_iff hL, stepOf_code hs, decide_eq_true_eq]

/-- the sweep so far: F tells the steps that are marked, R the lengths that have been found -/
structure SI (g : Grid) (x : Nat) (F : Nat × Nat → Bool) (M : Nat → Bool) (R : List Nat) : Prop where
  f : ∀ s, Ok g s → F s = M (code s)
  b : ∀ y, OnBeam g (stepOf y) → M y = true
  r : R ++ (sweep g (List.range' x (4 * (nR g * nC g) - x)) M).map List.length = (rounds g).map List.length
  l : R.length ≤ x
theorem SI.start {g : Grid} (z : Sz g) {F : Nat × Nat → Bool} (hF : ∀ x, F x = beamF g (ports g) x) : SI g 0 F (beamMark g) [] :=
  ⟨fun s hs => by rw [hF, beamF_mark z hs], fun y hy => (beamMark_iff z).2 hy, by rw [List.nil_append, Nat.sub_zero, ← List.range_eq_range']; rfl, by simp⟩
theorem SI.skip {g : Grid} {x : Nat} {F : Nat × Nat → Bool} {M : Nat → Bool} {R : List Nat} (h : SI g x F M R) (hx : x < 4 * (nR g * nC g)) (hm : M x = true) : SI g (x + 1) F M R := by
  refine ⟨h.f, h.b, ?_, by have := h.l; omega⟩
  have hr := h.r
  obtain ⟨k, hk⟩ : ∃ k, 4 * (nR g * nC g) - x = k + 1 := ⟨4 * (nR g * nC g) - x - 1, by omega⟩
  rw [hk, List.range'_succ, sweep, if_pos hm] at hr
  rw [show 4 * (nR g * nC g) - (x + 1) = k by omega]
  exact hr
theorem SI.next {g : Grid} {x : Nat} {F F' : Nat × Nat → Bool} {M : Nat → Bool} {R : List Nat} (h : SI g x F M R) (hx : x < 4 * (nR g * nC g)) (hm : M x = false) (hF : ∀ s, Ok g s → F' s = markL g M (close g (stepOf x)).1 (code s)) : SI g (x + 1) F' (markL g M (close g (stepOf x)).1) (R ++ [(close g (stepOf x)).1.length]) := by
  refine ⟨hF, fun y hy => by simp [markL, h.b y hy], ?_, by have := h.l; simp; omega⟩
  have hr := h.r
  obtain ⟨k, hk⟩ : ∃ k, 4 * (nR g * nC g) - x = k + 1 := ⟨4 * (nR g * nC g) - x - 1, by omega⟩
  rw [hk, List.range'_succ, sweep, if_neg (by rw [hm]; decide), List.map_cons] at hr
  rw [show 4 * (nR g * nC g) - (x + 1) = k by omega, List.append_assoc]
  exact hr
theorem SI.done {g : Grid} {F : Nat × Nat → Bool} {M : Nat → Bool} {R : List Nat} (h : SI g (4 * (nR g * nC g)) F M R) : R = (rounds g).map List.length := by
  have hr := h.r
  rw [Nat.sub_self] at hr
  simpa [sweep] using hr
theorem SI.off {g : Grid} {x : Nat} {F : Nat × Nat → Bool} {M : Nat → Bool} {R : List Nat} (h : SI g x F M R) {y : Nat} (hm : M y = false) : ¬ OnBeam g (stepOf y) := fun hb => by rw [h.b y hb] at hm; cases hm
theorem rounds_len (g : Grid) : (rounds g).length ≤ 4 * (nR g * nC g) := by
  have : ∀ (xs : List Nat) (M : Nat → Bool), (sweep g xs M).length ≤ xs.length := by
    intro xs
    induction xs with
    | nil => intro M; simp [sweep]
    | cons x xs ih =>
      intro M
      unfold sweep
      split
      · have := ih M; simp; omega
      · have := ih (markL g M (close g (stepOf x)).1); simp; omega
  have h := this (List.range (4 * (nR g * nC g))) (beamMark g)
  rwa [List.length_range] at h
end Go.Proofs.Ytmlkabddhdkpaaa
