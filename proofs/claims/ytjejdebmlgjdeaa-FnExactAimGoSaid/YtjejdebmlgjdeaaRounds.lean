/- Rounds: ways that come back; the sweep that finds each round once. -/
import Derived.Test.YtjejdebmlgjdeaaBack
namespace Go.Proofs.Ytjejdebmlgjdeaa
set_option maxRecDepth 100000
set_option linter.unusedSimpArgs false
set_option linter.unusedVariables false

/-- the steps from s on, until the grid is left (false) or s0 comes again (true) -/
def closeF (g : Grid) (s0 : Nat × Nat) : Nat → Nat × Nat → List (Nat × Nat) × Bool
  | 0, _ => ([], false)
  | f + 1, s => match afterN g s with
    | .inl _ => ([s], false)
    | .inr s' => if s' = s0 then ([s], true) else (s :: (closeF g s0 f s').1, (closeF g s0 f s').2)
def closes (g : Grid) (s0 : Nat × Nat) : Nat → Nat × Nat → Bool
  | 0, _ => false
  | f + 1, s => match afterN g s with
    | .inl _ => true
    | .inr s' => if s' = s0 then true else closes g s0 f s'
def close (g : Grid) (s : Nat × Nat) : List (Nat × Nat) × Bool := closeF g s (4 * (nR g * nC g)) s

theorem closes_false {g : Grid} {s0 : Nat × Nat} : ∀ (f : Nat) (s : Nat × Nat), closes g s0 f s = false → ∀ k, k ≤ f → ∃ t, stepsN g k s = some t ∧ (0 < k → t ≠ s0)
  | 0, s, _, k, hk => ⟨s, by rw [show k = 0 by omega]; rfl, fun h => by omega⟩
  | f + 1, s, h, k, hk => by
    cases k with
    | zero => exact ⟨s, rfl, fun h => by omega⟩
    | succ k =>
      unfold closes at h
      rw [stepsN]
      cases e : afterN g s with
      | inl p => rw [e] at h; cases h
      | inr s' =>
        rw [e] at h
        simp only at h
        by_cases hs : s' = s0
        · rw [if_pos hs] at h; cases h
        · rw [if_neg hs] at h
          obtain ⟨t, h1, h2⟩ := closes_false f s' h k (by omega)
          refine ⟨t, h1, fun _ => ?_⟩
          cases k with
          | zero => cases h1; exact hs
          | succ k => exact h2 (by omega)

theorem close_closes {g : Grid} (z : Sz g) {s : Nat × Nat} (hs : Ok g s) : closes g s (4 * (nR g * nC g)) s = true := by
  cases hl : closes g s (4 * (nR g * nC g)) s with
  | true => rfl
  | false =>
    exfalso
    have hall := closes_false _ _ hl
    have hok : ∀ i, i ≤ 4 * (nR g * nC g) → ∃ u, stepsN g i s = some u ∧ Ok g u := fun i hi => by
      obtain ⟨u, h1, _⟩ := hall i hi
      exact ⟨u, h1, stepsN_ok z i _ u hs h1⟩
    have := pigeon (4 * (nR g * nC g)) (4 * (nR g * nC g) + 1) (fun i => ((stepsN g i s).map code).getD 0) (fun i hi => by
        obtain ⟨u, h1, h2⟩ := hok i (by omega)
        simp only [h1, Option.map_some, Option.getD_some]
        exact code_lt h2) (fun i j hij hj e => by
        obtain ⟨u, h1, h2⟩ := hok i (by omega)
        obtain ⟨v, h3, h4⟩ := hok j (by omega)
        simp only [h1, h3, Option.map_some, Option.getD_some] at e
        obtain rfl := code_inj h2 h4 e
        obtain ⟨x, h5, h6⟩ := stepsN_le g (j - i) i _ u (by rw [show j - i + i = j by omega]; exact h3)
        have hx := stepsN_ok z _ _ _ hs h5
        have hxe := stepsN_inj z i _ _ u hx hs h6 h1
        obtain ⟨t, h7, h8⟩ := hall (j - i) (by omega)
        rw [h5] at h7
        exact h8 (by omega) (by rw [← Option.some.inj h7, hxe]))
    omega
theorem closeF_ok {g : Grid} (z : Sz g) (s0 : Nat × Nat) : ∀ (f : Nat) (s : Nat × Nat), Ok g s → ∀ t ∈ (closeF g s0 f s).1, Ok g t
  | 0, _, _, t, ht => by simp [closeF] at ht
  | f + 1, s, h, t, ht => by
    unfold closeF at ht
    cases e : afterN g s with
    | inl p =>
      rw [e] at ht
      rw [List.mem_singleton.1 ht]; exact h
    | inr s' =>
      rw [e] at ht
      simp only at ht
      by_cases hs : s' = s0
      · rw [if_pos hs] at ht
        rw [List.mem_singleton.1 ht]; exact h
      · rw [if_neg hs] at ht
        rcases List.mem_cons.1 ht with rfl | ht
        · exact h
        · exact closeF_ok z s0 f s' (after_r z h e).1 t ht
theorem close_ok {g : Grid} (z : Sz g) {s : Nat × Nat} (hs : Ok g s) : ∀ t ∈ (close g s).1, Ok g t := closeF_ok z s _ s hs
theorem closeF_len (g : Grid) (s0 : Nat × Nat) : ∀ (f : Nat) (s : Nat × Nat), (closeF g s0 f s).1.length ≤ f
  | 0, _ => by simp [closeF]
  | f + 1, s => by
    unfold closeF
    cases e : afterN g s with
    | inl p => simp
    | inr s' =>
      simp only
      by_cases hs : s' = s0
      · rw [if_pos hs]; simp
      · rw [if_neg hs]; simpa using closeF_len g s0 f s'
theorem close_len (g : Grid) (s : Nat × Nat) : (close g s).1.length ≤ 4 * (nR g * nC g) := closeF_len g s _ s

/-! beams -/
def OnBeam (g : Grid) (s : Nat × Nat) : Prop := ∃ p, p < ports g ∧ s ∈ (way g p).1

theorem OnBeam.rev {g : Grid} (z : Sz g) {s : Nat × Nat} (h : OnBeam g s) : OnBeam g (rev g s) := by
  obtain ⟨p, hp, hs⟩ := h
  refine ⟨(way g p).2, way_end z hp, ?_⟩
  rw [way_back z hp]
  simp only [List.mem_reverse]
  exact List.mem_map_of_mem hs
theorem Walk.next {g : Grid} {s : Nat × Nat} {L : List (Nat × Nat)} {e : Nat} (h : Walk g s L e) {t t' : Nat × Nat} (ht : t ∈ L) (ha : afterN g t = .inr t') : t' ∈ L := by
  induction h with
  | out h =>
    rw [List.mem_singleton.1 ht, h] at ha; cases ha
  | @on s s' L e h k ih =>
    rcases List.mem_cons.1 ht with rfl | ht
    · rw [h] at ha
      cases ha
      obtain ⟨M, hM⟩ := k.head
      rw [hM]; simp
    · exact List.mem_cons_of_mem _ (ih ht)
theorem way_walk {g : Grid} (z : Sz g) {p : Nat} (hp : p < ports g) : Walk g (enterN (nR g) (nC g) p) (way g p).1 (way g p).2 := Walk.of _ _ (way_leaves z hp)
theorem OnBeam.next {g : Grid} (z : Sz g) {s s' : Nat × Nat} (h : OnBeam g s) (ha : afterN g s = .inr s') : OnBeam g s' := by
  obtain ⟨p, hp, hs⟩ := h
  exact ⟨p, hp, (way_walk z hp).next hs ha⟩
theorem OnBeam.prev {g : Grid} (z : Sz g) {s s' : Nat × Nat} (hs : Ok g s) (h : OnBeam g s') (ha : afterN g s = .inr s') : OnBeam g s := by
  have h1 := (after_r z hs ha).2
  have h2 := ((h.rev z).next z h1).rev z
  rwa [rev_rev hs] at h2
theorem OnBeam.exit {g : Grid} (z : Sz g) {s : Nat × Nat} (hs : Ok g s) {p : Nat} (ha : afterN g s = .inl p) : OnBeam g s := by
  obtain ⟨hp, he⟩ := after_l z hs ha
  have h1 : OnBeam g (Go.Proofs.Ytjejdebmlgjdeaa.rev g s) := by
    refine ⟨p, hp, ?_⟩
    obtain ⟨M, hM⟩ := (way_walk z hp).head
    rw [hM, he]; simp
  have h2 := h1.rev z
  rwa [rev_rev hs] at h2
theorem closeF_onBeam {g : Grid} (z : Sz g) {s0 : Nat × Nat} : ∀ (f : Nat) (s : Nat × Nat), Ok g s → closes g s0 f s = true → (closeF g s0 f s).2 = false → OnBeam g s
  | 0, _, _, h, _ => by cases h
  | f + 1, s, hs, h, hc => by
    unfold closes at h
    unfold closeF at hc
    cases e : afterN g s with
    | inl p => exact OnBeam.exit z hs e
    | inr s' =>
      rw [e] at h hc
      simp only at h hc
      by_cases hq : s' = s0
      · rw [if_pos hq] at hc; cases hc
      · rw [if_neg hq] at h hc
        exact (closeF_onBeam z f s' (after_r z hs e).1 h hc).prev z hs e
theorem Walk.after_close {g : Grid} {s0 : Nat × Nat} : ∀ (f : Nat) (s : Nat × Nat), (closeF g s0 f s).2 = true → ∀ L e, Walk g s L e → ∃ M, Walk g s0 M e ∧ M.length < L.length
  | 0, _, h, _, _, _ => by cases h
  | f + 1, s, h, L, e, hw => by
    unfold closeF at h
    cases ha : afterN g s with
    | inl p => rw [ha] at h; cases h
    | inr s' =>
      rw [ha] at h
      simp only at h
      cases hw with
      | out h1 => rw [h1] at ha; cases ha
      | @on _ s'' L' _ h1 k =>
        rw [h1] at ha
        cases ha
        by_cases hq : s' = s0
        · subst hq; exact ⟨L', k, by simp⟩
        · rw [if_neg hq] at h
          obtain ⟨M, h2, h3⟩ := Walk.after_close f s' h L' e k
          exact ⟨M, h2, by simp; omega⟩
theorem Walk.det {g : Grid} {s : Nat × Nat} {L M : List (Nat × Nat)} {e e' : Nat} (h : Walk g s L e) : Walk g s M e' → L = M ∧ e = e' := by
  induction h generalizing M with
  | out h =>
    intro k
    cases k with
    | out h2 => rw [h] at h2; cases h2; exact ⟨rfl, rfl⟩
    | on h2 _ => rw [h] at h2; cases h2
  | on h k ih =>
    intro k2
    cases k2 with
    | out h2 => rw [h] at h2; cases h2
    | on h2 k3 =>
      rw [h] at h2; cases h2
      obtain ⟨h4, h5⟩ := ih k3
      exact ⟨by rw [h4], h5⟩
theorem Walk.suffix {g : Grid} {s : Nat × Nat} {L : List (Nat × Nat)} {e : Nat} (h : Walk g s L e) : ∀ t ∈ L, ∃ M, Walk g t M e := by
  induction h with
  | out h => intro t ht; rw [List.mem_singleton.1 ht]; exact ⟨_, .out h⟩
  | on h k ih =>
    intro t ht
    rcases List.mem_cons.1 ht with rfl | ht
    · exact ⟨_, .on h k⟩
    · exact ih t ht
theorem close_iff {g : Grid} (z : Sz g) {s : Nat × Nat} (hs : Ok g s) : (close g s).2 = true ↔ ¬ OnBeam g s := by
  constructor
  · rintro h ⟨p, hp, hm⟩
    obtain ⟨M, hM⟩ := (way_walk z hp).suffix s hm
    obtain ⟨M', h1, h2⟩ := Walk.after_close _ s h M _ hM
    have := (hM.det h1).1
    rw [this] at h2; omega
  · intro h
    cases hc : (close g s).2 with
    | true => rfl
    | false => exact absurd (closeF_onBeam z _ s hs (close_closes z hs) hc) h

/-! the sweep -/
def inL (L : List (Nat × Nat)) (x : Nat) : Bool := L.any fun s => code s == x
def markL (g : Grid) (M : Nat → Bool) (L : List (Nat × Nat)) : Nat → Bool := fun y => M y || inL L y || inL (L.map (rev g)) y
def stepOf (x : Nat) : Nat × Nat := (x / 4, x % 4)
def sweep (g : Grid) : List Nat → (Nat → Bool) → List (List (Nat × Nat))
  | [], _ => []
  | x :: xs, M => if M x = true then sweep g xs M else (close g (stepOf x)).1 :: sweep g xs (markL g M (close g (stepOf x)).1)
def beamMark (g : Grid) : Nat → Bool := fun x => (List.range (ports g)).any fun p => inL (way g p).1 x
def rounds (g : Grid) : List (List (Nat × Nat)) := sweep g (List.range (4 * (nR g * nC g))) (beamMark g)

theorem stepOf_code {s : Nat × Nat} (h : s.2 < 4) : stepOf (code s) = s := by
  unfold stepOf code
  exact Prod.ext (by show (4 * s.1 + s.2) / 4 = s.1; omega) (by show (4 * s.1 + s.2) % 4 = s.2; omega)
theorem code_stepOf (x : Nat) : code (stepOf x) = x := by unfold stepOf code; omega
theorem stepOf_ok {g : Grid} {x : Nat} (h : x < 4 * (nR g * nC g)) : Ok g (stepOf x) := ⟨by unfold stepOf; show x / 4 < _; omega, by unfold stepOf; show x % 4 < 4; omega⟩
theorem inL_iff {L : List (Nat × Nat)} {x : Nat} (hL : ∀ s ∈ L, s.2 < 4) : inL L x = true ↔ stepOf x ∈ L := by
  unfold inL
  rw [List.any_eq_true]
  constructor
  · rintro ⟨s, hs, he⟩
    have : code s = x := by simpa using he
    rw [← this, stepOf_code (hL s hs)]; exact hs
  · intro h
    exact ⟨_, h, by simp [code_stepOf]⟩
theorem beamMark_iff {g : Grid} (z : Sz g) {x : Nat} : beamMark g x = true ↔ OnBeam g (stepOf x) := by
  unfold beamMark OnBeam
  rw [List.any_eq_true]
  constructor
  · rintro ⟨p, hp, h⟩
    have hp' := List.mem_range.1 hp
    exact ⟨p, hp', (inL_iff fun s hs => (way_ok z hp' s hs).d).1 h⟩
  · rintro ⟨p, hp, h⟩
    exact ⟨p, List.mem_range.2 hp, (inL_iff fun s hs => (way_ok z hp s hs).d).2 h⟩
theorem rev_d (g : Grid) (L : List (Nat × Nat)) : ∀ s ∈ L.map (rev g), s.2 < 4 := fun s hs => by
  obtain ⟨t, _, rfl⟩ := List.mem_map.1 hs
  exact rv_lt _

/-- what a round's list holds: the step itself first, and each step is no beam's -/
theorem closeF_off {g : Grid} (z : Sz g) {s0 : Nat × Nat} : ∀ (f : Nat) (s : Nat × Nat), Ok g s → ¬ OnBeam g s → ∀ t ∈ (closeF g s0 f s).1, ¬ OnBeam g t
  | 0, _, _, _, t, ht => by simp [closeF] at ht
  | f + 1, s, hs, hn, t, ht => by
    unfold closeF at ht
    cases e : afterN g s with
    | inl p => exact absurd (OnBeam.exit z hs e) hn
    | inr s' =>
      rw [e] at ht
      simp only at ht
      by_cases hq : s' = s0
      · rw [if_pos hq] at ht
        rw [List.mem_singleton.1 ht]; exact hn
      · rw [if_neg hq] at ht
        rcases List.mem_cons.1 ht with rfl | ht
        · exact hn
        · exact closeF_off z f s' (after_r z hs e).1 (fun h => hn (h.prev z hs e)) t ht
theorem close_head {g : Grid} (z : Sz g) {s : Nat × Nat} (hs : Ok g s) : ∃ M, (close g s).1 = s :: M := by
  have h0 : 0 < 4 * (nR g * nC g) := by
    have := Nat.mul_pos z.n1 z.m1; omega
  obtain ⟨k, hk⟩ : ∃ k, 4 * (nR g * nC g) = k + 1 := ⟨4 * (nR g * nC g) - 1, by omega⟩
  unfold close
  rw [hk]
  unfold closeF
  cases afterN g s with
  | inl p => exact ⟨[], rfl⟩
  | inr s' =>
    simp only
    by_cases hq : s' = s
    · rw [if_pos hq]; exact ⟨[], rfl⟩
    · rw [if_neg hq]; exact ⟨_, rfl⟩

/-- what the sweep finds: each list is a round of a step that is on no beam -/
theorem sweep_mem {g : Grid} (z : Sz g) : ∀ (xs : List Nat) (M : Nat → Bool), (∀ x ∈ xs, x < 4 * (nR g * nC g)) → (∀ x, OnBeam g (stepOf x) → M x = true) →
    ∀ r ∈ sweep g xs M, ∃ x, x ∈ xs ∧ ¬ OnBeam g (stepOf x) ∧ r = (close g (stepOf x)).1
  | [], _, _, _, r, h => by simp [sweep] at h
  | x :: xs, M, hx, hM, r, h => by
    unfold sweep at h
    by_cases hm : M x = true
    · rw [if_pos hm] at h
      obtain ⟨y, h1, h2⟩ := sweep_mem z xs M (fun y hy => hx y (List.mem_cons_of_mem _ hy)) hM r h
      exact ⟨y, List.mem_cons_of_mem _ h1, h2⟩
    · rw [if_neg hm] at h
      rcases List.mem_cons.1 h with rfl | h
      · exact ⟨x, by simp, fun hb => hm (hM x hb), rfl⟩
      · obtain ⟨y, h1, h2⟩ := sweep_mem z xs _ (fun y hy => hx y (List.mem_cons_of_mem _ hy)) (fun y hy => by simp [markL, hM y hy]) r h
        exact ⟨y, List.mem_cons_of_mem _ h1, h2⟩
/-- each step that is not marked is found: it or its way back is in a list -/
theorem sweep_covers {g : Grid} (z : Sz g) : ∀ (xs : List Nat) (M : Nat → Bool), (∀ x ∈ xs, x < 4 * (nR g * nC g)) →
    ∀ x ∈ xs, M x = false → ∃ r ∈ sweep g xs M, stepOf x ∈ r ∨ rev g (stepOf x) ∈ r
  | [], _, _, x, h, _ => by cases h
  | y :: xs, M, hx, x, h, hm => by
    unfold sweep
    by_cases hy : M y = true
    · rw [if_pos hy]
      rcases List.mem_cons.1 h with rfl | h
      · rw [hm] at hy; cases hy
      · exact sweep_covers z xs M (fun y hy => hx y (List.mem_cons_of_mem _ hy)) x h hm
    · rw [if_neg hy]
      have hyok := stepOf_ok (hx y (by simp))
      have hxok := stepOf_ok (hx x h)
      by_cases hmm : markL g M (close g (stepOf y)).1 x = true
      · refine ⟨_, List.mem_cons_self, ?_⟩
        simp only [markL, hm, Bool.false_or, Bool.or_eq_true] at hmm
        rcases hmm with h1 | h1
        · exact .inl ((inL_iff fun s hs => (close_ok z hyok s hs).d).1 h1)
        · right
          have h2 := (inL_iff (rev_d g _)).1 h1
          obtain ⟨t, ht, he⟩ := List.mem_map.1 h2
          rw [← he, rev_rev (close_ok z hyok t ht)]; exact ht
      · rcases List.mem_cons.1 h with rfl | h
        · exfalso
          apply hmm
          obtain ⟨M', hM'⟩ := close_head z hyok
          have : inL (close g (stepOf x)).1 x = true := (inL_iff fun s hs => (close_ok z hyok s hs).d).2 (by rw [hM']; simp)
          simp [markL, this]
        · obtain ⟨r, h1, h2⟩ := sweep_covers z xs _ (fun y hy => hx y (List.mem_cons_of_mem _ hy)) x h (by simpa using hmm)
          exact ⟨r, List.mem_cons_of_mem _ h1, h2⟩
theorem rounds_mem {g : Grid} (z : Sz g) {r : List (Nat × Nat)} (h : r ∈ rounds g) : ∃ x, x < 4 * (nR g * nC g) ∧ ¬ OnBeam g (stepOf x) ∧ r = (close g (stepOf x)).1 := by
  obtain ⟨x, h1, h2⟩ := sweep_mem z _ _ (fun x hx => List.mem_range.1 hx) (fun x hx => (beamMark_iff z).2 hx) r h
  exact ⟨x, List.mem_range.1 h1, h2⟩
theorem rounds_covers {g : Grid} (z : Sz g) {x : Nat} (hx : x < 4 * (nR g * nC g)) (h : ¬ OnBeam g (stepOf x)) : ∃ r ∈ rounds g, stepOf x ∈ r ∨ rev g (stepOf x) ∈ r :=
  sweep_covers z _ _ (fun x hx => List.mem_range.1 hx) x (List.mem_range.2 hx) (by
    cases e : beamMark g x with
    | true => exact absurd ((beamMark_iff z).1 e) h
    | false => rfl)
theorem rounds_nil {g : Grid} (z : Sz g) : (rounds g).length = 0 ↔ ∀ x, x < 4 * (nR g * nC g) → OnBeam g (stepOf x) := by
  constructor
  · intro h x hx
    apply Classical.byContradiction
    intro hn
    obtain ⟨r, h1, _⟩ := rounds_covers z hx hn
    rw [List.eq_nil_of_length_eq_zero h] at h1; cases h1
  · intro h
    cases e : rounds g with
    | nil => rfl
    | cons r R =>
      obtain ⟨x, h1, h2, _⟩ := rounds_mem z (r := r) (by rw [e]; simp)
      exact absurd (h x h1) h2
end Go.Proofs.Ytjejdebmlgjdeaa
