/- The beam back: the same way, turned round. -/
import Derived.Test.YtjejdebmlgjdeaaPath
namespace Go.Proofs.Ytjejdebmlgjdeaa
set_option maxRecDepth 100000
set_option linter.unusedSimpArgs false
set_option linter.unusedVariables false

/-- from s on these steps are taken, then the grid is left at e -/
inductive Walk (g : Grid) : Nat × Nat → List (Nat × Nat) → Nat → Prop
  | out {s e} (h : afterN g s = .inl e) : Walk g s [s] e
  | on {s s' L e} (h : afterN g s = .inr s') (k : Walk g s' L e) : Walk g s (s :: L) e

theorem Walk.of {g : Grid} : ∀ (f : Nat) (s : Nat × Nat), leaves g f s = true → Walk g s (wayF g f s).1 (wayF g f s).2
  | 0, _, h => by cases h
  | f + 1, s, h => by
    unfold leaves at h
    unfold wayF
    cases e : afterN g s with
    | inl p => exact .out e
    | inr s' => rw [e] at h; exact .on e (Walk.of f s' h)
theorem Walk.way {g : Grid} {s : Nat × Nat} {L : List (Nat × Nat)} {e : Nat} (h : Walk g s L e) : ∀ f, L.length ≤ f → wayF g f s = (L, e) := by
  induction h with
  | out h =>
    intro f hf
    cases f with
    | zero => simp at hf
    | succ f => unfold wayF; rw [h]
  | on h k ih =>
    intro f hf
    cases f with
    | zero => simp at hf
    | succ f => unfold wayF; rw [h]; simp only; rw [ih f (by simpa using hf)]
theorem Walk.head {g : Grid} {s : Nat × Nat} {L : List (Nat × Nat)} {e : Nat} (h : Walk g s L e) : ∃ M, L = s :: M := by
  cases h with
  | out h => exact ⟨[], rfl⟩
  | on h k => exact ⟨_, rfl⟩
theorem Walk.back {g : Grid} (z : Sz g) {s : Nat × Nat} {L : List (Nat × Nat)} {e : Nat} (h : Walk g s L e) : Ok g s → ∀ (M : List (Nat × Nat)) (p : Nat), Walk g (rev g s) (rev g s :: M) p → Walk g (enterN (nR g) (nC g) e) ((L.map (rev g)).reverse ++ M) p := by
  induction h with
  | @out s e h =>
    intro hs M p hw
    rw [(after_l z hs h).2]
    exact hw
  | @on s s' L e h k ih =>
    intro hs M p hw
    have h2 := after_r z hs h
    have h3 := ih h2.1 (rev g s :: M) p (.on h2.2 hw)
    simpa using h3
theorem way_back {g : Grid} (z : Sz g) {p : Nat} (hp : p < ports g) : way g (way g p).2 = (((way g p).1.map (rev g)).reverse, p) := by
  have h := Walk.of _ _ (way_leaves z hp)
  have h2 := h.back z (enter_ok z hp) [] p (.out (rev_enter z hp))
  rw [List.append_nil] at h2
  exact h2.way _ (by rw [List.length_reverse, List.length_map]; exact way_len g p)
theorem way_back_len {g : Grid} (z : Sz g) {p : Nat} (hp : p < ports g) : (way g (way g p).2).1.length = (way g p).1.length := by
  rw [way_back z hp]; simp
theorem way_pos {g : Grid} (z : Sz g) {p : Nat} (hp : p < ports g) : 0 < (way g p).1.length := by
  obtain ⟨M, h⟩ := (Walk.of _ _ (way_leaves z hp)).head
  unfold way
  rw [h]; simp
end Go.Proofs.Ytjejdebmlgjdeaa
