/- Rounds counted by classes of steps that light joins. -/
import Derived.Test.YtmlkabddhdkpaaaMaths
import Derived.Test.YtmlkabddhdkpaaaAimP
import Derived.Test.YtmlkabddhdkpaaaTmA
import Derived.Test.YtmlkabddhdkpaaaAskP
namespace Go.Proofs.Ytmlkabddhdkpaaa
set_option maxRecDepth 100000
set_option linter.unusedSimpArgs false
set_option linter.unusedVariables false

/-- steps that light joins -/
inductive Cn (g : Grid) : Nat × Nat → Nat × Nat → Prop
  | refl (s : Nat × Nat) : Cn g s s
  | go {s t : Nat × Nat} (h : Ok g s) (e : afterN g s = .inr t) : Cn g s t
  | turn {s : Nat × Nat} (h : Ok g s) : Cn g s (rev g s)
  | symm {s t : Nat × Nat} (k : Cn g s t) : Cn g t s
  | trans {s t u : Nat × Nat} (k : Cn g s t) (l : Cn g t u) : Cn g s u
/-- a set that light does not leave -/
structure Cl (g : Grid) (C : Nat × Nat → Prop) : Prop where
  go : ∀ s t, Ok g s → C s → afterN g s = .inr t → C t
  turn : ∀ s, Ok g s → C s → C (rev g s)
theorem Cn.mem {g : Grid} (z : Sz g) {C : Nat × Nat → Prop} (hC : Cl g C) {s t : Nat × Nat} (h : Cn g s t) : C s ↔ C t := by
  induction h with
  | refl s => exact Iff.rfl
  | @go s t h e =>
    refine ⟨fun c => hC.go s t h c e, fun c => ?_⟩
    have h2 := after_r z h e
    have h3 := hC.go _ _ h2.1.rev (hC.turn t h2.1 c) h2.2
    have h4 := hC.turn _ h.rev h3
    rwa [rev_rev h] at h4
  | @turn s h => exact ⟨hC.turn s h, fun c => by have h4 := hC.turn _ h.rev c; rwa [rev_rev h] at h4⟩
  | symm k ih => exact ih.symm
  | trans k l ih1 ih2 => exact ih1.trans ih2
theorem beam_cl {g : Grid} (z : Sz g) : Cl g (OnBeam g) := ⟨fun _ _ _ h e => h.next z e, fun _ _ h => h.rev z⟩
/-- one step of each round -/
structure Tv (g : Grid) (R : List (Nat × Nat)) : Prop where
  off : ∀ r ∈ R, Ok g r ∧ ¬ OnBeam g r
  apart : R.Pairwise fun r r' => ¬ Cn g r r'
  covers : ∀ s, Ok g s → ¬ OnBeam g s → ∃ r ∈ R, Cn g s r
theorem reps_le {α : Type} {E : α → α → Prop} (hs : ∀ a b, E a b → E b a) (ht : ∀ a b c, E a b → E b c → E a c) : ∀ (R R' : List α), R.Pairwise (fun r r' => ¬ E r r') → (∀ r ∈ R, ∃ r' ∈ R', E r r') → R.length ≤ R'.length
  | [], _, _, _ => by simp
  | r :: R, R', hp, hc => by
    obtain ⟨hp1, hp2⟩ := List.pairwise_cons.1 hp
    obtain ⟨r', hr', he⟩ := hc r (by simp)
    obtain ⟨A, B, rfl⟩ := List.append_of_mem hr'
    have ih := reps_le hs ht R (A ++ B) hp2 fun q hq => by
      obtain ⟨q', hq', hqe⟩ := hc q (List.mem_cons_of_mem _ hq)
      refine ⟨q', ?_, hqe⟩
      rcases List.mem_append.1 hq' with h | h
      · exact List.mem_append.2 (.inl h)
      · rcases List.mem_cons.1 h with h | h
        · subst h
          exact absurd (ht _ _ _ he (hs _ _ hqe)) (hp1 q hq)
        · exact List.mem_append.2 (.inr h)
    simp only [List.length_append, List.length_cons] at ih ⊢
    omega
theorem Tv.le {g : Grid} {R R' : List (Nat × Nat)} (h : Tv g R) (h' : Tv g R') : R.length ≤ R'.length :=
  reps_le (E := Cn g) (fun _ _ k => k.symm) (fun _ _ _ k l => k.trans l) R R' h.apart fun r hr => h'.covers r (h.off r hr).1 (h.off r hr).2
theorem Tv.len {g : Grid} {R R' : List (Nat × Nat)} (h : Tv g R) (h' : Tv g R') : R.length = R'.length := Nat.le_antisymm (h.le h') (h'.le h)

/-! the round of a step -/
theorem closeF_cn {g : Grid} (z : Sz g) (s0 : Nat × Nat) : ∀ (f : Nat) (s : Nat × Nat), Ok g s → ∀ t ∈ (closeF g s0 f s).1, Cn g s t
  | 0, s, _, t, ht => by simp [closeF] at ht
  | f + 1, s, h, t, ht => by
    unfold closeF at ht
    cases e : afterN g s with
    | inl p =>
      rw [e] at ht
      rw [List.mem_singleton.1 ht]; exact .refl _
    | inr s' =>
      rw [e] at ht
      simp only at ht
      by_cases hs : s' = s0
      · rw [if_pos hs] at ht
        rw [List.mem_singleton.1 ht]; exact .refl _
      · rw [if_neg hs] at ht
        rcases List.mem_cons.1 ht with rfl | ht
        · exact .refl _
        · exact .trans (.go h e) (closeF_cn z s0 f s' (after_r z h e).1 t ht)
theorem closeF_first {g : Grid} {s0 : Nat × Nat} : ∀ (f : Nat) (s : Nat × Nat), (closeF g s0 f s).2 = true → s ∈ (closeF g s0 f s).1
  | 0, s, h => by simp [closeF] at h
  | f + 1, s, h => by
    unfold closeF
    cases e : afterN g s with
    | inl p => simp
    | inr s' =>
      simp only
      by_cases hs : s' = s0
      · rw [if_pos hs]; simp
      · rw [if_neg hs]; simp
theorem closeF_next {g : Grid} {s0 : Nat × Nat} : ∀ (f : Nat) (s : Nat × Nat), (closeF g s0 f s).2 = true → ∀ t ∈ (closeF g s0 f s).1, ∀ t', afterN g t = .inr t' → t' ∈ (closeF g s0 f s).1 ∨ t' = s0
  | 0, s, h, _, _, _, _ => by simp [closeF] at h
  | f + 1, s, h, t, ht, t', e' => by
    unfold closeF at h ht ⊢
    cases e : afterN g s with
    | inl p => rw [e] at h; simp at h
    | inr s' =>
      rw [e] at h ht
      simp only at h ht ⊢
      by_cases hs : s' = s0
      · rw [if_pos hs] at ht ⊢
        rw [List.mem_singleton.1 ht, e] at e'
        exact .inr (by rw [← hs]; exact (Sum.inr.inj e').symm)
      · rw [if_neg hs] at h ht ⊢
        rcases List.mem_cons.1 ht with rfl | ht
        · rw [e] at e'
          obtain rfl := Sum.inr.inj e'
          exact .inl (List.mem_cons_of_mem _ (closeF_first f _ h))
        · rcases closeF_next f s' h t ht t' e' with h1 | h1
          · exact .inl (List.mem_cons_of_mem _ h1)
          · exact .inr h1
theorem closeF_prev {g : Grid} {s0 : Nat × Nat} : ∀ (f : Nat) (s : Nat × Nat), (closeF g s0 f s).2 = true → (∀ t ∈ (closeF g s0 f s).1, t = s ∨ ∃ v ∈ (closeF g s0 f s).1, afterN g v = .inr t) ∧ ∃ v ∈ (closeF g s0 f s).1, afterN g v = .inr s0
  | 0, s, h => by simp [closeF] at h
  | f + 1, s, h => by
    unfold closeF at h ⊢
    cases e : afterN g s with
    | inl p => rw [e] at h; simp at h
    | inr s' =>
      rw [e] at h
      simp only at h ⊢
      by_cases hs : s' = s0
      · rw [if_pos hs]
        exact ⟨fun t ht => .inl (List.mem_singleton.1 ht), s, by simp, by rw [e, hs]⟩
      · rw [if_neg hs] at h ⊢
        obtain ⟨h1, v, h2, h3⟩ := closeF_prev f s' h
        refine ⟨fun t ht => ?_, v, List.mem_cons_of_mem _ h2, h3⟩
        rcases List.mem_cons.1 ht with rfl | ht
        · exact .inl rfl
        · rcases h1 t ht with rfl | ⟨u, hu, hue⟩
          · exact .inr ⟨s, by simp, e⟩
          · exact .inr ⟨u, List.mem_cons_of_mem _ hu, hue⟩
/-- a round gone both ways -/
def Both (g : Grid) (s t : Nat × Nat) : Prop := t ∈ (close g s).1 ∨ t ∈ (close g s).1.map (rev g)
theorem both_cl {g : Grid} (z : Sz g) {s : Nat × Nat} (hs : Ok g s) (h : (close g s).2 = true) : Cl g (Both g s) := by
  have hok := close_ok z hs
  obtain ⟨hp, w, hw, hwe⟩ := closeF_prev _ _ h
  refine ⟨fun a b ha hc e => ?_, fun a ha hc => ?_⟩
  · rcases hc with hc | hc
    · rcases closeF_next _ _ h a hc b e with h1 | h1
      · exact .inl h1
      · exact .inl (by rw [h1]; exact closeF_first _ _ h)
    · obtain ⟨u, hu, rfl⟩ := List.mem_map.1 hc
      obtain ⟨v, hv, hve⟩ : ∃ v ∈ (close g s).1, afterN g v = .inr u := by
        rcases hp u hu with rfl | h1
        · exact ⟨w, hw, hwe⟩
        · exact h1
      rw [(after_r z (hok v hv) hve).2] at e
      exact .inr (by rw [← Sum.inr.inj e]; exact List.mem_map_of_mem hv)
  · rcases hc with hc | hc
    · exact .inr (List.mem_map_of_mem hc)
    · obtain ⟨u, hu, rfl⟩ := List.mem_map.1 hc
      exact .inl (by rw [rev_rev (hok u hu)]; exact hu)
def sweepS (g : Grid) : List Nat → (Nat → Bool) → List (Nat × Nat)
  | [], _ => []
  | x :: xs, M => if M x = true then sweepS g xs M else stepOf x :: sweepS g xs (markL g M (close g (stepOf x)).1)
theorem sweepS_map (g : Grid) : ∀ (xs : List Nat) (M : Nat → Bool), sweep g xs M = (sweepS g xs M).map fun s => (close g s).1
  | [], _ => rfl
  | x :: xs, M => by
    unfold sweep sweepS
    split
    · exact sweepS_map g xs M
    · rw [List.map_cons, sweepS_map g xs]
theorem markL_both {g : Grid} (z : Sz g) {M : Nat → Bool} {s t : Nat × Nat} (hs : Ok g s) (ht : Ok g t) : markL g M (close g s).1 (code t) = true ↔ M (code t) = true ∨ Both g s t := by
  have hok := close_ok z hs
  unfold markL Both
  rw [Bool.or_eq_true, Bool.or_eq_true, inL_iff fun u hu => (hok u hu).d, inL_iff (rev_d g _), stepOf_code ht.d, or_assoc]
theorem sweepS_tv {g : Grid} (z : Sz g) : ∀ (xs : List Nat) (M : Nat → Bool), (∀ x ∈ xs, x < 4 * (nR g * nC g)) → (∀ s, Ok g s → OnBeam g s → M (code s) = true) → (∀ s t, Ok g s → M (code s) = true → afterN g s = .inr t → M (code t) = true) → (∀ s, Ok g s → M (code s) = true → M (code (rev g s)) = true) →
    (∀ r ∈ sweepS g xs M, Ok g r ∧ ¬ OnBeam g r ∧ M (code r) = false) ∧ (sweepS g xs M).Pairwise fun r r' => ¬ Cn g r r'
  | [], _, _, _, _, _ => by simp [sweepS]
  | x :: xs, M, hx, hb, hg, ht => by
    unfold sweepS
    by_cases hm : M x = true
    · rw [if_pos hm]
      exact sweepS_tv z xs M (fun y hy => hx y (List.mem_cons_of_mem _ hy)) hb hg ht
    · rw [if_neg hm]
      have hok := stepOf_ok (hx x (by simp))
      have hoff : ¬ OnBeam g (stepOf x) := fun e => hm (by have := hb _ hok e; rwa [code_stepOf] at this)
      have hc := (close_iff z hok).2 hoff
      have hcl := both_cl z hok hc
      have hfst : Both g (stepOf x) (stepOf x) := .inl (closeF_first _ _ hc)
      obtain ⟨h1, h2⟩ := sweepS_tv z xs (markL g M (close g (stepOf x)).1) (fun y hy => hx y (List.mem_cons_of_mem _ hy))
        (fun s hs e => (markL_both z hok hs).2 (.inl (hb s hs e)))
        (fun s t hs e a => (markL_both z hok (after_r z hs a).1).2 (by
          rcases (markL_both z hok hs).1 e with h | h
          · exact .inl (hg s t hs h a)
          · exact .inr (hcl.go s t hs h a)))
        (fun s hs e => (markL_both z hok hs.rev).2 (by
          rcases (markL_both z hok hs).1 e with h | h
          · exact .inl (ht s hs h)
          · exact .inr (hcl.turn s hs h)))
      refine ⟨fun r hr => ?_, List.pairwise_cons.2 ⟨fun r hr k => ?_, h2⟩⟩
      · rcases List.mem_cons.1 hr with rfl | hr
        · exact ⟨hok, hoff, by rw [code_stepOf]; simpa using hm⟩
        · obtain ⟨a, b, c⟩ := h1 r hr
          refine ⟨a, b, ?_⟩
          cases e : M (code r) with
          | false => rfl
          | true => rw [(markL_both z hok a).2 (.inl e)] at c; cases c
      · obtain ⟨a, b, c⟩ := h1 r hr
        rw [(markL_both z hok a).2 (.inr ((k.mem z hcl).1 hfst))] at c; cases c
theorem rounds_tv {g : Grid} (z : Sz g) : ∃ R, Tv g R ∧ R.length = (rounds g).length := by
  have hbm : ∀ s, Ok g s → (beamMark g (code s) = true ↔ OnBeam g s) := fun s hs => by rw [beamMark_iff z, stepOf_code hs.d]
  obtain ⟨h1, h2⟩ := sweepS_tv z (List.range (4 * (nR g * nC g))) (beamMark g) (fun x hx => List.mem_range.1 hx) (fun s hs e => (hbm s hs).2 e)
    (fun s t hs e a => (hbm t (after_r z hs a).1).2 (((hbm s hs).1 e).next z a)) (fun s hs e => (hbm _ hs.rev).2 (((hbm s hs).1 e).rev z))
  have hmap := sweepS_map g (List.range (4 * (nR g * nC g))) (beamMark g)
  refine ⟨sweepS g (List.range (4 * (nR g * nC g))) (beamMark g), ⟨fun r hr => ⟨(h1 r hr).1, (h1 r hr).2.1⟩, h2, fun s hs hn => ?_⟩, ?_⟩
  · have e : stepOf (code s) = s := stepOf_code hs.d
    obtain ⟨r, hr, h⟩ := rounds_covers z (code_lt hs) (by rw [e]; exact hn)
    rw [e] at h
    unfold rounds at hr
    rw [hmap] at hr
    obtain ⟨s0, hs0, rfl⟩ := List.mem_map.1 hr
    have ho := (h1 s0 hs0).1
    rcases h with h | h
    · exact ⟨s0, hs0, (closeF_cn z _ _ _ ho s h).symm⟩
    · exact ⟨s0, hs0, .trans (.turn hs) (closeF_cn z _ _ _ ho _ h).symm⟩
  · unfold rounds
    rw [hmap, List.length_map]
theorem Tv.rounds {g : Grid} (z : Sz g) {R : List (Nat × Nat)} (h : Tv g R) : R.length = (rounds g).length := by
  obtain ⟨R', h', e⟩ := rounds_tv z
  rw [← e]; exact h.len h'
/-! elements of ways -/
theorem Walk.okAll {g : Grid} (z : Sz g) {s : Nat × Nat} {L : List (Nat × Nat)} {e : Nat} (h : Walk g s L e) : Ok g s → ∀ t ∈ L, Ok g t := by
  induction h with
  | out h => exact fun hs t ht => by rw [List.mem_singleton.1 ht]; exact hs
  | on h k ih =>
    intro hs t ht
    rcases List.mem_cons.1 ht with rfl | ht
    · exact hs
    · exact ih (after_r z hs h).1 t ht
theorem Walk.cnAll {g : Grid} (z : Sz g) {s : Nat × Nat} {L : List (Nat × Nat)} {e : Nat} (h : Walk g s L e) : Ok g s → ∀ t ∈ L, Cn g s t := by
  induction h with
  | out h => exact fun hs t ht => by rw [List.mem_singleton.1 ht]; exact .refl _
  | on h k ih =>
    intro hs t ht
    rcases List.mem_cons.1 ht with rfl | ht
    · exact .refl _
    · exact .trans (.go hs h) (ih (after_r z hs h).1 t ht)
theorem Walk.last {g : Grid} {s : Nat × Nat} {L : List (Nat × Nat)} {e : Nat} (h : Walk g s L e) : ∃ t ∈ L, afterN g t = .inl e := by
  induction h with
  | @out s e h => exact ⟨s, by simp, h⟩
  | on h k ih =>
    obtain ⟨t, h1, h2⟩ := ih
    exact ⟨t, List.mem_cons_of_mem _ h1, h2⟩
theorem Walk.pred {g : Grid} {s : Nat × Nat} {L : List (Nat × Nat)} {e : Nat} (h : Walk g s L e) : ∀ t ∈ L, t = s ∨ ∃ u ∈ L, afterN g u = .inr t := by
  induction h with
  | out h => exact fun t ht => .inl (List.mem_singleton.1 ht)
  | @on s s' L e h k ih =>
    intro t ht
    rcases List.mem_cons.1 ht with rfl | ht
    · exact .inl rfl
    · rcases ih t ht with rfl | ⟨u, hu, he⟩
      · exact .inr ⟨s, by simp, h⟩
      · exact .inr ⟨u, List.mem_cons_of_mem _ hu, he⟩
theorem Walk.endAt {g : Grid} {s : Nat × Nat} {L : List (Nat × Nat)} {e : Nat} (h : Walk g s L e) : ∀ {t q}, t ∈ L → afterN g t = .inl q → q = e := by
  induction h with
  | out h =>
    intro t q ht hq
    rw [List.mem_singleton.1 ht, h] at hq
    exact (Sum.inl.inj hq).symm
  | on h k ih =>
    intro t q ht hq
    rcases List.mem_cons.1 ht with rfl | ht
    · rw [h] at hq; cases hq
    · exact ih ht hq
theorem enter_inj {g : Grid} (z : Sz g) {p q : Nat} (hp : p < ports g) (hq : q < ports g) (h : enterN (nR g) (nC g) p = enterN (nR g) (nC g) q) : p = q := by
  have h1 := rev_enter z hp
  have h2 := rev_enter z hq
  rw [h, h2] at h1
  exact (Sum.inl.inj h1).symm
end Go.Proofs.Ytmlkabddhdkpaaa

/- Two grids glued: ways and rounds of the whole are told by the partners of the ports of both. -/
namespace Go.Proofs.Ytmlkabddhdkpaaa
set_option maxRecDepth 100000
set_option linter.unusedSimpArgs false
set_option linter.unusedVariables false

/-- two grids in one: how their steps stand in it, which ports meet, and the names of the others -/
structure GD where
  G : Grid
  gs : Bool → Grid
  em : Bool → Nat × Nat → Nat × Nat
  isM : Nat → Bool
  mt : Nat → Nat
  nm : Nat → Nat
namespace GD
variable (D : GD)
abbrev pn (b : Bool) : Nat := ports (D.gs b)
def P : Nat := D.pn false
def T : Nat := D.pn false + D.pn true
def bs : Bool → Nat
  | false => 0
  | true => D.pn false
def sd (c : Nat) : Bool := decide (D.pn false ≤ c)
def pt (c : Nat) : Nat := c - D.bs (D.sd c)
def ea (b : Bool) (p : Nat) : Nat × Nat := D.em b (enterN (nR (D.gs b)) (nC (D.gs b)) p)
/-- the first step of a port -/
def ent (c : Nat) : Nat × Nat := D.ea (D.sd c) (D.pt c)
/-- its partner -/
def nxt (c : Nat) : Nat := D.bs (D.sd c) + (way (D.gs (D.sd c)) (D.pt c)).2
def wy (c : Nat) : List (Nat × Nat) := (way (D.gs (D.sd c)) (D.pt c)).1.map (D.em (D.sd c))
/-- well glued -/
structure W : Prop where
  zG : Sz D.G
  z : ∀ b, Sz (D.gs b)
  ok : ∀ b s, Ok (D.gs b) s → Ok D.G (D.em b s)
  inj : ∀ b b' s s', Ok (D.gs b) s → Ok (D.gs b') s' → D.em b s = D.em b' s' → b = b' ∧ s = s'
  surj : ∀ s, Ok D.G s → ∃ b s', Ok (D.gs b) s' ∧ D.em b s' = s
  go : ∀ b s s', Ok (D.gs b) s → afterN (D.gs b) s = .inr s' → afterN D.G (D.em b s) = .inr (D.em b s')
  out : ∀ b s p, Ok (D.gs b) s → afterN (D.gs b) s = .inl p → afterN D.G (D.em b s) = if D.isM (D.bs b + p) = true then .inr (D.ent (D.mt (D.bs b + p))) else .inl (D.nm (D.bs b + p))
  rev : ∀ b s, Ok (D.gs b) s → Go.Proofs.Ytmlkabddhdkpaaa.rev D.G (D.em b s) = D.em b (Go.Proofs.Ytmlkabddhdkpaaa.rev (D.gs b) s)
  mtM : ∀ c, c < D.T → D.isM c = true → D.mt c < D.T ∧ D.isM (D.mt c) = true ∧ D.mt (D.mt c) = c ∧ D.mt c ≠ c
  nmO : ∀ c, c < D.T → D.isM c = false → D.nm c < ports D.G ∧ D.ent c = enterN (nR D.G) (nC D.G) (D.nm c)
  nmS : ∀ p, p < ports D.G → ∃ c, c < D.T ∧ D.isM c = false ∧ D.nm c = p
variable {D}
theorem sd_bs {b : Bool} {p : Nat} (hp : p < D.pn b) : D.sd (D.bs b + p) = b ∧ D.pt (D.bs b + p) = p := by
  have h : D.sd (D.bs b + p) = b := by
    cases b with
    | false => exact decide_eq_false (by show ¬ D.pn false ≤ 0 + p; omega)
    | true => exact decide_eq_true (by show D.pn false ≤ D.pn false + p; omega)
  refine ⟨h, ?_⟩
  unfold pt
  rw [h]; omega
theorem sd_pt {c : Nat} (hc : c < D.T) : D.pt c < D.pn (D.sd c) ∧ D.bs (D.sd c) + D.pt c = c := by
  unfold T at hc
  unfold pt
  cases h : D.sd c with
  | false =>
    simp only [sd, decide_eq_false_iff_not] at h
    simp only [bs]
    constructor <;> omega
  | true =>
    simp only [sd, decide_eq_true_eq] at h
    simp only [bs]
    constructor <;> omega
theorem bs_lt {b : Bool} {p : Nat} (hp : p < D.pn b) : D.bs b + p < D.T := by
  unfold T
  cases b with
  | false => simp only [bs]; omega
  | true => simp only [bs]; omega
theorem cnt_ind {Q : Nat → Prop} (h : ∀ b p, p < D.pn b → Q (D.bs b + p)) : ∀ c, c < D.T → Q c := fun c hc => by
  obtain ⟨h1, h2⟩ := sd_pt hc
  have := h _ _ h1
  rwa [h2] at this
theorem ent_bs {b : Bool} {p : Nat} (hp : p < D.pn b) : D.ent (D.bs b + p) = D.ea b p := by
  obtain ⟨h1, h2⟩ := sd_bs hp
  unfold ent; rw [h1, h2]
theorem nxt_bs {b : Bool} {p : Nat} (hp : p < D.pn b) : D.nxt (D.bs b + p) = D.bs b + (way (D.gs b) p).2 := by
  obtain ⟨h1, h2⟩ := sd_bs hp
  unfold nxt; rw [h1, h2]
theorem wy_bs {b : Bool} {p : Nat} (hp : p < D.pn b) : D.wy (D.bs b + p) = (way (D.gs b) p).1.map (D.em b) := by
  obtain ⟨h1, h2⟩ := sd_bs hp
  unfold wy; rw [h1, h2]
theorem nxt_ok (w : D.W) : ∀ c, c < D.T → D.nxt c < D.T ∧ D.nxt (D.nxt c) = c ∧ D.nxt c ≠ c := cnt_ind fun b p hp => by
  have he := way_end (w.z b) hp
  have hb := way_back (w.z b) hp
  rw [nxt_bs hp]
  refine ⟨bs_lt he, by rw [nxt_bs he, hb], fun e => ?_⟩
  exact way_ne (w.z b) hp (by omega)
theorem cn_em (w : D.W) {b : Bool} {s t : Nat × Nat} (h : Cn (D.gs b) s t) : Cn D.G (D.em b s) (D.em b t) := by
  induction h with
  | refl s => exact .refl _
  | go h e => exact .go (w.ok b _ h) (w.go b _ _ h e)
  | turn h => rw [← w.rev b _ h]; exact .turn (w.ok b _ h)
  | symm k ih => exact ih.symm
  | trans k l ih1 ih2 => exact ih1.trans ih2
/-- a first step stands on one way alone, at its beginning -/
theorem ent_in (w : D.W) : ∀ c, c < D.T → ∀ y, y < D.T → D.ent c ∈ D.wy y → c = y := by
  refine cnt_ind fun b p hp => cnt_ind fun b' p' hp' => fun h => ?_
  rw [ent_bs hp, wy_bs hp'] at h
  obtain ⟨u, hu, he⟩ := List.mem_map.1 h
  have hw := way_walk (w.z b') hp'
  have hok := hw.okAll (w.z b') (enter_ok (w.z b') hp') u hu
  obtain ⟨rfl, rfl⟩ := w.inj b' b u _ hok (enter_ok (w.z b) hp) he
  rcases hw.pred _ hu with h1 | ⟨v, hv, hve⟩
  · rw [enter_inj (w.z b') hp hp' h1]
  · exact absurd hve (no_before (w.z b') hp (hw.okAll (w.z b') (enter_ok (w.z b') hp') v hv))
theorem ent_mem (w : D.W) : ∀ c, c < D.T → D.ent c ∈ D.wy c := cnt_ind fun b p hp => by
  rw [ent_bs hp, wy_bs hp]
  obtain ⟨M, hM⟩ := (way_walk (w.z b) hp).head
  rw [hM]
  exact List.mem_map_of_mem (List.mem_cons_self ..)
theorem wy_pos (w : D.W) {c : Nat} (hc : c < D.T) : 0 < (D.wy c).length := List.length_pos_of_mem (ent_mem w c hc)
theorem wy_ok (w : D.W) : ∀ c, c < D.T → ∀ t ∈ D.wy c, Ok D.G t := cnt_ind fun b p hp t ht => by
  rw [wy_bs hp] at ht
  obtain ⟨u, hu, rfl⟩ := List.mem_map.1 ht
  exact w.ok b u ((way_walk (w.z b) hp).okAll (w.z b) (enter_ok (w.z b) hp) u hu)
theorem ent_ok (w : D.W) {c : Nat} (hc : c < D.T) : Ok D.G (D.ent c) := wy_ok w c hc _ (ent_mem w c hc)
theorem wy_cn (w : D.W) : ∀ c, c < D.T → ∀ t ∈ D.wy c, Cn D.G (D.ent c) t := cnt_ind fun b p hp t ht => by
  rw [wy_bs hp] at ht
  obtain ⟨u, hu, rfl⟩ := List.mem_map.1 ht
  rw [ent_bs hp]
  exact cn_em w ((way_walk (w.z b) hp).cnAll (w.z b) (enter_ok (w.z b) hp) u hu)
/-- the last step of a way: turned round it is the partner's first; it leads out, or to the port that meets the partner -/
theorem wy_last (w : D.W) : ∀ c, c < D.T → ∃ t ∈ D.wy c, rev D.G t = D.ent (D.nxt c) ∧ afterN D.G t = if D.isM (D.nxt c) = true then .inr (D.ent (D.mt (D.nxt c))) else .inl (D.nm (D.nxt c)) := cnt_ind fun b p hp => by
  have hw := way_walk (w.z b) hp
  obtain ⟨t, ht, he⟩ := hw.last
  have hok := hw.okAll (w.z b) (enter_ok (w.z b) hp) t ht
  have hend := way_end (w.z b) hp
  rw [wy_bs hp, nxt_bs hp, ent_bs hend]
  refine ⟨D.em b t, List.mem_map_of_mem ht, ?_, w.out b t _ hok he⟩
  rw [w.rev b t hok, ← (after_l (w.z b) hok he).2]
  rfl
theorem wy_back (w : D.W) : ∀ c, c < D.T → ∀ t ∈ D.wy c, rev D.G t ∈ D.wy (D.nxt c) := cnt_ind fun b p hp t ht => by
  have hend := way_end (w.z b) hp
  rw [wy_bs hp] at ht
  obtain ⟨u, hu, rfl⟩ := List.mem_map.1 ht
  have hok := (way_walk (w.z b) hp).okAll (w.z b) (enter_ok (w.z b) hp) u hu
  rw [nxt_bs hp, wy_bs hend, way_back (w.z b) hp, w.rev b u hok]
  exact List.mem_map_of_mem (List.mem_reverse.2 (List.mem_map_of_mem hu))
theorem cn_nxt (w : D.W) {c : Nat} (hc : c < D.T) : Cn D.G (D.ent c) (D.ent (D.nxt c)) := by
  obtain ⟨t, ht, h1, _⟩ := wy_last w c hc
  rw [← h1]
  exact .trans (wy_cn w c hc t ht) (.turn (wy_ok w c hc t ht))
theorem cn_mt (w : D.W) {c : Nat} (hc : c < D.T) (hm : D.isM c = true) : Cn D.G (D.ent c) (D.ent (D.mt c)) := by
  obtain ⟨n1, n2, _⟩ := nxt_ok w c hc
  obtain ⟨t, ht, h1, h2⟩ := wy_last w _ n1
  rw [n2, if_pos hm] at h2
  rw [n2] at h1
  have hok := wy_ok w _ n1 t ht
  rw [← h1]
  exact .trans (.symm (.turn hok)) (.go hok h2)
/-- a step within a way: the next one is on it too, or the way ends there -/
theorem wy_next (w : D.W) : ∀ c, c < D.T → ∀ t ∈ D.wy c, ∀ t', afterN D.G t = .inr t' → t' ∈ D.wy c ∨ (D.isM (D.nxt c) = true ∧ t' = D.ent (D.mt (D.nxt c))) := cnt_ind fun b p hp t ht t' ha => by
  have hw := way_walk (w.z b) hp
  rw [wy_bs hp] at ht ⊢
  obtain ⟨u, hu, rfl⟩ := List.mem_map.1 ht
  have hok := hw.okAll (w.z b) (enter_ok (w.z b) hp) u hu
  cases e : afterN (D.gs b) u with
  | inr u' =>
    rw [w.go b u u' hok e] at ha
    exact .inl (by rw [← Sum.inr.inj ha]; exact List.mem_map_of_mem (hw.next hu e))
  | inl q =>
    -- the walk ends at u, so q is the partner
    have hq : q = (way (D.gs b) p).2 := hw.endAt hu e
    rw [w.out b u q hok e] at ha
    rw [nxt_bs hp, ← hq]
    split at ha
    · next hm => exact .inr ⟨hm, (Sum.inr.inj ha).symm⟩
    · cases ha
end GD
end Go.Proofs.Ytmlkabddhdkpaaa

/- Two grids glued: how the reference's joining finds partners and rounds of the whole. -/
namespace Go.Proofs.Ytmlkabddhdkpaaa
set_option maxRecDepth 100000
set_option linter.unusedSimpArgs false
set_option linter.unusedVariables false
namespace GD
variable {D : GD}
theorem seg (w : D.W) {b : Bool} {s : Nat × Nat} {L0 : List (Nat × Nat)} {p : Nat} (h : Walk (D.gs b) s L0 p) : Ok (D.gs b) s → ∀ L e, Walk D.G (D.em b s) L e →
    (D.isM (D.bs b + p) = true → ∃ L', L = L0.map (D.em b) ++ L' ∧ Walk D.G (D.ent (D.mt (D.bs b + p))) L' e) ∧ (D.isM (D.bs b + p) = false → L = L0.map (D.em b) ∧ e = D.nm (D.bs b + p)) := by
  induction h with
  | @out s p h =>
    intro hs L e k
    have ho := w.out b s p hs h
    cases k with
    | out h2 =>
      rw [h2] at ho
      by_cases hm : D.isM (D.bs b + p) = true
      · rw [if_pos hm] at ho; cases ho
      · rw [if_neg hm] at ho
        exact ⟨fun e => absurd e hm, fun _ => ⟨rfl, Sum.inl.inj ho⟩⟩
    | on h2 k2 =>
      rw [h2] at ho
      by_cases hm : D.isM (D.bs b + p) = true
      · rw [if_pos hm] at ho
        exact ⟨fun _ => ⟨_, rfl, by rw [← Sum.inr.inj ho]; exact k2⟩, fun e => by rw [e] at hm; cases hm⟩
      · rw [if_neg hm] at ho; cases ho
  | @on s s' L0 p h k0 ih =>
    intro hs L e k
    have hg := w.go b s s' hs h
    cases k with
    | out h2 => rw [h2] at hg; cases hg
    | on h2 k2 =>
      rw [h2] at hg
      have := Sum.inr.inj hg
      subst this
      obtain ⟨i1, i2⟩ := ih (after_r (w.z b) hs h).1 _ _ k2
      refine ⟨fun hm => ?_, fun hm => ?_⟩
      · obtain ⟨L', h3, h4⟩ := i1 hm
        exact ⟨L', by rw [h3]; rfl, h4⟩
      · obtain ⟨h3, h4⟩ := i2 hm
        exact ⟨by rw [h3]; rfl, h4⟩
theorem split (w : D.W) : ∀ c, c < D.T → ∀ L e, Walk D.G (D.ent c) L e →
    (D.isM (D.nxt c) = true → ∃ L', L = D.wy c ++ L' ∧ Walk D.G (D.ent (D.mt (D.nxt c))) L' e) ∧ (D.isM (D.nxt c) = false → L = D.wy c ∧ e = D.nm (D.nxt c)) := cnt_ind fun b p hp L e k => by
  rw [ent_bs hp] at k
  rw [nxt_bs hp, wy_bs hp]
  exact seg w (way_walk (w.z b) hp) (enter_ok (w.z b) hp) L e k
theorem onB (w : D.W) {s t : Nat × Nat} (h : Cn D.G s t) : OnBeam D.G s ↔ OnBeam D.G t := h.mem w.zG (beam_cl w.zG)
theorem outer_on (w : D.W) {c : Nat} (hc : c < D.T) (hm : D.isM c = false) : OnBeam D.G (D.ent c) := by
  obtain ⟨h1, h2⟩ := w.nmO c hc hm
  refine ⟨D.nm c, h1, ?_⟩
  rw [h2]
  obtain ⟨M, hM⟩ := (way_walk w.zG h1).head
  rw [hM]; exact List.mem_cons_self ..
theorem off_M (w : D.W) {c : Nat} (hc : c < D.T) (ho : ¬ OnBeam D.G (D.ent c)) : D.isM (D.nxt c) = true := by
  cases h : D.isM (D.nxt c) with
  | true => rfl
  | false => exact absurd ((onB w (cn_nxt w hc)).2 (outer_on w (nxt_ok w c hc).1 h)) ho

/-! the partners of the whole -/
/-- a beam from c0 is followed; it has come to the port y, L is the rest; S tells the ports that are marked -/
structure FI (D : GD) (S : Nat → Bool) (c0 y : Nat) (L : List (Nat × Nat)) : Prop where
  yT : y < D.T
  wk : Walk D.G (D.ent y) L (way D.G (D.nm c0)).2
  on : OnBeam D.G (D.ent y)
  sn : ∀ c, c < D.T → D.isM c = true → D.ent c ∈ (way D.G (D.nm c0)).1 → S c = true ∨ D.ent c ∈ L
  ym : D.isM y = true → S y = true
theorem FI.start (w : D.W) {S : Nat → Bool} {c0 : Nat} (hc : c0 < D.T) (hm : D.isM c0 = false) : FI D S c0 c0 (way D.G (D.nm c0)).1 := by
  obtain ⟨h1, h2⟩ := w.nmO c0 hc hm
  exact ⟨hc, by rw [h2]; exact way_walk w.zG h1, outer_on w hc hm, fun c _ _ h => .inr h, fun e => by rw [hm] at e; cases e⟩
theorem FI.step (w : D.W) {S S' : Nat → Bool} {c0 y : Nat} {L : List (Nat × Nat)} (h : FI D S c0 y L) (hm : D.isM (D.nxt y) = true) (hs : ∀ c, S c = true → S' c = true) (hx : S' (D.mt (D.nxt y)) = true) :
    ∃ L', L'.length < L.length ∧ FI D S' c0 (D.mt (D.nxt y)) L' := by
  obtain ⟨L', h1, h2⟩ := (split w y h.yT L _ h.wk).1 hm
  obtain ⟨n1, n2, _⟩ := nxt_ok w y h.yT
  obtain ⟨m1, m2, _⟩ := w.mtM _ n1 hm
  have hp := wy_pos w h.yT
  refine ⟨L', by rw [h1, List.length_append]; omega, m1, h2, (onB w ((cn_nxt w h.yT).trans (cn_mt w n1 hm))).1 h.on, fun c hc hcm hw => ?_, fun _ => hx⟩
  rcases h.sn c hc hcm hw with h3 | h3
  · exact .inl (hs c h3)
  · rw [h1] at h3
    rcases List.mem_append.1 h3 with h4 | h4
    · have := ent_in w c hc y h.yT h4
      subst this
      exact .inl (hs c (h.ym hcm))
    · exact .inr h4
theorem FI.done (w : D.W) {S : Nat → Bool} {c0 y : Nat} {L : List (Nat × Nat)} (h : FI D S c0 y L) (hm : D.isM (D.nxt y) = false) :
    (way D.G (D.nm c0)).2 = D.nm (D.nxt y) ∧ ∀ c, c < D.T → D.isM c = true → D.ent c ∈ (way D.G (D.nm c0)).1 → S c = true := by
  obtain ⟨h1, h2⟩ := (split w y h.yT L _ h.wk).2 hm
  refine ⟨h2, fun c hc hcm hw => ?_⟩
  rcases h.sn c hc hcm hw with h3 | h3
  · exact h3
  · rw [h1] at h3
    have := ent_in w c hc y h.yT h3
    subst this
    exact h.ym hcm
/-- what is marked after the beams of the outer ports below i -/
structure BI (D : GD) (S : Nat → Bool) (i : Nat) : Prop where
  a : ∀ c, S c = true → c < D.T ∧ D.isM c = true ∧ OnBeam D.G (D.ent c)
  p : ∀ c0, c0 < i → c0 < D.T → D.isM c0 = false → ∀ c, c < D.T → D.isM c = true → D.ent c ∈ (way D.G (D.nm c0)).1 → S c = true
theorem BI.start (D : GD) : BI D (fun _ => false) 0 := ⟨fun c h => (by cases h), fun c0 h => (by omega)⟩
theorem BI.mono {S S' : Nat → Bool} {i : Nat} (h : BI D S i) (hs : ∀ c, S c = true → S' c = true) (ha : ∀ c, S' c = true → c < D.T ∧ D.isM c = true ∧ OnBeam D.G (D.ent c)) : BI D S' i := ⟨ha, fun c0 h1 h2 h3 c h4 h5 h6 => hs c (h.p c0 h1 h2 h3 c h4 h5 h6)⟩
theorem FI.marks (w : D.W) {S : Nat → Bool} {c0 y : Nat} {L : List (Nat × Nat)} (h : FI D S c0 y L) (hm : D.isM (D.nxt y) = true) :
    (D.nxt y < D.T ∧ OnBeam D.G (D.ent (D.nxt y))) ∧ D.mt (D.nxt y) < D.T ∧ D.isM (D.mt (D.nxt y)) = true ∧ OnBeam D.G (D.ent (D.mt (D.nxt y))) := by
  obtain ⟨n1, n2, _⟩ := nxt_ok w y h.yT
  obtain ⟨m1, m2, _⟩ := w.mtM _ n1 hm
  exact ⟨⟨n1, (onB w (cn_nxt w h.yT)).1 h.on⟩, m1, m2, (onB w ((cn_nxt w h.yT).trans (cn_mt w n1 hm))).1 h.on⟩
theorem BI.next {S : Nat → Bool} {i : Nat} (h : BI D S i) (hn : D.isM i = false → ∀ c, c < D.T → D.isM c = true → D.ent c ∈ (way D.G (D.nm i)).1 → S c = true) : BI D S (i + 1) := ⟨h.a, fun c0 h1 h2 h3 c h4 h5 h6 => by
  rcases Nat.lt_succ_iff_lt_or_eq.1 h1 with h7 | h7
  · exact h.p c0 h7 h2 h3 c h4 h5 h6
  · subst h7; exact hn h3 c h4 h5 h6⟩

/-! the rounds that come -/
structure SI2 (D : GD) (S : Nat → Bool) (R : List Nat) (i : Nat) : Prop where
  a : ∀ c, S c = true → c < D.T ∧ D.isM c = true
  b : ∀ c, S c = true → S (D.mt c) = true ∧ (D.isM (D.nxt c) = true → S (D.nxt c) = true)
  c : ∀ c, c < D.T → D.isM c = true → OnBeam D.G (D.ent c) → S c = true
  d : ∀ r ∈ R, S r = true ∧ ¬ OnBeam D.G (D.ent r)
  e : R.Pairwise fun r r' => ¬ Cn D.G (D.ent r) (D.ent r')
  f : ∀ c, S c = true → OnBeam D.G (D.ent c) ∨ ∃ r ∈ R, Cn D.G (D.ent c) (D.ent r)
  g : ∀ c, c < i → D.isM c = true → c < D.T → S c = true
theorem SI2.start (w : D.W) {S : Nat → Bool} (h : BI D S D.T) : SI2 D S [] 0 := by
  have hc : ∀ c, c < D.T → D.isM c = true → OnBeam D.G (D.ent c) → S c = true := fun c hc hm ho => by
    obtain ⟨p, hp, hin⟩ := ho
    obtain ⟨c0, h1, h2, rfl⟩ := w.nmS p hp
    exact h.p c0 h1 h1 h2 c hc hm hin
  refine ⟨fun c hs => ⟨(h.a c hs).1, (h.a c hs).2.1⟩, fun c hs => ?_, hc, by simp, List.Pairwise.nil, fun c hs => .inl (h.a c hs).2.2, fun c h => by omega⟩
  obtain ⟨h1, h2, h3⟩ := h.a c hs
  obtain ⟨m1, m2, _⟩ := w.mtM c h1 h2
  exact ⟨hc _ m1 m2 ((onB w (cn_mt w h1 h2)).1 h3), fun hn => hc _ (nxt_ok w c h1).1 hn ((onB w (cn_nxt w h1)).1 h3)⟩
theorem SI2.skip {S : Nat → Bool} {R : List Nat} {i : Nat} (h : SI2 D S R i) (hi : D.isM i = false ∨ S i = true) : SI2 D S R (i + 1) := ⟨h.a, h.b, h.c, h.d, h.e, h.f, fun c h1 h2 h3 => by
  rcases Nat.lt_succ_iff_lt_or_eq.1 h1 with h4 | h4
  · exact h.g c h4 h2 h3
  · subst h4
    rcases hi with hi | hi
    · rw [hi] at h2; cases h2
    · exact hi⟩
/-- ports of marked rounds are joined to marked ones alone -/
theorem SI2.cl (w : D.W) {S : Nat → Bool} {R : List Nat} {i : Nat} (h : SI2 D S R i) : Cl D.G fun t => ∃ c, c < D.T ∧ (S c = true ∨ D.isM c = false) ∧ t ∈ D.wy c := by
  have key : ∀ c, c < D.T → (S c = true ∨ D.isM c = false) → (D.isM (D.nxt c) = true → S (D.nxt c) = true) := fun c hc hs hm => by
    rcases hs with hs | hs
    · exact (h.b c hs).2 hm
    · exact h.c _ (nxt_ok w c hc).1 hm ((onB w (cn_nxt w hc)).1 (outer_on w hc hs))
  refine ⟨fun s t _ hC ha => ?_, fun s _ hC => ?_⟩
  · obtain ⟨c, hc, hs, hin⟩ := hC
    rcases wy_next w c hc s hin t ha with h1 | ⟨h1, rfl⟩
    · exact ⟨c, hc, hs, h1⟩
    · have h2 := key c hc hs h1
      have h3 := (h.b _ h2).1
      have h4 := (h.a _ h3).1
      exact ⟨_, h4, .inl h3, ent_mem w _ h4⟩
  · obtain ⟨c, hc, hs, hin⟩ := hC
    refine ⟨D.nxt c, (nxt_ok w c hc).1, ?_, wy_back w c hc s hin⟩
    cases hm : D.isM (D.nxt c) with
    | false => exact .inr rfl
    | true => exact .inl (key c hc hs hm)
theorem SI2.fresh (w : D.W) {S : Nat → Bool} {R : List Nat} {i : Nat} (h : SI2 D S R i) (hi : i < D.T) (hm : D.isM i = true) (hs : S i = false) : ∀ r ∈ R, ¬ Cn D.G (D.ent i) (D.ent r) := fun r hr k => by
  have h1 := (h.d r hr).1
  have h2 := (h.a r h1).1
  obtain ⟨c, hc, hsc, hin⟩ := (k.mem w.zG (h.cl w)).2 ⟨r, h2, .inl h1, ent_mem w r h2⟩
  have := ent_in w i hi c hc hin
  subst this
  rcases hsc with h3 | h3
  · rw [hs] at h3; cases h3
  · rw [hm] at h3; cases h3
/-- one round is gone over: it began at i and has come to x -/
structure LI (D : GD) (S0 S : Nat → Bool) (i x : Nat) : Prop where
  sub : ∀ c, S0 c = true → S c = true
  a : ∀ c, S c = true → c < D.T ∧ D.isM c = true
  n : ∀ c, S c = true → D.isM (D.nxt c) = true → S (D.nxt c) = true
  m : ∀ c, S c = true → c ≠ i → S (D.mt c) = true ∨ D.mt c = x
  xT : x < D.T ∧ D.isM x = true ∧ Cn D.G (D.ent i) (D.ent x)
  mx : S (D.mt x) = true ∨ (x = i ∧ S i = false)
  g : S x = false ∨ x = i
  f : ∀ c, S c = true → S0 c = true ∨ Cn D.G (D.ent i) (D.ent c)
theorem LI.start {S : Nat → Bool} {R : List Nat} {i : Nat} (h : SI2 D S R i) (hi : i < D.T) (hm : D.isM i = true) (hs : S i = false) : LI D S S i i :=
  ⟨fun _ h => h, h.a, fun c h1 h2 => (h.b c h1).2 h2, fun c h1 _ => .inl (h.b c h1).1, ⟨hi, hm, .refl _⟩, .inr ⟨rfl, hs⟩, .inr rfl, fun c h => .inl h⟩
theorem LI.step (w : D.W) {S0 S S' : Nat → Bool} {i x : Nat} (h : LI D S0 S i x) (ho : ¬ OnBeam D.G (D.ent i)) (hx : S x = false) (hS : ∀ c, S' c = true ↔ S c = true ∨ c = x ∨ c = D.nxt x) :
    (D.nxt x < D.T ∧ D.isM (D.nxt x) = true) ∧ LI D S0 S' i (D.mt (D.nxt x)) := by
  obtain ⟨x1, x2, x3⟩ := h.xT
  obtain ⟨n1, n2, n3⟩ := nxt_ok w x x1
  have hox : ¬ OnBeam D.G (D.ent x) := fun e => ho ((onB w x3).2 e)
  have nm := off_M w x1 hox
  obtain ⟨m1, m2, m3, m4⟩ := w.mtM _ n1 nm
  have hSx : S' x = true := (hS x).2 (.inr (.inl rfl))
  have hSn : S' (D.nxt x) = true := (hS _).2 (.inr (.inr rfl))
  have hno : S (D.nxt x) = true → False := fun e => by
    have := h.n _ e (by rw [n2]; exact x2)
    rw [n2, hx] at this; cases this
  refine ⟨⟨n1, nm⟩, fun c hc => (hS c).2 (.inl (h.sub c hc)), fun c hc => ?_, fun c hc hn => ?_, fun c hc hi => ?_, ⟨m1, m2, x3.trans ((cn_nxt w x1).trans (cn_mt w n1 nm))⟩, .inl (by rw [m3]; exact hSn), ?_, fun c hc => ?_⟩
  · rcases (hS c).1 hc with h1 | rfl | rfl
    · exact h.a c h1
    · exact ⟨x1, x2⟩
    · exact ⟨n1, nm⟩
  · rcases (hS c).1 hc with h1 | rfl | rfl
    · exact (hS _).2 (.inl (h.n c h1 hn))
    · exact hSn
    · rw [n2]; exact hSx
  · rcases (hS c).1 hc with h1 | rfl | rfl
    · rcases h.m c h1 hi with h2 | h2
      · exact .inl ((hS _).2 (.inl h2))
      · exact .inl (by rw [h2]; exact hSx)
    · rcases h.mx with h2 | h2
      · exact .inl ((hS _).2 (.inl h2))
      · exact absurd h2.1 hi
    · exact .inr rfl
  · by_cases hxi : D.mt (D.nxt x) = i
    · exact .inr hxi
    · refine .inl ?_
      cases hq : S' (D.mt (D.nxt x)) with
      | false => rfl
      | true =>
        exfalso
        rcases (hS _).1 hq with h1 | h1 | h1
        · rcases h.m _ h1 hxi with h2 | h2
          · rw [m3] at h2; exact hno h2
          · rw [m3] at h2; exact n3 h2
        · have e : D.nxt x = D.mt x := by rw [← h1, m3]; exact congrArg D.nxt h1
          rcases h.mx with h2 | h2
          · rw [← e] at h2; exact hno h2
          · exact hxi (by rw [h1]; exact h2.1)
        · exact m4 h1
  · rcases (hS c).1 hc with h1 | rfl | rfl
    · exact h.f c h1
    · exact .inr x3
    · exact .inr (x3.trans (cn_nxt w x1))
theorem LI.done (w : D.W) {S0 S : Nat → Bool} {R : List Nat} {i x : Nat} (h0 : SI2 D S0 R i) (hi : i < D.T) (hm : D.isM i = true) (hs : S0 i = false) (h : LI D S0 S i x) (hx : S x = true) : SI2 D S (i :: R) (i + 1) := by
  have ho : ¬ OnBeam D.G (D.ent i) := fun e => by rw [h0.c i hi hm e] at hs; cases hs
  have hxi : x = i := by
    rcases h.g with h1 | h1
    · rw [hx] at h1; cases h1
    · exact h1
  subst hxi
  refine ⟨h.a, fun c hc => ⟨?_, h.n c hc⟩, fun c h1 h2 h3 => h.sub c (h0.c c h1 h2 h3), fun r hr => ?_, List.pairwise_cons.2 ⟨h0.fresh w hi hm hs, h0.e⟩, fun c hc => ?_, fun c h1 h2 h3 => ?_⟩
  · by_cases hci : c = x
    · subst hci
      rcases h.mx with h1 | h1
      · exact h1
      · rw [hx] at h1; cases h1.2
    · rcases h.m c hc hci with h1 | h1
      · exact h1
      · rw [h1]; exact hx
  · rcases List.mem_cons.1 hr with rfl | hr
    · exact ⟨hx, ho⟩
    · exact ⟨h.sub r (h0.d r hr).1, (h0.d r hr).2⟩
  · rcases h.f c hc with h1 | h1
    · rcases h0.f c h1 with h2 | ⟨r, hr, h2⟩
      · exact .inl h2
      · exact .inr ⟨r, List.mem_cons_of_mem _ hr, h2⟩
    · exact .inr ⟨x, by simp, h1.symm⟩
  · rcases Nat.lt_succ_iff_lt_or_eq.1 h1 with h4 | h4
    · exact h.sub c (h0.g c h4 h2 h3)
    · rw [h4]; exact hx
/-- the rounds of the whole: those of both, and those that come -/
theorem em_cl (w : D.W) {b : Bool} {r : Nat × Nat} (hr : Ok (D.gs b) r) (ho : ¬ OnBeam (D.gs b) r) : Cl D.G fun t => ∃ u, Ok (D.gs b) u ∧ Cn (D.gs b) r u ∧ t = D.em b u := by
  have hoff : ∀ u, Cn (D.gs b) r u → ¬ OnBeam (D.gs b) u := fun u k e => ho ((k.mem (w.z b) (beam_cl (w.z b))).2 e)
  refine ⟨fun s t _ hC ha => ?_, fun s _ hC => ?_⟩
  · obtain ⟨u, hu, k, rfl⟩ := hC
    cases e : afterN (D.gs b) u with
    | inl p => exact absurd (OnBeam.exit (w.z b) hu e) (hoff u k)
    | inr u' =>
      rw [w.go b u u' hu e] at ha
      exact ⟨u', (after_r (w.z b) hu e).1, k.trans (.go hu e), (Sum.inr.inj ha).symm⟩
  · obtain ⟨u, hu, k, rfl⟩ := hC
    exact ⟨_, hu.rev, k.trans (.turn hu), w.rev b u hu⟩
theorem em_off (w : D.W) {b : Bool} {r : Nat × Nat} (hr : Ok (D.gs b) r) (ho : ¬ OnBeam (D.gs b) r) : ¬ OnBeam D.G (D.em b r) := fun ⟨p, hp, hin⟩ => by
  have hw := way_walk w.zG hp
  have k := hw.cnAll w.zG (enter_ok w.zG hp) _ hin
  obtain ⟨u, hu, ku, he⟩ := (k.mem w.zG (em_cl w hr ho)).2 ⟨r, hr, .refl _, rfl⟩
  have hru := rev_enter w.zG hp
  rw [he, w.rev b u hu] at hru
  have hou : ¬ OnBeam (D.gs b) (rev (D.gs b) u) := fun e => ho (((ku.trans (.turn hu)).mem (w.z b) (beam_cl (w.z b))).2 e)
  cases e : afterN (D.gs b) (rev (D.gs b) u) with
  | inl p => exact hou (OnBeam.exit (w.z b) hu.rev e)
  | inr u' => rw [w.go b _ u' hu.rev e] at hru; cases hru
theorem glue (w : D.W) {S : Nat → Bool} {R : List Nat} (h : SI2 D S R D.T) : (rounds D.G).length = (rounds (D.gs false)).length + (rounds (D.gs true)).length + R.length := by
  obtain ⟨R0, t0, e0⟩ := rounds_tv (w.z false)
  obtain ⟨R1, t1, e1⟩ := rounds_tv (w.z true)
  have tb : ∀ b : Bool, ∃ Rb, Tv (D.gs b) Rb ∧ Rb = bif b then R1 else R0 := fun b => by cases b; exact ⟨R0, t0, rfl⟩; exact ⟨R1, t1, rfl⟩
  have hem : ∀ (b : Bool) (Rb : List (Nat × Nat)), Tv (D.gs b) Rb → (Rb.map (D.em b)).Pairwise fun r r' => ¬ Cn D.G r r' := fun b Rb tb => by
    rw [List.pairwise_map]
    refine (List.Pairwise.and_mem.1 tb.apart).imp fun {r r'} hrr k => ?_
    obtain ⟨hr, hr', hn⟩ := hrr
    obtain ⟨a1, a2⟩ := tb.off r hr
    obtain ⟨u, hu, ku, he⟩ := (k.mem w.zG (em_cl w a1 a2)).1 ⟨r, a1, .refl _, rfl⟩
    obtain ⟨_, rfl⟩ := w.inj b b r' u (tb.off r' hr').1 hu he
    exact hn ku
  have tv : Tv D.G (R0.map (D.em false) ++ R1.map (D.em true) ++ R.map D.ent) := by
    refine ⟨fun r hr => ?_, ?_, fun s hs ho => ?_⟩
    · rcases List.mem_append.1 hr with h1 | h1
      · rcases List.mem_append.1 h1 with h2 | h2
        · obtain ⟨u, hu, rfl⟩ := List.mem_map.1 h2
          exact ⟨w.ok _ u (t0.off u hu).1, em_off w (t0.off u hu).1 (t0.off u hu).2⟩
        · obtain ⟨u, hu, rfl⟩ := List.mem_map.1 h2
          exact ⟨w.ok _ u (t1.off u hu).1, em_off w (t1.off u hu).1 (t1.off u hu).2⟩
      · obtain ⟨c, hc, rfl⟩ := List.mem_map.1 h1
        exact ⟨ent_ok w (h.a c (h.d c hc).1).1, (h.d c hc).2⟩
    · have hcross : ∀ (b : Bool) (Rb : List (Nat × Nat)), Tv (D.gs b) Rb → ∀ r ∈ Rb.map (D.em b), ∀ c ∈ R.map D.ent, ¬ Cn D.G r c := fun b Rb tb r hr x hx k => by
        obtain ⟨u, hu, rfl⟩ := List.mem_map.1 hr
        obtain ⟨c, hc, rfl⟩ := List.mem_map.1 hx
        have hcT := (h.a c (h.d c hc).1).1
        obtain ⟨a1, a2⟩ := tb.off u hu
        obtain ⟨v, hv, kv, he⟩ := (k.mem w.zG (em_cl w a1 a2)).1 ⟨u, a1, .refl _, rfl⟩
        obtain ⟨q1, q2⟩ := sd_pt hcT
        obtain ⟨hb, he2⟩ := w.inj _ b _ v (enter_ok (w.z _) q1) hv he
        subst hb
        refine a2 ((kv.mem (w.z _) (beam_cl (w.z _))).2 ?_)
        rw [← he2]
        refine ⟨D.pt c, q1, ?_⟩
        obtain ⟨M, hM⟩ := (way_walk (w.z (D.sd c)) q1).head
        rw [hM]; exact List.mem_cons_self ..
      rw [List.pairwise_append, List.pairwise_append]
      refine ⟨⟨hem false R0 t0, hem true R1 t1, fun r hr x hx k => ?_⟩, ?_, fun r hr x hx => ?_⟩
      · obtain ⟨u, hu, rfl⟩ := List.mem_map.1 hr
        obtain ⟨v, hv, rfl⟩ := List.mem_map.1 hx
        obtain ⟨y, hy, _, he⟩ := (k.mem w.zG (em_cl w (t0.off u hu).1 (t0.off u hu).2)).1 ⟨u, (t0.off u hu).1, .refl _, rfl⟩
        have := (w.inj true false v y (t1.off v hv).1 hy he).1
        cases this
      · rw [List.pairwise_map]; exact h.e
      · rcases List.mem_append.1 hr with h1 | h1
        · exact hcross false R0 t0 r h1 x hx
        · exact hcross true R1 t1 r h1 x hx
    · obtain ⟨b, u, hu, rfl⟩ := w.surj s hs
      by_cases hub : OnBeam (D.gs b) u
      · obtain ⟨p, hp, hin⟩ := hub
        have hin2 : D.em b u ∈ D.wy (D.bs b + p) := by rw [wy_bs hp]; exact List.mem_map_of_mem hin
        have hcT := bs_lt (D := D) hp
        have k := wy_cn w _ hcT _ hin2
        have hoc : ¬ OnBeam D.G (D.ent (D.bs b + p)) := fun e => ho ((onB w k).1 e)
        have hmc : D.isM (D.bs b + p) = true := by
          cases e : D.isM (D.bs b + p) with
          | true => rfl
          | false => exact absurd (outer_on w hcT e) hoc
        rcases h.f _ (h.g _ hcT hmc hcT) with h1 | ⟨r, hr, h1⟩
        · exact absurd h1 hoc
        · exact ⟨D.ent r, List.mem_append.2 (.inr (List.mem_map_of_mem hr)), k.symm.trans h1⟩
      · obtain ⟨Rb, tvb, eb⟩ := tb b
        obtain ⟨r, hr, k⟩ := tvb.covers u hu hub
        refine ⟨D.em b r, ?_, cn_em w k⟩
        subst eb
        cases b with
        | false => exact List.mem_append.2 (.inl (List.mem_append.2 (.inl (List.mem_map_of_mem hr))))
        | true => exact List.mem_append.2 (.inl (List.mem_append.2 (.inr (List.mem_map_of_mem hr))))
  have hl := tv.rounds w.zG
  simp only [List.length_append, List.length_map] at hl
  omega
end GD
end Go.Proofs.Ytmlkabddhdkpaaa

/- Grids beside each other, as glued ones. -/
namespace Go.Proofs.Ytmlkabddhdkpaaa
set_option maxRecDepth 100000
set_option linter.unusedSimpArgs false
set_option linter.unusedVariables false
def emA (m k : Nat) (s : Nat × Nat) : Nat × Nat := (s.1 / m * (m + k) + s.1 % m, s.2)
def emB (m k : Nat) (s : Nat × Nat) : Nat × Nat := (s.1 / k * (m + k) + m + s.1 % k, s.2)
/-- ports that meet -/
def isMJ (n m k c : Nat) : Bool := (decide (m ≤ c) && decide (c < m + n)) || (decide (2 * n + 2 * m + (2 * k + n) ≤ c) && decide (c < 2 * n + 2 * m + (2 * n + 2 * k)))
def mtJ (n m k c : Nat) : Nat := 2 * n + 2 * m + (2 * n + 2 * k) + m - 1 - c
/-- names of the others -/
def nmJ (n m k c : Nat) : Nat := if c < m then c else if c < 2 * n + 2 * m then c + 2 * k else c - (2 * n + 2 * m) + m
def nmI (n m k p : Nat) : Nat := if p < m then p else if p < m + (2 * k + n) then p - m + (2 * n + 2 * m) else p - 2 * k
def entJ (n m k c : Nat) : Nat × Nat := if c < 2 * n + 2 * m then emA m k (enterN n m c) else emB m k (enterN n k (c - (2 * n + 2 * m)))
def goJ (n m k c0 : Nat) (f : Nat × Nat → Nat × Nat) (x : Sum Nat (Nat × Nat)) : Sum Nat (Nat × Nat) := match x with
  | .inr s => .inr (f s)
  | .inl p => if isMJ n m k (c0 + p) = true then .inr (entJ n m k (mtJ n m k (c0 + p))) else .inl (nmJ n m k (c0 + p))
def okJ (n m k : Nat) : Bool := decide (0 < n) && decide (0 < m) && decide (0 < k) && decide (m + k < 6)
theorem okJ_of {n m k : Nat} (h : 0 < n ∧ 0 < m ∧ 0 < k ∧ m + k < 6) {b : Bool} (hb : (!okJ n m k || b) = true) : b = true := by
  have e : okJ n m k = true := by simp [okJ, h.1, h.2.1, h.2.2.1, h.2.2.2]
  rw [e] at hb; exact hb
def chkJA (n m k cell : Nat) : Bool := decide ((emA m k (cell, 0)).1 < n * (m + k)) && decide ((emA m k (cell, 0)).1 / (m + k) = cell / m) && decide ((emA m k (cell, 0)).1 % (m + k) = cell % m) && decide (cell / m < n) && decide (cell % m < m) &&
  (List.range 4).all fun e => decide (goN n (m + k) (emA m k (cell, 0)).1 e = goJ n m k 0 (emA m k) (goN n m cell e))
def chkJB (n m k cell : Nat) : Bool := decide ((emB m k (cell, 0)).1 < n * (m + k)) && decide ((emB m k (cell, 0)).1 / (m + k) = cell / k) && decide ((emB m k (cell, 0)).1 % (m + k) = m + cell % k) && decide (cell / k < n) && decide (cell % k < k) &&
  (List.range 4).all fun e => decide (goN n (m + k) (emB m k (cell, 0)).1 e = goJ n m k (2 * n + 2 * m) (emB m k) (goN n k cell e))
def chkJS (n m k cell : Nat) : Bool := if cell % (m + k) < m then decide (cell / (m + k) * m + cell % (m + k) < n * m) && decide ((emA m k (cell / (m + k) * m + cell % (m + k), 0)).1 = cell)
  else decide (cell / (m + k) * k + (cell % (m + k) - m) < n * k) && decide ((emB m k (cell / (m + k) * k + (cell % (m + k) - m), 0)).1 = cell)
def chkJP (n m k c : Nat) : Bool := if isMJ n m k c = true then decide (mtJ n m k c < 2 * n + 2 * m + (2 * n + 2 * k)) && isMJ n m k (mtJ n m k c) && decide (mtJ n m k (mtJ n m k c) = c) && decide (mtJ n m k c ≠ c)
  else decide (nmJ n m k c < 2 * n + 2 * (m + k)) && decide (entJ n m k c = enterN n (m + k) (nmJ n m k c))
def chkJN (n m k p : Nat) : Bool := decide (nmI n m k p < 2 * n + 2 * m + (2 * n + 2 * k)) && !isMJ n m k (nmI n m k p) && decide (nmJ n m k (nmI n m k p) = p)
theorem allJA : ∀ n < 6, ∀ m < 6, ∀ k < 6, ∀ cell < n * m, (!okJ n m k || chkJA n m k cell) = true := by decide +kernel
theorem allJB : ∀ n < 6, ∀ m < 6, ∀ k < 6, ∀ cell < n * k, (!okJ n m k || chkJB n m k cell) = true := by decide +kernel
theorem allJS : ∀ n < 6, ∀ m < 6, ∀ k < 6, ∀ cell < n * (m + k), (!okJ n m k || chkJS n m k cell) = true := by decide +kernel
theorem allJP : ∀ n < 6, ∀ m < 6, ∀ k < 6, ∀ c < 2 * n + 2 * m + (2 * n + 2 * k), (!okJ n m k || chkJP n m k c) = true := by decide +kernel
theorem allJN : ∀ n < 6, ∀ m < 6, ∀ k < 6, ∀ p < 2 * n + 2 * (m + k), (!okJ n m k || chkJN n m k p) = true := by decide +kernel
def besD (g h : Grid) : GD where
  G := besideG g h
  gs := fun b => match b with | false => g | true => h
  em := fun b => match b with | false => emA (nC g) (nC h) | true => emB (nC g) (nC h)
  isM := isMJ (nR g) (nC g) (nC h)
  mt := mtJ (nR g) (nC g) (nC h)
  nm := nmJ (nR g) (nC g) (nC h)
/-- two grids that may stand beside each other -/
structure Bs (g h : Grid) : Prop where
  gk : GridOk g
  hk : GridOk h
  rr : nR g = nR h
  cc : nC g + nC h ≤ 5
section
variable {g h : Grid}
theorem Bs.hyps (b : Bs g h) : (nR g < 6 ∧ nC g < 6 ∧ nC h < 6) ∧ 0 < nR g ∧ 0 < nC g ∧ 0 < nC h ∧ nC g + nC h < 6 := by
  have := b.gk.n1; have := b.gk.n5; have := b.gk.m1; have := b.hk.m1; have := b.cc
  refine ⟨⟨?_, ?_, ?_⟩, ?_, ?_, ?_, ?_⟩ <;> dsimp only [nR, nC] at * <;> omega
theorem Bs.size (b : Bs g h) : GridOk (besideG g h) ∧ nR (besideG g h) = nR g ∧ nC (besideG g h) = nC g + nC h := besideG_ok b.gk b.hk b.rr b.cc
theorem Bs.A (b : Bs g h) {cell : Nat} (hc : cell < nR g * nC g) : chkJA (nR g) (nC g) (nC h) cell = true := by
  obtain ⟨⟨h1, h2, h3⟩, h4, h5, h6, h7⟩ := b.hyps
  exact okJ_of ⟨h4, h5, h6, h7⟩ (allJA _ h1 _ h2 _ h3 cell hc)
theorem Bs.B (b : Bs g h) {cell : Nat} (hc : cell < nR h * nC h) : chkJB (nR g) (nC g) (nC h) cell = true := by
  obtain ⟨⟨h1, h2, h3⟩, h4, h5, h6, h7⟩ := b.hyps
  exact okJ_of ⟨h4, h5, h6, h7⟩ (allJB _ h1 _ h2 _ h3 cell (by rw [b.rr]; exact hc))
theorem Bs.cellA (b : Bs g h) {cell : Nat} (hc : cell < nR g * nC g) : (emA (nC g) (nC h) (cell, 0)).1 < nR g * (nC g + nC h) ∧ (emA (nC g) (nC h) (cell, 0)).1 / (nC g + nC h) = cell / nC g ∧ (emA (nC g) (nC h) (cell, 0)).1 % (nC g + nC h) = cell % nC g ∧ cell / nC g < nR g ∧ cell % nC g < nC g ∧ ∀ e, e < 4 → goN (nR g) (nC g + nC h) (emA (nC g) (nC h) (cell, 0)).1 e = goJ (nR g) (nC g) (nC h) 0 (emA (nC g) (nC h)) (goN (nR g) (nC g) cell e) := by
  have h := b.A hc
  simp only [chkJA, Bool.and_eq_true, decide_eq_true_eq, List.all_eq_true, List.mem_range] at h
  exact ⟨h.1.1.1.1.1, h.1.1.1.1.2, h.1.1.1.2, h.1.1.2, h.1.2, h.2⟩
theorem Bs.cellB (b : Bs g h) {cell : Nat} (hc : cell < nR h * nC h) : (emB (nC g) (nC h) (cell, 0)).1 < nR g * (nC g + nC h) ∧ (emB (nC g) (nC h) (cell, 0)).1 / (nC g + nC h) = cell / nC h ∧ (emB (nC g) (nC h) (cell, 0)).1 % (nC g + nC h) = nC g + cell % nC h ∧ cell / nC h < nR g ∧ cell % nC h < nC h ∧ ∀ e, e < 4 → goN (nR g) (nC g + nC h) (emB (nC g) (nC h) (cell, 0)).1 e = goJ (nR g) (nC g) (nC h) (2 * nR g + 2 * nC g) (emB (nC g) (nC h)) (goN (nR g) (nC h) cell e) := by
  have h := b.B hc
  simp only [chkJB, Bool.and_eq_true, decide_eq_true_eq, List.all_eq_true, List.mem_range] at h
  exact ⟨h.1.1.1.1.1, h.1.1.1.1.2, h.1.1.1.2, h.1.1.2, h.1.2, h.2⟩
theorem Bs.letA (b : Bs g h) {cell : Nat} (hc : cell < nR g * nC g) : letter (besideG g h) (emA (nC g) (nC h) (cell, 0)).1 = letter g cell := by
  obtain ⟨_, h2, h3, h4, h5, _⟩ := b.cellA hc
  unfold letter
  rw [b.size.2.2, h2, h3]
  have := cl_beside (g := g) (h := h) b.gk (i := cell / nC g) (k := cell % nC g) h4
  unfold cl at this
  rw [this, if_pos h5]
theorem Bs.letB (b : Bs g h) {cell : Nat} (hc : cell < nR h * nC h) : letter (besideG g h) (emB (nC g) (nC h) (cell, 0)).1 = letter h cell := by
  obtain ⟨_, h2, h3, h4, h5, _⟩ := b.cellB hc
  unfold letter
  rw [b.size.2.2, h2, h3]
  have := cl_beside (g := g) (h := h) b.gk (i := cell / nC h) (k := nC g + cell % nC h) h4
  unfold cl at this
  rw [this, if_neg (by omega), Nat.add_sub_cancel_left]
theorem besD_ent (b : Bs g h) (c : Nat) : (besD g h).ent c = entJ (nR g) (nC g) (nC h) c := by
  unfold entJ GD.ent GD.ea GD.pt
  by_cases hc : c < 2 * nR g + 2 * nC g
  · have e : (besD g h).sd c = false := decide_eq_false (show ¬ (2 * nR g + 2 * nC g ≤ c) by omega)
    rw [e, if_pos hc]
    rfl
  · have e : (besD g h).sd c = true := decide_eq_true (show 2 * nR g + 2 * nC g ≤ c by omega)
    rw [e, if_neg hc]
    show emB (nC g) (nC h) (enterN (nR h) (nC h) _) = _
    rw [← b.rr]; rfl
theorem Bs.portP (b : Bs g h) {c : Nat} (hc : c < (besD g h).T) : chkJP (nR g) (nC g) (nC h) c = true := by
  obtain ⟨⟨h1, h2, h3⟩, h4, h5, h6, h7⟩ := b.hyps
  refine okJ_of ⟨h4, h5, h6, h7⟩ (allJP _ h1 _ h2 _ h3 c ?_)
  have e : (besD g h).T = 2 * nR g + 2 * nC g + (2 * nR h + 2 * nC h) := rfl
  rw [e] at hc
  rw [b.rr] at hc ⊢
  exact hc
theorem besD_T (b : Bs g h) : (besD g h).T = 2 * nR g + 2 * nC g + (2 * nR g + 2 * nC h) := by
  have e : (besD g h).T = 2 * nR g + 2 * nC g + (2 * nR h + 2 * nC h) := rfl
  rw [e, b.rr]
theorem emA_fst (m k : Nat) (s : Nat × Nat) : emA m k s = ((emA m k (s.1, 0)).1, s.2) := rfl
theorem emB_fst (m k : Nat) (s : Nat × Nat) : emB m k s = ((emB m k (s.1, 0)).1, s.2) := rfl
theorem Bs.W (b : Bs g h) : (besD g h).W := by
  obtain ⟨hG, hR, hC⟩ := b.size
  have hports : ports (besideG g h) = 2 * nR g + 2 * (nC g + nC h) := by unfold ports; rw [hR, hC]
  have aftA : ∀ s, Ok g s → afterN (besideG g h) (emA (nC g) (nC h) s) = goJ (nR g) (nC g) (nC h) 0 (emA (nC g) (nC h)) (afterN g s) := fun s hs => by
    obtain ⟨_, _, _, _, _, h6⟩ := b.cellA hs.cell
    unfold afterN
    rw [hR, hC, emA_fst]
    dsimp only
    rw [b.letA hs.cell, h6 _ (bend_lt _ _ hs.d)]
  have aftB : ∀ s, Ok h s → afterN (besideG g h) (emB (nC g) (nC h) s) = goJ (nR g) (nC g) (nC h) (2 * nR g + 2 * nC g) (emB (nC g) (nC h)) (afterN h s) := fun s hs => by
    obtain ⟨_, _, _, _, _, h6⟩ := b.cellB hs.cell
    unfold afterN
    rw [hR, hC, emB_fst]
    dsimp only
    rw [b.letB hs.cell, h6 _ (bend_lt _ _ hs.d), b.rr]
  have injA : ∀ s s', Ok g s → Ok g s' → emA (nC g) (nC h) s = emA (nC g) (nC h) s' → s = s' := fun s s' hs hs' e => by
    obtain ⟨_, a2, a3, _⟩ := b.cellA hs.cell
    obtain ⟨_, c2, c3, _⟩ := b.cellA hs'.cell
    have e1 : (emA (nC g) (nC h) (s.1, 0)).1 = (emA (nC g) (nC h) (s'.1, 0)).1 := by
      have e0 := congrArg Prod.fst e
      exact e0
    rw [e1, c2] at a2
    rw [e1, c3] at a3
    refine Prod.ext ?_ (by have e0 := congrArg Prod.snd e; exact e0)
    rw [← Nat.div_add_mod s.1 (nC g), ← Nat.div_add_mod s'.1 (nC g), a2, a3]
  have injB : ∀ s s', Ok h s → Ok h s' → emB (nC g) (nC h) s = emB (nC g) (nC h) s' → s = s' := fun s s' hs hs' e => by
    obtain ⟨_, a2, a3, _⟩ := b.cellB hs.cell
    obtain ⟨_, c2, c3, _⟩ := b.cellB hs'.cell
    have e1 : (emB (nC g) (nC h) (s.1, 0)).1 = (emB (nC g) (nC h) (s'.1, 0)).1 := by
      have e0 := congrArg Prod.fst e
      exact e0
    rw [e1, c2] at a2
    rw [e1, c3] at a3
    refine Prod.ext ?_ (by have e0 := congrArg Prod.snd e; exact e0)
    rw [← Nat.div_add_mod s.1 (nC h), ← Nat.div_add_mod s'.1 (nC h), a2, Nat.add_left_cancel a3]
  have crs : ∀ s s', Ok g s → Ok h s' → emA (nC g) (nC h) s ≠ emB (nC g) (nC h) s' := fun s s' hs hs' e => by
    obtain ⟨_, _, a3, _, a5, _⟩ := b.cellA hs.cell
    obtain ⟨_, _, c3, _⟩ := b.cellB hs'.cell
    have e1 : (emA (nC g) (nC h) (s.1, 0)).1 = (emB (nC g) (nC h) (s'.1, 0)).1 := by
      have e0 := congrArg Prod.fst e
      exact e0
    rw [e1, c3] at a3
    omega
  refine ⟨hG.sz, fun x => ?_, fun x s hs => ?_, fun x x' s s' hs hs' e => ?_, fun s hs => ?_, fun x s s' hs e => ?_, fun x s p hs e => ?_, fun x s hs => ?_, fun c hc hm => ?_, fun c hc hm => ?_, fun p hp => ?_⟩
  · cases x; exact b.gk.sz; exact b.hk.sz
  · cases x with
    | false => exact ⟨by show (emA (nC g) (nC h) (s.1, 0)).1 < nR (besideG g h) * nC (besideG g h); rw [hR, hC]; exact (b.cellA hs.cell).1, hs.d⟩
    | true => exact ⟨by show (emB (nC g) (nC h) (s.1, 0)).1 < nR (besideG g h) * nC (besideG g h); rw [hR, hC]; exact (b.cellB hs.cell).1, hs.d⟩
  · cases x with
    | false => cases x' with
      | false => exact ⟨rfl, injA s s' hs hs' e⟩
      | true => exact absurd e (crs s s' hs hs')
    | true => cases x' with
      | false => exact absurd e.symm (crs s' s hs' hs)
      | true => exact ⟨rfl, injB s s' hs hs' e⟩
  · obtain ⟨⟨h1, h2, h3⟩, h4, h5, h6, h7⟩ := b.hyps
    have hcell := hs.cell
    have hcell2 : s.1 < nR g * (nC g + nC h) := by rw [← hR, ← hC]; exact hcell
    have hk := okJ_of ⟨h4, h5, h6, h7⟩ (allJS _ h1 _ h2 _ h3 s.1 hcell2)
    unfold chkJS at hk
    by_cases hlt : s.1 % (nC g + nC h) < nC g
    · rw [if_pos hlt, Bool.and_eq_true, decide_eq_true_eq, decide_eq_true_eq] at hk
      exact ⟨false, (s.1 / (nC g + nC h) * nC g + s.1 % (nC g + nC h), s.2), ⟨hk.1, hs.d⟩, Prod.ext hk.2 rfl⟩
    · rw [if_neg hlt, Bool.and_eq_true, decide_eq_true_eq, decide_eq_true_eq] at hk
      exact ⟨true, (s.1 / (nC g + nC h) * nC h + (s.1 % (nC g + nC h) - nC g), s.2), ⟨by show _ < nR h * nC h; rw [← b.rr]; exact hk.1, hs.d⟩, Prod.ext hk.2 rfl⟩
  · cases x with
    | false =>
      have := aftA s hs
      rw [show afterN g s = _ from e] at this; exact this
    | true =>
      have := aftB s hs
      rw [show afterN h s = _ from e] at this; exact this
  · rw [besD_ent b]
    cases x with
    | false =>
      have := aftA s hs
      rw [show afterN g s = _ from e] at this; exact this
    | true =>
      have := aftB s hs
      rw [show afterN h s = _ from e] at this; exact this
  · cases x with
    | false =>
      show (_, rv (bend (letter (besideG g h) (emA (nC g) (nC h) (s.1, 0)).1) s.2)) = _
      rw [b.letA hs.cell]; rfl
    | true =>
      show (_, rv (bend (letter (besideG g h) (emB (nC g) (nC h) (s.1, 0)).1) s.2)) = _
      rw [b.letB hs.cell]; rfl
  · have hk := b.portP hc
    unfold chkJP at hk
    rw [if_pos (show isMJ (nR g) (nC g) (nC h) c = true from hm)] at hk
    simp only [Bool.and_eq_true, decide_eq_true_eq] at hk
    rw [besD_T b]
    exact ⟨hk.1.1.1, hk.1.1.2, hk.1.2, hk.2⟩
  · have hk := b.portP hc
    unfold chkJP at hk
    rw [if_neg (by rw [show isMJ (nR g) (nC g) (nC h) c = false from hm]; decide)] at hk
    simp only [Bool.and_eq_true, decide_eq_true_eq] at hk
    rw [besD_ent b]
    show nmJ _ _ _ c < ports (besideG g h) ∧ _ = enterN (nR (besideG g h)) (nC (besideG g h)) _
    rw [hports, hR, hC]
    exact hk
  · obtain ⟨⟨h1, h2, h3⟩, h4, h5, h6, h7⟩ := b.hyps
    have hp2 : p < ports (besideG g h) := hp
    rw [hports] at hp2
    have hk := okJ_of ⟨h4, h5, h6, h7⟩ (allJN _ h1 _ h2 _ h3 p hp2)
    simp only [chkJN, Bool.and_eq_true, decide_eq_true_eq, Bool.not_eq_true'] at hk
    exact ⟨nmI (nR g) (nC g) (nC h) p, by rw [besD_T b]; exact hk.1.1, hk.1.2, hk.2⟩
end
end Go.Proofs.Ytmlkabddhdkpaaa

/- Turned grids: ways, partners and rounds. -/
namespace Go.Proofs.Ytmlkabddhdkpaaa
set_option maxRecDepth 100000
set_option linter.unusedSimpArgs false
set_option linter.unusedVariables false
/-- a step of a turned grid -/
def tuS (n m : Nat) (s : Nat × Nat) : Nat × Nat := (s.1 % m * n + (n - 1 - s.1 / m), (s.2 + 1) % 4)
def tuI (n m : Nat) (s : Nat × Nat) : Nat × Nat := ((n - 1 - s.1 % n) * m + s.1 / n, (s.2 + 3) % 4)
def tuP (n m p : Nat) : Nat := (p + n) % (2 * n + 2 * m)
def tuX (n m : Nat) (x : Sum Nat (Nat × Nat)) : Sum Nat (Nat × Nat) := match x with
  | .inr s => .inr (tuS n m s)
  | .inl p => .inl (tuP n m p)
def chkT (n m cell : Nat) : Bool := decide ((tuS n m (cell, 0)).1 < m * n) && decide ((tuS n m (cell, 0)).1 / n = cell % m) && decide ((tuS n m (cell, 0)).1 % n = n - 1 - cell / m) && decide (cell / m < n) && decide (cell % m < m) && decide ((tuI n m (tuS n m (cell, 0))).1 = cell) &&
  (List.range 4).all fun e => decide (goN m n (tuS n m (cell, 0)).1 ((e + 1) % 4) = tuX n m (goN n m cell e))
def chkTI (n m cell : Nat) : Bool := decide ((tuI n m (cell, 0)).1 < n * m) && decide ((tuS n m ((tuI n m (cell, 0)).1, 0)).1 = cell)
def chkTP (n m p : Nat) : Bool := decide (tuP n m p < 2 * n + 2 * m) && decide (enterN m n (tuP n m p) = tuS n m (enterN n m p)) && decide (tuP n m ((p + n + 2 * m) % (2 * n + 2 * m)) = p)
theorem allT : ∀ n < 6, ∀ m < 6, ∀ cell < n * m, chkT n m cell = true := by decide +kernel
theorem allTI : ∀ n < 6, ∀ m < 6, ∀ cell < m * n, chkTI n m cell = true := by decide +kernel
theorem allTP : ∀ n < 6, ∀ m < 6, ∀ p < 2 * n + 2 * m, (decide (n = 0) || decide (m = 0) || chkTP n m p) = true := by decide +kernel
theorem bend_exch (c : UInt8) {d : Nat} (h : d < 4) : bend (exch c) ((d + 1) % 4) = (bend c d + 1) % 4 := by
  unfold bend exch
  obtain rfl | rfl | rfl | rfl : d = 0 ∨ d = 1 ∨ d = 2 ∨ d = 3 := by omega
  all_goals
    by_cases h1 : c = 114
    · simp [h1]
    · by_cases h2 : c = 102
      · simp [h2]
      · simp [h1, h2]
section
variable {g : Grid}
theorem tu_cell (h : GridOk g) {cell : Nat} (hc : cell < nR g * nC g) : (tuS (nR g) (nC g) (cell, 0)).1 < nC g * nR g ∧ (tuS (nR g) (nC g) (cell, 0)).1 / nR g = cell % nC g ∧ (tuS (nR g) (nC g) (cell, 0)).1 % nR g = nR g - 1 - cell / nC g ∧ cell / nC g < nR g ∧ cell % nC g < nC g ∧ (tuI (nR g) (nC g) (tuS (nR g) (nC g) (cell, 0))).1 = cell ∧ ∀ e, e < 4 → goN (nC g) (nR g) (tuS (nR g) (nC g) (cell, 0)).1 ((e + 1) % 4) = tuX (nR g) (nC g) (goN (nR g) (nC g) cell e) := by
  have z := h.sz
  have k := allT _ z.n5 _ z.m5 cell hc
  simp only [chkT, Bool.and_eq_true, decide_eq_true_eq, List.all_eq_true, List.mem_range] at k
  exact ⟨k.1.1.1.1.1.1, k.1.1.1.1.1.2, k.1.1.1.1.2, k.1.1.1.2, k.1.1.2, k.1.2, k.2⟩
theorem tu_port (h : GridOk g) {p : Nat} (hp : p < ports g) : tuP (nR g) (nC g) p < ports g ∧ enterN (nC g) (nR g) (tuP (nR g) (nC g) p) = tuS (nR g) (nC g) (enterN (nR g) (nC g) p) ∧ tuP (nR g) (nC g) ((p + nR g + 2 * nC g) % (2 * nR g + 2 * nC g)) = p := by
  have z := h.sz
  have k := allTP _ z.n5 _ z.m5 p hp
  rw [Bool.or_eq_true, Bool.or_eq_true, decide_eq_true_eq, decide_eq_true_eq] at k
  have z1 := z.n1
  have z2 := z.m1
  rcases k with (k | k) | k
  · omega
  · omega
  · simp only [chkTP, Bool.and_eq_true, decide_eq_true_eq] at k
    exact ⟨k.1.1, k.1.2, k.2⟩
theorem turn_ports (h : GridOk g) : ports (turnG g) = ports g := by
  obtain ⟨_, t2, t3⟩ := turnG_ok h
  unfold ports; rw [t2, t3]; omega
theorem tuS_fst (n m : Nat) (s : Nat × Nat) : tuS n m s = ((tuS n m (s.1, 0)).1, (s.2 + 1) % 4) := rfl
theorem tu_ok (h : GridOk g) {s : Nat × Nat} (hs : Ok g s) : Ok (turnG g) (tuS (nR g) (nC g) s) := by
  obtain ⟨_, t2, t3⟩ := turnG_ok h
  exact ⟨by show (tuS (nR g) (nC g) (s.1, 0)).1 < _; rw [t2, t3]; exact (tu_cell h hs.cell).1, Nat.mod_lt _ (by decide)⟩
theorem tu_letter (h : GridOk g) {cell : Nat} (hc : cell < nR g * nC g) : letter (turnG g) (tuS (nR g) (nC g) (cell, 0)).1 = exch (letter g cell) := by
  obtain ⟨_, t2, t3⟩ := turnG_ok h
  obtain ⟨_, k2, k3, k4, k5, _⟩ := tu_cell h hc
  unfold letter
  rw [t3, k2, k3]
  have := cl_turn (g := g) (i := cell % nC g) (k := nR g - 1 - cell / nC g) k5 (by clear k3; generalize cell / nC g = q at k4 ⊢; omega)
  unfold cl at this
  rw [this, show nR g - 1 - (nR g - 1 - cell / nC g) = cell / nC g by clear k3; generalize cell / nC g = q at k4 ⊢; omega]
theorem tu_after (h : GridOk g) {s : Nat × Nat} (hs : Ok g s) : afterN (turnG g) (tuS (nR g) (nC g) s) = tuX (nR g) (nC g) (afterN g s) := by
  obtain ⟨_, t2, t3⟩ := turnG_ok h
  obtain ⟨_, _, _, _, _, _, k7⟩ := tu_cell h hs.cell
  unfold afterN
  rw [t2, t3, tuS_fst]
  dsimp only
  rw [tu_letter h hs.cell, bend_exch _ hs.d, k7 _ (bend_lt _ _ hs.d)]
theorem tu_rev (h : GridOk g) {s : Nat × Nat} (hs : Ok g s) : rev (turnG g) (tuS (nR g) (nC g) s) = tuS (nR g) (nC g) (rev g s) := by
  unfold rev
  rw [tuS_fst]
  dsimp only
  rw [tu_letter h hs.cell, bend_exch _ hs.d]
  refine Prod.ext rfl ?_
  show rv ((bend (letter g s.1) s.2 + 1) % 4) = (rv (bend (letter g s.1) s.2) + 1) % 4
  unfold rv; omega
theorem tu_inj (h : GridOk g) {s t : Nat × Nat} (hs : Ok g s) (ht : Ok g t) (e : tuS (nR g) (nC g) s = tuS (nR g) (nC g) t) : s = t := by
  have e1 : (tuS (nR g) (nC g) (s.1, 0)).1 = (tuS (nR g) (nC g) (t.1, 0)).1 := by
    have e0 := congrArg Prod.fst e
    exact e0
  have e2 : (s.2 + 1) % 4 = (t.2 + 1) % 4 := by
    have e0 := congrArg Prod.snd e
    exact e0
  have a := (tu_cell h hs.cell).2.2.2.2.2.1
  have b := (tu_cell h ht.cell).2.2.2.2.2.1
  have c : (tuI (nR g) (nC g) (tuS (nR g) (nC g) (s.1, 0))).1 = (tuI (nR g) (nC g) (tuS (nR g) (nC g) (t.1, 0))).1 := by
    show (nR g - 1 - (tuS (nR g) (nC g) (s.1, 0)).1 % nR g) * nC g + (tuS (nR g) (nC g) (s.1, 0)).1 / nR g = _
    rw [e1]; rfl
  rw [a, b] at c
  exact Prod.ext c (by have := hs.d; have := ht.d; omega)
theorem tu_surj (h : GridOk g) {t : Nat × Nat} (ht : Ok (turnG g) t) : ∃ s, Ok g s ∧ tuS (nR g) (nC g) s = t := by
  obtain ⟨_, t2, t3⟩ := turnG_ok h
  have z := h.sz
  have hc := ht.cell
  rw [t2, t3] at hc
  have k := allTI _ z.n5 _ z.m5 t.1 hc
  simp only [chkTI, Bool.and_eq_true, decide_eq_true_eq] at k
  refine ⟨((tuI (nR g) (nC g) (t.1, 0)).1, (t.2 + 3) % 4), ⟨k.1, Nat.mod_lt _ (by decide)⟩, Prod.ext k.2 ?_⟩
  show ((t.2 + 3) % 4 + 1) % 4 = t.2
  have := ht.d
  omega
theorem tu_walk (h : GridOk g) {s : Nat × Nat} {L : List (Nat × Nat)} {e : Nat} (k : Walk g s L e) : Ok g s → Walk (turnG g) (tuS (nR g) (nC g) s) (L.map (tuS (nR g) (nC g))) (tuP (nR g) (nC g) e) := by
  induction k with
  | out a => exact fun hs => .out (by rw [tu_after h hs, a]; rfl)
  | on a k ih => exact fun hs => .on (by rw [tu_after h hs, a]; rfl) (ih (after_r h.sz hs a).1)
theorem tu_way (h : GridOk g) {p : Nat} (hp : p < ports g) : way (turnG g) (tuP (nR g) (nC g) p) = ((way g p).1.map (tuS (nR g) (nC g)), tuP (nR g) (nC g) (way g p).2) := by
  obtain ⟨_, t2, t3⟩ := turnG_ok h
  have k := tu_walk h (way_walk h.sz hp) (enter_ok h.sz hp)
  rw [← (tu_port h hp).2.1, ← t2, ← t3] at k
  have := k.way (4 * (nR (turnG g) * nC (turnG g))) (by rw [List.length_map, t2, t3, Nat.mul_comm (nC g)]; exact way_len g p)
  rw [t2, t3] at this
  unfold way at this ⊢
  rw [t2, t3]
  exact this
theorem tu_cn (h : GridOk g) {s t : Nat × Nat} (k : Cn g s t) : Cn (turnG g) (tuS (nR g) (nC g) s) (tuS (nR g) (nC g) t) := by
  induction k with
  | refl s => exact .refl _
  | go a e => exact .go (tu_ok h a) (by rw [tu_after h a, e]; rfl)
  | turn a => rw [← tu_rev h a]; exact .turn (tu_ok h a)
  | symm k ih => exact ih.symm
  | trans k l i1 i2 => exact i1.trans i2
theorem tu_cl (h : GridOk g) (s : Nat × Nat) : Cl (turnG g) fun t => ∃ u, Ok g u ∧ Cn g s u ∧ t = tuS (nR g) (nC g) u := by
  refine ⟨fun a b _ hC e => ?_, fun a _ hC => ?_⟩
  · obtain ⟨u, hu, k, rfl⟩ := hC
    rw [tu_after h hu] at e
    cases e2 : afterN g u with
    | inl p => rw [e2] at e; cases e
    | inr u' =>
      rw [e2] at e
      exact ⟨u', (after_r h.sz hu e2).1, k.trans (.go hu e2), (Sum.inr.inj e).symm⟩
  · obtain ⟨u, hu, k, rfl⟩ := hC
    exact ⟨_, hu.rev, k.trans (.turn hu), tu_rev h hu⟩
theorem tu_beam (h : GridOk g) {s : Nat × Nat} (hs : Ok g s) : OnBeam (turnG g) (tuS (nR g) (nC g) s) ↔ OnBeam g s := by
  constructor
  · rintro ⟨q, hq, hin⟩
    rw [turn_ports h] at hq
    obtain ⟨p, hp, rfl⟩ : ∃ p, p < ports g ∧ tuP (nR g) (nC g) p = q := ⟨_, Nat.mod_lt _ (by show 0 < 2 * nR g + 2 * nC g; have := h.sz.n1; omega), (tu_port h hq).2.2⟩
    rw [tu_way h hp] at hin
    obtain ⟨u, hu, e⟩ := List.mem_map.1 hin
    have hok := (way_walk h.sz hp).okAll h.sz (enter_ok h.sz hp) u hu
    rw [← tu_inj h hok hs e]
    exact ⟨p, hp, hu⟩
  · rintro ⟨p, hp, hin⟩
    refine ⟨tuP (nR g) (nC g) p, by rw [turn_ports h]; exact (tu_port h hp).1, ?_⟩
    rw [tu_way h hp]
    exact List.mem_map_of_mem hin
theorem turn_rounds (h : GridOk g) : (rounds (turnG g)).length = (rounds g).length := by
  obtain ⟨R, tv, e⟩ := rounds_tv h.sz
  have hT := (turnG_ok h).1
  have : Tv (turnG g) (R.map (tuS (nR g) (nC g))) := by
    refine ⟨fun r hr => ?_, ?_, fun t ht ho => ?_⟩
    · obtain ⟨u, hu, rfl⟩ := List.mem_map.1 hr
      obtain ⟨a, b⟩ := tv.off u hu
      exact ⟨tu_ok h a, fun k => b ((tu_beam h a).1 k)⟩
    · rw [List.pairwise_map]
      refine (List.Pairwise.and_mem.1 tv.apart).imp fun {r r'} hrr k => ?_
      obtain ⟨hr, hr', hn⟩ := hrr
      obtain ⟨u, hu, ku, he⟩ := (k.mem hT.sz (tu_cl h r)).1 ⟨r, (tv.off r hr).1, .refl _, rfl⟩
      obtain rfl := tu_inj h (tv.off r' hr').1 hu he
      exact hn ku
    · obtain ⟨s, hs, rfl⟩ := tu_surj h ht
      obtain ⟨r, hr, k⟩ := tv.covers s hs fun k => ho ((tu_beam h hs).2 k)
      exact ⟨_, List.mem_map_of_mem hr, tu_cn h k⟩
  have hl := this.rounds hT.sz
  rw [List.length_map, e] at hl
  exact hl.symm
theorem turn4 (h : GridOk g) : turnG (turnG (turnG (turnG g))) = g := by
  obtain ⟨a1, a2, a3⟩ := turnG_ok h
  obtain ⟨b1, b2, b3⟩ := turnG_ok a1
  obtain ⟨c1, c2, c3⟩ := turnG_ok b1
  obtain ⟨d1, d2, d3⟩ := turnG_ok c1
  refine gext d1 h (by omega) (by omega) fun i k hi hk => ?_
  rw [cl_turn (by omega) (by omega), cl_turn (by omega) (by omega), cl_turn (by omega) (by omega), cl_turn (by omega) (by omega), exch2, exch2]
  rw [show nR g - 1 - (nR (turnG (turnG g)) - 1 - i) = i by omega, show nR (turnG g) - 1 - (nR (turnG (turnG (turnG g))) - 1 - k) = k by omega]
end
end Go.Proofs.Ytmlkabddhdkpaaa

/- The lists of the reference's joining. -/
namespace Go.Proofs.Ytmlkabddhdkpaaa
set_option maxRecDepth 100000
set_option linter.unusedSimpArgs false
set_option linter.unusedVariables false
/-- a list of T numbers, told by a function -/
structure LF (l : List Int) (T : Nat) (f : Nat → Int) : Prop where
  len : l.length = T
  get : ∀ c, c < T → l.getD c 0 = f c
section
variable {l : List Int} {T : Nat} {f f' : Nat → Int}
theorem gset (q : List Int) (i j : Nat) (x : Int) (hi : i < q.length) : (q.set i x).getD j 0 = if j = i then x else q.getD j 0 := by
  rw [List.getD_eq_getElem?_getD, List.getElem?_set, List.getD_eq_getElem?_getD]
  by_cases e : i = j
  · subst e; rw [if_pos rfl, if_pos rfl, if_pos hi]; rfl
  · rw [if_neg e, if_neg (fun h => e h.symm)]
theorem LF.set (h : LF l T f) {i : Nat} (hi : i < T) (x : Int) : LF (l.set i x) T (fun c => if c = i then x else f c) :=
  ⟨by rw [List.length_set]; exact h.len, fun c hc => by rw [gset _ _ _ _ (by rw [h.len]; exact hi), h.get c hc]⟩
theorem LF.to (h : LF l T f) (he : ∀ c, c < T → f c = f' c) : LF l T f' := ⟨h.len, fun c hc => by rw [h.get c hc, he c hc]⟩
theorem LF.snoc (h : LF l T f) {x : Int} (hx : x = f T) : LF (l ++ [x]) (T + 1) f := ⟨by simp [h.len], fun c hc => by
  rw [List.getD_eq_getElem?_getD, List.getElem?_append, h.len]
  by_cases e : c < T
  · rw [if_pos e, ← List.getD_eq_getElem?_getD]; exact h.get c e
  · obtain rfl : c = T := by omega
    rw [if_neg e, Nat.sub_self, hx]; rfl⟩
theorem LF.ofP (g : Grid) {T : Nat} (hT : T = ports g) : LF (pairsI g) T (fun c => ((way g c).2 : Int)) := ⟨by rw [pairsI_len, hT], fun c hc => pairsI_get g (by omega)⟩
end
/-- what is known of the ports of two grids beside each other -/
structure JF (D : GD) (g h : Grid) (n m k : Nat) : Prop where
  w : D.W
  T : D.T = 2 * n + 2 * m + (2 * n + 2 * k)
  M : ∀ c, c < D.T → (D.isM c = true ↔ (m ≤ c ∧ c < m + n) ∨ 2 * n + 2 * m + (2 * k + n) ≤ c)
  mt : ∀ c, D.mt c = 2 * n + 2 * m + (2 * n + 2 * k) + m - 1 - c
  nm : ∀ c, D.nm c = if c < m then c else if c < 2 * n + 2 * m then c + 2 * k else c - (2 * n + 2 * m) + m
  nA : ∀ p, p < 2 * n + 2 * m → D.nxt p = (way g p).2
  nB : ∀ q, q < 2 * n + 2 * k → D.nxt (2 * n + 2 * m + q) = 2 * n + 2 * m + (way h q).2
  G : D.G = besideG g h
  g0 : D.gs false = g
  h0 : D.gs true = h
  pg : ports g = 2 * n + 2 * m
  ph : ports h = 2 * n + 2 * k
  pG : ports D.G = 2 * n + 2 * m + 2 * k
  n1 : 1 ≤ n
  n5 : n ≤ 5
  m1 : 1 ≤ m
  k1 : 1 ≤ k
  mkk : m + k ≤ 5
theorem Bs.jf {g h : Grid} (b : Bs g h) : JF (besD g h) g h (nR g) (nC g) (nC h) := by
  obtain ⟨hG, hR, hC⟩ := b.size
  have hy := b.hyps
  have hgk := b.gk.n5
  have hT := besD_T b
  have pg : (besD g h).pn false = 2 * nR g + 2 * nC g := rfl
  have ph : (besD g h).pn true = 2 * nR h + 2 * nC h := rfl
  refine ⟨b.W, hT, fun c hc => ?_, fun c => rfl, fun c => rfl, fun p hp => ?_, fun q hq => ?_, rfl, rfl, rfl, rfl, ?_, ?_, by omega, ?_, by omega, by omega, b.cc⟩
  · show isMJ (nR g) (nC g) (nC h) c = true ↔ _
    rw [hT] at hc
    unfold isMJ
    simp only [Bool.or_eq_true, Bool.and_eq_true, decide_eq_true_eq]
    constructor
    · rintro (h1 | h1)
      · exact .inl h1
      · exact .inr h1.1
    · rintro (h1 | h1)
      · exact .inl h1
      · exact .inr ⟨h1, hc⟩
  · have := GD.nxt_bs (D := besD g h) (b := false) (p := p) hp
    rw [show (besD g h).bs false + p = p from Nat.zero_add p] at this
    rw [this]; exact Nat.zero_add _
  · exact GD.nxt_bs (D := besD g h) (b := true) (p := q) (by rw [ph, ← b.rr]; exact hq)
  · unfold ports; rw [← b.rr]
  · show ports (besideG g h) = _
    unfold ports; rw [hR, hC]; omega
  · exact hgk
section
variable {D : GD} {g h : Grid} {n m k : Nat}
theorem JF.Mf (j : JF D g h n m k) {c : Nat} (hc : c < D.T) : D.isM c = false ↔ ¬ ((m ≤ c ∧ c < m + n) ∨ 2 * n + 2 * m + (2 * k + n) ≤ c) := by
  rw [← j.M c hc]; simp
def mtF (n m k i c : Nat) : Int := if (m ≤ c ∧ c < m + i) ∨ 2 * n + 2 * m + (2 * n + 2 * k) - i ≤ c then ((2 * n + 2 * m + (2 * n + 2 * k) + m - 1 - c : Nat) : Int) else -1
theorem mtF_step {n m k i T : Nat} {l : List Int} (h : LF l T (mtF n m k i)) (hT : T = 2 * n + 2 * m + (2 * n + 2 * k)) (hi : i < n) : LF ((l.set (m + i) ((T - 1 - i : Nat) : Int)).set (T - 1 - i) ((m + i : Nat) : Int)) T (mtF n m k (i + 1)) := by
  refine ((h.set (show m + i < T by omega) _).set (show T - 1 - i < T by omega) _).to fun c hc => ?_
  unfold mtF
  (repeat' split) <;> omega
/-- names: the upper ends, those of the second grid, the others of the first -/
def nmF (n m k i j l c : Nat) : Int := if c < i then (c : Int) else if 2 * n + 2 * m ≤ c ∧ c < 2 * n + 2 * m + j then ((m + (c - (2 * n + 2 * m)) : Nat) : Int) else if m + n ≤ c ∧ c < l then ((c + 2 * k : Nat) : Int) else -1
theorem nmF_1 {n m k i T : Nat} {q : List Int} (h : LF q T (nmF n m k i 0 0)) (hT : T = 2 * n + 2 * m + (2 * n + 2 * k)) (hi : i < m) : LF (q.set i (i : Int)) T (nmF n m k (i + 1) 0 0) := by
  refine (h.set (show i < T by omega) _).to fun c hc => ?_
  unfold nmF
  (repeat' split) <;> omega
theorem nmF_2 {n m k i T : Nat} {q : List Int} (h : LF q T (nmF n m k m i 0)) (hT : T = 2 * n + 2 * m + (2 * n + 2 * k)) (hi : i < 2 * k + n) : LF (q.set (2 * n + 2 * m + i) ((m + i : Nat) : Int)) T (nmF n m k m (i + 1) 0) := by
  refine (h.set (show 2 * n + 2 * m + i < T by omega) _).to fun c hc => ?_
  unfold nmF
  (repeat' split) <;> omega
theorem nmF_3 {n m k i T : Nat} {q : List Int} (h : LF q T (nmF n m k m (2 * k + n) i)) (hT : T = 2 * n + 2 * m + (2 * n + 2 * k)) (hi : i < 2 * n + 2 * m) (hj : m + n ≤ i) : LF (q.set i ((i + 2 * k : Nat) : Int)) T (nmF n m k m (2 * k + n) (i + 1)) := by
  refine (h.set (show i < T by omega) _).to fun c hc => ?_
  unfold nmF
  (repeat' split) <;> omega
theorem JF.mate (j : JF D g h n m k) {l : List Int} (hl : LF l D.T (mtF n m k n)) : ∀ c, c < D.T → (D.isM c = true → l.getD c 0 = ((D.mt c : Nat) : Int)) ∧ (D.isM c = false → l.getD c 0 = -1) := fun c hc => by
  have hT := j.T
  rw [hl.get c hc, j.M c hc, j.Mf hc, j.mt]
  unfold mtF
  constructor
  · intro h1; rw [if_pos (by omega)]
  · intro h1; rw [if_neg (by omega)]
theorem JF.name (j : JF D g h n m k) {l : List Int} (hl : LF l D.T (nmF n m k m (2 * k + n) (2 * n + 2 * m))) : ∀ c, c < D.T → (D.isM c = false → l.getD c 0 = ((D.nm c : Nat) : Int)) ∧ (D.isM c = true → l.getD c 0 = -1) := fun c hc => by
  have hT := j.T
  rw [hl.get c hc, j.M c hc, j.Mf hc, j.nm]
  unfold nmF
  constructor
  · intro h1; (repeat' split) <;> omega
  · intro h1; (repeat' split) <;> omega
end
/-- not marked yet -/
def unmk : List Bool → Nat
  | [] => 0
  | b :: l => (if b = true then 0 else 1) + unmk l
theorem unmk_le : ∀ (l : List Bool) (i : Nat), unmk (l.set i true) ≤ unmk l
  | [], _ => by simp [unmk]
  | b :: l, 0 => by
    rw [List.set_cons_zero, unmk, unmk, if_pos rfl]; omega
  | b :: l, i + 1 => by
    have := unmk_le l i
    simp only [List.set_cons_succ, unmk]; omega
theorem unmk_lt : ∀ (l : List Bool) (i : Nat), i < l.length → l.getD i false = false → unmk (l.set i true) < unmk l
  | [], _, h, _ => by simp at h
  | b :: l, 0, _, h => by
    have : b = false := by simpa using h
    subst this
    simp [unmk]
  | b :: l, i + 1, h, hb => by
    have := unmk_lt l i (by simpa using h) (by simpa [List.getD_eq_getElem?_getD] using hb)
    simp only [List.set_cons_succ, unmk]; omega
theorem bset (q : List Bool) (i j : Nat) (hi : i < q.length) : (q.set i true).getD j false = true ↔ q.getD j false = true ∨ j = i := by
  rw [List.getD_eq_getElem?_getD, List.getElem?_set, List.getD_eq_getElem?_getD]
  by_cases e : i = j
  · subst e; rw [if_pos rfl, if_pos hi]; simp
  · rw [if_neg e]
    constructor
    · intro h; exact .inl h
    · rintro (h | h)
      · exact h
      · exact absurd h.symm e
theorem bset2 (q : List Bool) (x y c : Nat) (hx : x < q.length) (hy : y < q.length) : ((q.set x true).set y true).getD c false = true ↔ q.getD c false = true ∨ c = x ∨ c = y := by
  rw [bset _ _ _ (by rw [List.length_set]; exact hy), bset _ _ _ hx, or_assoc]
end Go.Proofs.Ytmlkabddhdkpaaa

/- The program's joining: places of ports, rows that rounds cross. -/
namespace Go.Proofs.Ytmlkabddhdkpaaa
set_option maxRecDepth 100000
set_option linter.unusedSimpArgs false
set_option linter.unusedVariables false
def plN (n m p : Nat) : Nat × Nat := if p < m then (0, p) else if p < m + n then (1, p - m) else if p < 2 * m + n then (2, m - 1 - (p - m - n)) else (3, n - 1 - (p - 2 * m - n))
def poI (n m : Nat) (s x : Int) : Int := if s = 0 then x else if s = 1 then m + x else if s = 2 then 2 * m + n - 1 - x else 2 * m + 2 * n - 1 - x
/-- the second grid's port -/
def scd (n m c : Nat) : Bool := decide (2 * n + 2 * m ≤ c)
def plc (n m k c : Nat) : Nat × Nat := if c < 2 * n + 2 * m then plN n m c else plN n k (c - (2 * n + 2 * m))
theorem plN_bd {n m p : Nat} (hp : p < 2 * n + 2 * m) (hn : 1 ≤ n) (hm : 1 ≤ m) : (plN n m p).1 < 4 ∧ (plN n m p).2 < n + m := by
  unfold plN
  (repeat' split) <;> (dsimp only; omega)
theorem poI_plN {n m p : Nat} (hp : p < 2 * n + 2 * m) (hn : 1 ≤ n) (hm : 1 ≤ m) : poI n m (((plN n m p).1 : Nat) : Int) (((plN n m p).2 : Nat) : Int) = ((p : Nat) : Int) := by
  unfold poI plN
  by_cases a : p < m
  · rw [if_pos a]; simp
  · by_cases b : p < m + n
    · rw [if_neg a, if_pos b]; simp; omega
    · by_cases c : p < 2 * m + n
      · rw [if_neg a, if_neg b, if_pos c]; simp; omega
      · rw [if_neg a, if_neg b, if_neg c]; simp; omega
section
variable {D : GD} {g h : Grid} {n m k : Nat}
theorem JF.scd_lt (_ : JF D g h n m k) {c : Nat} (hs : scd n m c = false) : c < 2 * n + 2 * m := by
  unfold scd at hs; have := of_decide_eq_false hs; omega
theorem JF.scd_ge (_ : JF D g h n m k) {c : Nat} (hs : scd n m c = true) : 2 * n + 2 * m ≤ c := of_decide_eq_true hs
theorem JF.plc_bd (J : JF D g h n m k) {c : Nat} (hc : c < D.T) : (plc n m k c).1 < 4 ∧ (plc n m k c).2 < 10 := by
  have hT := J.T
  have := J.n1; have := J.m1; have := J.k1; have := J.mkk; have := J.n5
  unfold plc
  split
  · have := plN_bd (n := n) (m := m) (p := c) (by omega) (by omega) (by omega); omega
  · have := plN_bd (n := n) (m := k) (p := c - (2 * n + 2 * m)) (by omega) (by omega) (by omega); omega
/-- partners lie in the same grid -/
theorem JF.nxt_side (J : JF D g h n m k) {c : Nat} (hc : c < D.T) : scd n m (D.nxt c) = scd n m c := by
  have hT := J.T
  have z : ∀ b, Sz (D.gs b) := J.w.z
  have hpg := J.pg
  have hph := J.ph
  have zg : Sz g := by rw [← J.g0]; exact z false
  have zh : Sz h := by rw [← J.h0]; exact z true
  unfold scd
  by_cases a : c < 2 * n + 2 * m
  · rw [J.nA c a]
    have := way_end zg (p := c) (by omega)
    rw [decide_eq_false (by omega), decide_eq_false (by omega)]
  · have e : c = 2 * n + 2 * m + (c - (2 * n + 2 * m)) := by omega
    have := way_end zh (p := c - (2 * n + 2 * m)) (by omega)
    rw [e, J.nB _ (by omega), decide_eq_true (by omega), decide_eq_true (by omega)]
/-- where both meet: the right side of the first, the left side of the second -/
theorem JF.isM_side (J : JF D g h n m k) {c : Nat} (hc : c < D.T) : D.isM c = true ↔ (scd n m c = false ∧ (plc n m k c).1 = 1) ∨ (scd n m c = true ∧ (plc n m k c).1 = 3) := by
  have hT := J.T
  rw [J.M c hc]
  unfold scd plc
  simp only [decide_eq_true_eq, decide_eq_false_iff_not]
  by_cases a : c < 2 * n + 2 * m
  · rw [if_pos a]
    unfold plN
    (repeat' split) <;> (dsimp only; omega)
  · rw [if_neg a]
    unfold plN
    (repeat' split) <;> (dsimp only; omega)
theorem JF.mt_side (J : JF D g h n m k) {c : Nat} (hc : c < D.T) (hm : D.isM c = true) : scd n m (D.mt c) = !scd n m c ∧ (plc n m k (D.mt c)).2 = (plc n m k c).2 ∧ ((plc n m k c).1 = 1 → (plc n m k (D.mt c)).1 = 3) ∧ ((plc n m k c).1 = 3 → (plc n m k (D.mt c)).1 = 1) := by
  have hT := J.T
  have hn1 := J.n1
  have hM := (J.M c hc).1 hm
  have hmt := J.mt c
  rcases hM with h1 | h1
  · have e1 : scd n m c = false := decide_eq_false (by omega)
    have e2 : scd n m (D.mt c) = true := decide_eq_true (by omega)
    have e3 : plc n m k c = (1, c - m) := by
      unfold plc plN; rw [if_pos (by omega), if_neg (by omega), if_pos (by omega)]
    have e4 : plc n m k (D.mt c) = (3, c - m) := by
      unfold plc plN
      rw [if_neg (by omega), if_neg (by omega), if_neg (by omega), if_neg (by omega)]
      exact Prod.ext rfl (by dsimp only; omega)
    rw [e1, e2, e3, e4]
    exact ⟨rfl, rfl, fun _ => rfl, fun e => by cases e⟩
  · have e1 : scd n m c = true := decide_eq_true (by omega)
    have e2 : scd n m (D.mt c) = false := decide_eq_false (by omega)
    have e3 : plc n m k c = (3, n - 1 - (c - (2 * n + 2 * m) - 2 * k - n)) := by
      unfold plc plN; rw [if_neg (by omega), if_neg (by omega), if_neg (by omega), if_neg (by omega)]
    have e4 : plc n m k (D.mt c) = (1, n - 1 - (c - (2 * n + 2 * m) - 2 * k - n)) := by
      unfold plc plN
      rw [if_pos (by omega), if_neg (by omega), if_pos (by omega)]
      exact Prod.ext rfl (by dsimp only; omega)
    rw [e1, e2, e3, e4]
    exact ⟨rfl, rfl, fun e => (by cases e), fun _ => rfl⟩
/-- what crosses tells -/
def crp (D : GD) (n m k c : Nat) : Nat × Nat := if D.isM c = true then plc n m k (D.mt c) else plc n m k c
/-- the outer port of a name -/
theorem JF.outer (J : JF D g h n m k) {p : Nat} (hp : p < 2 * n + 2 * (m + k)) : nmI n m k p < D.T ∧ D.isM (nmI n m k p) = false ∧ D.nm (nmI n m k p) = p := by
  have hT := J.T
  have hn1 := J.n1
  have hc : nmI n m k p < D.T := by unfold nmI; (repeat' split) <;> omega
  refine ⟨hc, (J.Mf hc).2 ?_, ?_⟩
  · unfold nmI; (repeat' split) <;> omega
  · rw [J.nm]; unfold nmI; (repeat' split) <;> omega
/-- its place: in the second grid just if it stands on the right or behind the first columns -/
theorem JF.place (J : JF D g h n m k) {p : Nat} (hp : p < 2 * n + 2 * (m + k)) :
    (scd n m (nmI n m k p) = true ↔ (plN n (m + k) p).1 = 1 ∨ ((plN n (m + k) p).1 ≠ 3 ∧ m ≤ (plN n (m + k) p).2)) ∧ (plc n m k (nmI n m k p)).1 = (plN n (m + k) p).1 ∧
    (plc n m k (nmI n m k p)).2 = (if scd n m (nmI n m k p) = true ∧ (plN n (m + k) p).1 ≠ 1 then (plN n (m + k) p).2 - m else (plN n (m + k) p).2) := by
  have hn1 := J.n1
  have hm1 := J.m1
  have hk1 := J.k1
  have cases5 : p < m ∨ (m ≤ p ∧ p < m + k) ∨ (m + k ≤ p ∧ p < m + k + n) ∨ (m + k + n ≤ p ∧ p < m + 2 * k + n) ∨ (m + 2 * k + n ≤ p ∧ p < 2 * m + 2 * k + n) ∨ 2 * m + 2 * k + n ≤ p := by omega
  rcases cases5 with c | c | c | c | c | c
  · have e1 : nmI n m k p = p := by unfold nmI; rw [if_pos c]
    have e2 : plN n (m + k) p = (0, p) := by unfold plN; rw [if_pos (by omega)]
    have e3 : plc n m k p = (0, p) := by unfold plc plN; rw [if_pos (by omega), if_pos c]
    have e4 : scd n m p = false := decide_eq_false (by omega)
    rw [e1, e2, e3, e4]; simp; omega
  · have e1 : nmI n m k p = p - m + (2 * n + 2 * m) := by unfold nmI; rw [if_neg (by omega), if_pos (by omega)]
    have e2 : plN n (m + k) p = (0, p) := by unfold plN; rw [if_pos (by omega)]
    have e3 : plc n m k (p - m + (2 * n + 2 * m)) = (0, p - m) := by unfold plc plN; rw [if_neg (by omega), if_pos (by omega), Nat.add_sub_cancel]
    have e4 : scd n m (p - m + (2 * n + 2 * m)) = true := decide_eq_true (by omega)
    rw [e1, e2, e3, e4]; simp; omega
  · have e1 : nmI n m k p = p - m + (2 * n + 2 * m) := by unfold nmI; rw [if_neg (by omega), if_pos (by omega)]
    have e2 : plN n (m + k) p = (1, p - (m + k)) := by unfold plN; rw [if_neg (by omega), if_pos (by omega)]
    have e3 : plc n m k (p - m + (2 * n + 2 * m)) = (1, p - m - k) := by unfold plc plN; rw [if_neg (by omega), if_neg (by omega), if_pos (by omega), Nat.add_sub_cancel]
    have e4 : scd n m (p - m + (2 * n + 2 * m)) = true := decide_eq_true (by omega)
    rw [e1, e2, e3, e4]; simp; omega
  · have e1 : nmI n m k p = p - m + (2 * n + 2 * m) := by unfold nmI; rw [if_neg (by omega), if_pos (by omega)]
    have e2 : plN n (m + k) p = (2, (m + k) - 1 - (p - (m + k) - n)) := by unfold plN; rw [if_neg (by omega), if_neg (by omega), if_pos (by omega)]
    have e3 : plc n m k (p - m + (2 * n + 2 * m)) = (2, k - 1 - (p - m - k - n)) := by unfold plc plN; rw [if_neg (by omega), if_neg (by omega), if_neg (by omega), if_pos (by omega), Nat.add_sub_cancel]
    have e4 : scd n m (p - m + (2 * n + 2 * m)) = true := decide_eq_true (by omega)
    rw [e1, e2, e3, e4]; simp; omega
  · have e1 : nmI n m k p = p - 2 * k := by unfold nmI; rw [if_neg (by omega), if_neg (by omega)]
    have e2 : plN n (m + k) p = (2, (m + k) - 1 - (p - (m + k) - n)) := by unfold plN; rw [if_neg (by omega), if_neg (by omega), if_pos (by omega)]
    have e3 : plc n m k (p - 2 * k) = (2, m - 1 - (p - 2 * k - m - n)) := by unfold plc plN; rw [if_pos (by omega), if_neg (by omega), if_neg (by omega), if_pos (by omega)]
    have e4 : scd n m (p - 2 * k) = false := decide_eq_false (by omega)
    rw [e1, e2, e3, e4]; simp; omega
  · have e1 : nmI n m k p = p - 2 * k := by unfold nmI; rw [if_neg (by omega), if_neg (by omega)]
    have e2 : plN n (m + k) p = (3, n - 1 - (p - 2 * (m + k) - n)) := by unfold plN; rw [if_neg (by omega), if_neg (by omega), if_neg (by omega)]
    have e3 : plc n m k (p - 2 * k) = (3, n - 1 - (p - 2 * k - 2 * m - n)) := by unfold plc plN; rw [if_pos (by omega), if_neg (by omega), if_neg (by omega), if_neg (by omega)]
    have e4 : scd n m (p - 2 * k) = false := decide_eq_false (by omega)
    rw [e1, e2, e3, e4]; simp; omega
theorem nmI_nm (J : JF D g h n m k) {c : Nat} (hc : c < D.T) (hm : D.isM c = false) : D.nm c < 2 * n + 2 * (m + k) ∧ nmI n m k (D.nm c) = c := by
  have hT := J.T
  have hM := (J.Mf hc).1 hm
  rw [J.nm]
  unfold nmI
  (repeat' split) <;> omega
/-- the way out: the name of a port that is no seam -/
theorem JF.leave (J : JF D g h n m k) {c : Nat} (hc : c < D.T) (hm : D.isM c = false) :
    poI n (m + k) (((plc n m k c).1 : Nat) : Int) (if scd n m c = true ∧ (plc n m k c).1 ≠ 1 then (((plc n m k c).2 : Nat) : Int) + m else (((plc n m k c).2 : Nat) : Int)) = ((D.nm c : Nat) : Int) := by
  obtain ⟨h1, h2⟩ := nmI_nm J hc hm
  obtain ⟨k1, k2, k3⟩ := J.place h1
  rw [h2] at k1 k2 k3
  have hp := poI_plN (n := n) (m := m + k) h1 J.n1 (by have := J.m1; omega)
  rw [← hp, k2]
  congr 1
  by_cases hs : scd n m c = true ∧ (plN n (m + k) (D.nm c)).1 ≠ 1
  · rw [if_pos hs] at k3 ⊢
    have hb := k1.1 hs.1
    have : m ≤ (plN n (m + k) (D.nm c)).2 := by
      rcases hb with h | h
      · exact absurd h hs.2
      · exact h.2
    omega
  · rw [if_neg hs] at k3 ⊢
    omega
/-! rows of the seam -/
def rowS (n m k c : Nat) : Nat := if c < 2 * n + 2 * m then c - m else 2 * n + 2 * m + (2 * n + 2 * k) - 1 - c
theorem JF.row_plc (J : JF D g h n m k) {c : Nat} (hc : c < D.T) (hm : D.isM c = true) : (plc n m k c).2 = rowS n m k c ∧ rowS n m k c < n := by
  have hT := J.T
  have hn1 := J.n1
  rcases (J.M c hc).1 hm with h1 | h1
  · unfold rowS plc plN; rw [if_pos (by omega), if_neg (by omega), if_pos (by omega), if_pos (by omega)]
    exact ⟨rfl, by omega⟩
  · unfold rowS plc plN; rw [if_neg (by omega), if_neg (by omega), if_neg (by omega), if_neg (by omega), if_neg (by omega)]
    exact ⟨by dsimp only; omega, by omega⟩
theorem JF.row_mt (J : JF D g h n m k) {c : Nat} (hc : c < D.T) (hm : D.isM c = true) : rowS n m k (D.mt c) = rowS n m k c := by
  obtain ⟨m1, m2, _⟩ := J.w.mtM c hc hm
  rw [← (J.row_plc m1 m2).1, ← (J.row_plc hc hm).1]
  exact (J.mt_side hc hm).2.1
theorem JF.row_eq (J : JF D g h n m k) {c : Nat} (hc : c < D.T) (hm : D.isM c = true) : (c = m + rowS n m k c ∧ scd n m c = false) ∨ (c = D.mt (m + rowS n m k c) ∧ scd n m c = true) := by
  have hT := J.T
  rw [J.mt]
  rcases (J.M c hc).1 hm with h1 | h1
  · left; unfold rowS scd; rw [if_pos (by omega)]; exact ⟨by omega, decide_eq_false (by omega)⟩
  · right; unfold rowS scd; rw [if_neg (by omega)]; exact ⟨by omega, decide_eq_true (by omega)⟩
theorem JF.rowM (J : JF D g h n m k) {i : Nat} (hi : i < n) : m + i < D.T ∧ D.isM (m + i) = true ∧ scd n m (m + i) = false ∧ rowS n m k (m + i) = i ∧ plc n m k (m + i) = (1, i) := by
  have hT := J.T
  have hc : m + i < D.T := by omega
  refine ⟨hc, (J.M _ hc).2 (by omega), decide_eq_false (by omega), by unfold rowS; rw [if_pos (by omega)]; omega, ?_⟩
  unfold plc plN
  rw [if_pos (by omega), if_neg (by omega), if_pos (by omega)]
  exact Prod.ext rfl (by dsimp only; omega)
/-- the rows that have been met while a round is gone over -/
structure RM (D : GD) (n m k c0 : Nat) (S0 S : Nat → Bool) (x : Nat) (met : List Nat) : Prop where
  lt : ∀ r ∈ met, r < n ∧ Cn D.G (D.ent c0) (D.ent (m + r))
  all : ∀ c, S c = true → S0 c = true ∨ rowS n m k c ∈ met
  mem : ∀ r ∈ met, r = rowS n m k x ∨ S (m + r) = true ∨ S (D.mt (m + r)) = true
  x : rowS n m k x ∈ met
  c0 : rowS n m k c0 ∈ met
theorem RM.start (J : JF D g h n m k) {i : Nat} (hi : i < n) (S : Nat → Bool) : RM D n m k (m + i) S S (m + i) [i] := by
  obtain ⟨_, _, _, h4, _⟩ := J.rowM hi
  refine ⟨fun r hr => ?_, fun c h => .inl h, fun r hr => ?_, by rw [h4]; simp, by rw [h4]; simp⟩
  · rw [List.mem_singleton.1 hr]; exact ⟨hi, .refl _⟩
  · rw [List.mem_singleton.1 hr, h4]; exact .inl rfl
theorem RM.step (J : JF D g h n m k) {c0 x : Nat} {S0 S S' : Nat → Bool} {met met' : List Nat} (h : RM D n m k c0 S0 S x met) (hx : x < D.T) (hxm : D.isM x = true) (hcn : Cn D.G (D.ent c0) (D.ent x)) (hnm : D.isM (D.nxt x) = true) (hS : ∀ c, S' c = true ↔ S c = true ∨ c = x ∨ c = D.nxt x)
    (hm : met' = met ++ [rowS n m k (D.mt (D.nxt x))] ∨ (met' = met ∧ D.mt (D.nxt x) = c0)) : RM D n m k c0 S0 S' (D.mt (D.nxt x)) met' := by
  obtain ⟨n1, n2, n3⟩ := GD.nxt_ok J.w x hx
  obtain ⟨m1, m2, m3, m4⟩ := J.w.mtM _ n1 hnm
  have hrow : rowS n m k (D.mt (D.nxt x)) = rowS n m k (D.nxt x) := J.row_mt n1 hnm
  have hcn2 : Cn D.G (D.ent c0) (D.ent (D.mt (D.nxt x))) := hcn.trans ((GD.cn_nxt J.w hx).trans (GD.cn_mt J.w n1 hnm))
  have hsub : ∀ r ∈ met, r ∈ met' := fun r hr => by
    rcases hm with e | ⟨e, _⟩
    · rw [e]; exact List.mem_append.2 (.inl hr)
    · rw [e]; exact hr
  have hnew : rowS n m k (D.mt (D.nxt x)) ∈ met' := by
    rcases hm with e | ⟨e, e2⟩
    · rw [e]; simp
    · rw [e, e2]; exact h.c0
  have hinv : ∀ r ∈ met', r ∈ met ∨ r = rowS n m k (D.mt (D.nxt x)) := fun r hr => by
    rcases hm with e | ⟨e, _⟩
    · rw [e] at hr
      rcases List.mem_append.1 hr with h1 | h1
      · exact .inl h1
      · exact .inr (List.mem_singleton.1 h1)
    · rw [e] at hr; exact .inl hr
  have hbase : ∀ c, c < D.T → D.isM c = true → Cn D.G (D.ent c) (D.ent (m + rowS n m k c)) := fun c hc hcm => by
    rcases J.row_eq hc hcm with ⟨e, _⟩ | ⟨e, _⟩
    · rw [← e]; exact .refl _
    · obtain ⟨q1, q2, _⟩ := J.rowM (J.row_plc hc hcm).2
      have := GD.cn_mt J.w q1 q2
      rw [← e] at this
      exact this.symm
  refine ⟨fun r hr => ?_, fun c hc => ?_, fun r hr => ?_, hnew, hsub _ h.c0⟩
  · rcases hinv r hr with h1 | h1
    · exact h.lt r h1
    · rw [h1]; exact ⟨(J.row_plc m1 m2).2, hcn2.trans (hbase _ m1 m2)⟩
  · rcases (hS c).1 hc with h1 | rfl | rfl
    · rcases h.all c h1 with h2 | h2
      · exact .inl h2
      · exact .inr (hsub _ h2)
    · exact .inr (hsub _ h.x)
    · exact .inr (by rw [← hrow]; exact hnew)
  · rcases hinv r hr with h1 | h1
    · rcases h.mem r h1 with h2 | h2 | h2
      · right
        have hSx : S' x = true := (hS x).2 (.inr (.inl rfl))
        rcases J.row_eq hx hxm with ⟨e, _⟩ | ⟨e, _⟩
        · left; rw [h2, ← e]; exact hSx
        · right; rw [h2, ← e]; exact hSx
      · exact .inr (.inl ((hS _).2 (.inl h2)))
      · exact .inr (.inr ((hS _).2 (.inl h2)))
    · exact .inl h1
/-- what is marked in the end -/
theorem RM.done (J : JF D g h n m k) {i : Nat} {R : List Nat} {S0 S : Nat → Bool} {x : Nat} {met : List Nat} (hi : i < n) (h : RM D n m k (m + i) S0 S x met) (hx : x = m + i) (ho : ¬ OnBeam D.G (D.ent (m + i))) (hS : D.SI2 S R (m + i + 1)) (hSi : S (m + i) = true) {sn sn' : Nat → Bool}
    (hsn : ∀ r, r < n → (sn r = true ↔ S0 (m + r) = true ∧ ¬ OnBeam D.G (D.ent (m + r)))) (hsub : ∀ c, S0 c = true → S c = true) (hn' : ∀ r, sn' r = true ↔ sn r = true ∨ r ∈ met) : ∀ r, r < n → (sn' r = true ↔ S (m + r) = true ∧ ¬ OnBeam D.G (D.ent (m + r))) := fun r hr => by
  obtain ⟨q1, q2, _, q4, _⟩ := J.rowM hr
  rw [hn', hsn r hr]
  constructor
  · rintro (⟨h1, h2⟩ | h1)
    · exact ⟨hsub _ h1, h2⟩
    · have hoff : ¬ OnBeam D.G (D.ent (m + r)) := fun e => ho ((GD.onB J.w (h.lt r h1).2).2 e)
      refine ⟨?_, hoff⟩
      rcases h.mem r h1 with h2 | h2 | h2
      · rw [hx, (J.rowM hi).2.2.2.1] at h2; rw [h2]; exact hSi
      · exact h2
      · have := (hS.b _ h2).1
        rwa [(J.w.mtM _ q1 q2).2.2.1] at this
  · rintro ⟨h1, h2⟩
    rcases h.all _ h1 with h3 | h3
    · exact .inl ⟨h3, h2⟩
    · rw [q4] at h3; exact .inr h3
/-- all seams lie behind -/
theorem JF.seams (J : JF D g h n m k) {S : Nat → Bool} {R : List Nat} (hS : D.SI2 S R (m + n)) : D.SI2 S R D.T := ⟨hS.a, hS.b, hS.c, hS.d, hS.e, hS.f, fun c _ hm hc => by
  by_cases e : c < m + n
  · exact hS.g c e hm hc
  · rcases J.row_eq hc hm with ⟨h1, _⟩ | ⟨h1, _⟩
    · have := (J.row_plc hc hm).2; omega
    · obtain ⟨q1, q2, _⟩ := J.rowM (J.row_plc hc hm).2
      have := (hS.b _ (hS.g _ (by have := (J.row_plc hc hm).2; omega) q2 q1)).1
      rwa [← h1] at this⟩
theorem skip_to {S : Nat → Bool} {R : List Nat} (hS : D.SI2 S R 0) : ∀ i, (∀ c, c < i → c < D.T → D.isM c = false) → D.SI2 S R i
  | 0, _ => hS
  | i + 1, hi => by
    have ih := skip_to hS i fun c h1 h2 => hi c (by omega) h2
    refine ⟨ih.a, ih.b, ih.c, ih.d, ih.e, ih.f, fun c h1 h2 h3 => ?_⟩
    rw [hi c h1 h3] at h2; cases h2
open Classical in
/-- at first: the seams on beams -/
theorem JF.first (J : JF D g h n m k) : ∃ S : Nat → Bool, D.SI2 S [] m ∧ ∀ c, S c = true → OnBeam D.G (D.ent c) := by
  refine ⟨fun c => decide (c < D.T ∧ D.isM c = true ∧ OnBeam D.G (D.ent c)), ?_, fun c hc => (of_decide_eq_true hc).2.2⟩
  have hB : D.BI (fun c => decide (c < D.T ∧ D.isM c = true ∧ OnBeam D.G (D.ent c))) D.T := by
    refine ⟨fun c hc => of_decide_eq_true hc, fun c0 h1 _ h3 c h4 h5 h6 => decide_eq_true ⟨h4, h5, ?_⟩⟩
    obtain ⟨q1, q2⟩ := J.w.nmO c0 h1 h3
    exact ⟨D.nm c0, q1, h6⟩
  have hT := J.T
  exact skip_to (GD.SI2.start J.w hB) m fun c h1 h2 => (J.Mf h2).2 (by have := J.n1; omega)
end
end Go.Proofs.Ytmlkabddhdkpaaa

/- The program's joining: one row of the seam after the other is followed; it lies on a beam, or a round comes. -/
namespace Go.Proofs.Ytmlkabddhdkpaaa
set_option maxRecDepth 100000
set_option linter.unusedSimpArgs false
set_option linter.unusedVariables false
section
variable {D : GD} {g h : Grid} {n m k : Nat}
/-- the seam c0 is followed; it has come to x; f is left -/
structure RL (D : GD) (n m k : Nat) (S0 : Nat → Bool) (c0 x f : Nat) (met : List Nat) : Prop where
  xT : x < D.T
  xM : D.isM x = true
  on : OnBeam D.G (D.ent c0) → ∃ L0 L e e', Walk D.G (D.ent c0) L0 e ∧ Walk D.G (D.ent x) L e' ∧ L.length = f ∧ L.length ≤ L0.length
  off : ¬ OnBeam D.G (D.ent c0) → ∃ s2 : List Bool, s2.length = D.T ∧ D.LI S0 (fun c => s2.getD c false) c0 x ∧ s2.getD x false = false ∧ unmk s2 = f ∧ RM D n m k c0 S0 (fun c => s2.getD c false) x met ∧ (x = c0 ∨ s2.getD c0 false = true)
/-- the rows below i have been looked at; q rounds have come; sn tells the rows of these -/
structure OI (D : GD) (n m k : Nat) (S : Nat → Bool) (R : List Nat) (sn : List Bool) (q i : Nat) : Prop where
  rl : R.length = q
  s : D.SI2 S R (m + i)
  ss : ∀ r, r < n → (sn.getD r false = true ↔ S (m + r) = true ∧ ¬ OnBeam D.G (D.ent (m + r)))
  len : sn.length = n
  qi : q ≤ i
theorem OI.start (J : JF D g h n m k) : ∃ S R, OI D n m k S R (List.replicate n false) 0 0 := by
  obtain ⟨S, h1, h2⟩ := J.first
  refine ⟨S, [], rfl, h1, fun r hr => ?_, by simp, Nat.le_refl _⟩
  have e : (List.replicate n false).getD r false = false := by
    rw [List.getD_eq_getElem?_getD, List.getElem?_replicate]
    split <;> rfl
  rw [e]
  constructor
  · intro h; cases h
  · rintro ⟨h3, h4⟩; exact absurd (h2 _ h3) h4
theorem OI.skip (J : JF D g h n m k) {S : Nat → Bool} {R : List Nat} {sn : List Bool} {q i : Nat} (H : OI D n m k S R sn q i) (hi : i < n) (hs : sn.getD i false = true ∨ OnBeam D.G (D.ent (m + i))) : OI D n m k S R sn q (i + 1) := by
  obtain ⟨a, b, c, d, e⟩ := H
  obtain ⟨h1, h2, _⟩ := J.rowM hi
  refine ⟨a, GD.SI2.skip b (.inr ?_), c, d, by omega⟩
  rcases hs with h3 | h3
  · exact ((c i hi).1 h3).1
  · exact b.c _ h1 h2 h3
theorem Walk.suffixL {g : Grid} {s : Nat × Nat} {L : List (Nat × Nat)} {e : Nat} (h : Walk g s L e) : ∀ t ∈ L, ∃ M, Walk g t M e ∧ M.length ≤ L.length := by
  induction h with
  | out h => intro t ht; rw [List.mem_singleton.1 ht]; exact ⟨_, .out h, Nat.le_refl _⟩
  | on h k ih =>
    intro t ht
    rcases List.mem_cons.1 ht with rfl | ht
    · exact ⟨_, .on h k, Nat.le_refl _⟩
    · obtain ⟨M, h1, h2⟩ := ih t ht
      exact ⟨M, h1, by simp; omega⟩
theorem unmk_len : ∀ l : List Bool, unmk l ≤ l.length
  | [] => Nat.le_refl _
  | b :: l => by
    have := unmk_len l
    simp only [unmk, List.length_cons]
    split <;> omega
theorem JF.way400 (J : JF D g h n m k) (p : Nat) : (way D.G p).1.length ≤ 400 := by
  have h1 := way_len D.G p
  have h2 := J.pG
  have := J.n5
  have := J.mkk
  have h3 : nR D.G ≤ 10 := by unfold ports at h2; omega
  have h4 : nC D.G ≤ 10 := by unfold ports at h2; omega
  have := Nat.mul_le_mul h3 h4
  omega
theorem RL.start (J : JF D g h n m k) {S : Nat → Bool} {R : List Nat} {sn : List Bool} {q i : Nat} (H : OI D n m k S R sn q i) (hi : i < n) (hs : sn.getD i false = false) : ∃ f, f ≤ 400 ∧ RL D n m k S (m + i) (m + i) f [i] := by
  obtain ⟨h1, h2, _⟩ := J.rowM hi
  by_cases ho : OnBeam D.G (D.ent (m + i))
  · obtain ⟨p, hp, hin⟩ := id ho
    obtain ⟨M, hM, hl⟩ := (way_walk J.w.zG hp).suffixL _ hin
    exact ⟨M.length, Nat.le_trans hl (J.way400 p), h1, h2, fun _ => ⟨M, M, _, _, hM, hM, rfl, Nat.le_refl _⟩, fun e => absurd ho e⟩
  · have hf : (fun c => ((List.range D.T).map S).getD c false) = S := by
      funext c
      rw [List.getD_eq_getElem?_getD, List.getElem?_map]
      by_cases hc : c < D.T
      · rw [List.getElem?_range hc]; rfl
      · rw [List.getElem?_eq_none (by simpa using hc)]
        cases e : S c with
        | false => rfl
        | true => exact absurd (H.s.a c e).1 hc
    have hSi : S (m + i) = false := by
      cases e : S (m + i) with
      | false => rfl
      | true => rw [(H.ss i hi).2 ⟨e, ho⟩] at hs; cases hs
    refine ⟨unmk ((List.range D.T).map S), ?_, h1, h2, fun e => absurd e ho, fun _ => ⟨(List.range D.T).map S, by simp, ?_, ?_, rfl, ?_⟩⟩
    · have q1 := unmk_len ((List.range D.T).map S)
      rw [List.length_map, List.length_range] at q1
      have := J.T; have := J.n5; have := J.mkk
      omega
    · rw [hf]; exact GD.LI.start H.s h1 h2 hSi
    · rw [congrFun hf (m + i)]; exact hSi
    · rw [hf]; exact ⟨RM.start J hi S, .inl rfl⟩
theorem RL.exit (J : JF D g h n m k) {S : Nat → Bool} {c0 x f : Nat} {met : List Nat} (r : RL D n m k S c0 x f met) (hn : D.isM (D.nxt x) = false) : OnBeam D.G (D.ent c0) := by
  by_cases ho : OnBeam D.G (D.ent c0)
  · exact ho
  · obtain ⟨s2, _, h2, _⟩ := r.off ho
    obtain ⟨_, _, h3⟩ := h2.xT
    have := GD.off_M J.w r.xT fun e => ho ((GD.onB J.w h3).2 e)
    rw [hn] at this; cases this
theorem RL.step (J : JF D g h n m k) {S : Nat → Bool} {R : List Nat} {sn : List Bool} {q i x f : Nat} {met : List Nat} (H : OI D n m k S R sn q i) (hi : i < n) (hs : sn.getD i false = false) (r : RL D n m k S (m + i) x f met) (hn : D.isM (D.nxt x) = true) :
    (D.mt (D.nxt x) ≠ m + i → ∃ f', f' < f ∧ RL D n m k S (m + i) (D.mt (D.nxt x)) f' (met ++ [rowS n m k (D.mt (D.nxt x))])) ∧
    (D.mt (D.nxt x) = m + i → (∀ r ∈ met, r < n) ∧ ∀ sn' : List Bool, sn'.length = n → (∀ r, sn'.getD r false = true ↔ sn.getD r false = true ∨ r ∈ met) → ∃ S' R', OI D n m k S' R' sn' (q + 1) (i + 1)) := by
  obtain ⟨h1, h2, _⟩ := J.rowM hi
  obtain ⟨n1, n2, n3⟩ := GD.nxt_ok J.w x r.xT
  obtain ⟨m1, m2, m3, m4⟩ := J.w.mtM _ n1 hn
  by_cases ho : OnBeam D.G (D.ent (m + i))
  · obtain ⟨L0, L, e, e', k1, k2, k3, k4⟩ := r.on ho
    obtain ⟨L', j1, j2⟩ := (GD.split J.w x r.xT L _ k2).1 hn
    have hp := GD.wy_pos J.w r.xT
    have hl : L'.length < L.length := by rw [j1, List.length_append]; omega
    refine ⟨fun hne => ⟨L'.length, by omega, m1, m2, fun _ => ⟨L0, L', e, e', k1, j2, rfl, by omega⟩, fun e => absurd ho e⟩, fun he => ?_⟩
    rw [he] at j2
    have := (k1.det j2).1
    rw [this] at k4; omega
  · obtain ⟨s2, l1, l2, l3, l4, l5, l6⟩ := r.off ho
    have hset : ∀ c, ((s2.set x true).set (D.nxt x) true).getD c false = true ↔ s2.getD c false = true ∨ c = x ∨ c = D.nxt x := fun c => bset2 s2 x (D.nxt x) c (by rw [l1]; exact r.xT) (by rw [l1]; exact n1)
    obtain ⟨_, L2⟩ := l2.step J.w ho l3 (S' := fun c => ((s2.set x true).set (D.nxt x) true).getD c false) hset
    have hcn : Cn D.G (D.ent (m + i)) (D.ent x) := l2.xT.2.2
    have hS0 : ((s2.set x true).set (D.nxt x) true).getD (m + i) false = true := by
      rcases l6 with h | h
      · rw [← h]; exact (hset x).2 (.inr (.inl rfl))
      · exact (hset _).2 (.inl h)
    have hu : unmk ((s2.set x true).set (D.nxt x) true) < f := by
      have q1 := unmk_lt s2 x (by rw [l1]; exact r.xT) l3
      have q2 := unmk_le (s2.set x true) (D.nxt x)
      omega
    refine ⟨fun hne => ⟨_, hu, m1, m2, fun e => absurd e ho, fun _ => ⟨(s2.set x true).set (D.nxt x) true, by simp [l1], L2, ?_, rfl, l5.step J r.xT r.xM hcn hn hset (.inl rfl), .inr hS0⟩⟩, fun he => ?_⟩
    · rcases L2.g with q1 | q1
      · exact q1
      · exact absurd q1 hne
    · have hrm := l5.step J r.xT r.xM hcn hn hset (met' := met) (.inr ⟨rfl, he⟩)
      rw [he] at L2 hrm
      have hSi := hS0
      have hSd := L2.done J.w H.s h1 h2 (by
        cases e : S (m + i) with
        | false => rfl
        | true => rw [(H.ss i hi).2 ⟨e, ho⟩] at hs; cases hs) hSi
      refine ⟨fun r hr => (l5.lt r hr).1, fun sn' hl' hn' => ⟨_, _, by simp [H.rl], hSd, RM.done J hi hrm rfl ho hSd hSi H.ss L2.sub hn', hl', by have := H.qi; omega⟩⟩
theorem crp_M {c : Nat} (h : D.isM c = true) : crp D n m k c = plc n m k (D.mt c) := by unfold crp; rw [if_pos h]
theorem JF.closed (J : JF D g h n m k) {c i : Nat} (hc : c < D.T) (hm : D.isM c = true) (hs : scd n m c = false) (hi : (plc n m k c).2 = i) : c = m + i := by
  have h1 := (J.row_plc hc hm).1
  rcases J.row_eq hc hm with ⟨e, _⟩ | ⟨_, e⟩
  · rw [← hi, h1]; exact e
  · rw [hs] at e; cases e
theorem OI.done (J : JF D g h n m k) {S : Nat → Bool} {R : List Nat} {sn : List Bool} {q : Nat} (H : OI D n m k S R sn q n) : (rounds D.G).length = (rounds g).length + (rounds h).length + q := by
  have := GD.glue J.w (J.seams H.s)
  rw [J.g0, J.h0, H.rl] at this
  exact this
end
end Go.Proofs.Ytmlkabddhdkpaaa
