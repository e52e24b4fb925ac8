/- The lengths of all beams, each one once: their sum is twice the number of cells just if there are no rounds. -/
import Derived.Test.YtmhmdlgcdeodmaaDoorAimP
namespace Go.Proofs.YtmhmdlgcdeodmaaDoor
set_option maxRecDepth 100000
set_option linter.unusedSimpArgs false
set_option linter.unusedVariables false
theorem Walk.nodup {g : Grid} {s : Nat × Nat} {L : List (Nat × Nat)} {e : Nat} (h : Walk g s L e) : L.Nodup := by
  induction h with
  | out h => simp
  | @on s s' L e h k ih =>
    refine List.nodup_cons.2 ⟨fun hm => ?_, ih⟩
    have key : ∀ {s : Nat × Nat} {L : List (Nat × Nat)} {e : Nat}, Walk g s L e → ∀ t ∈ L, ∃ M, Walk g t M e ∧ M.length ≤ L.length := by
      intro s L e h
      induction h with
      | out h => intro t ht; rw [List.mem_singleton.1 ht]; exact ⟨_, .out h, Nat.le_refl _⟩
      | on h k ih =>
        intro t ht
        rcases List.mem_cons.1 ht with rfl | ht
        · exact ⟨_, .on h k, Nat.le_refl _⟩
        · obtain ⟨M, h1, h2⟩ := ih t ht
          exact ⟨M, h1, by simp; omega⟩
    obtain ⟨M, h1, h2⟩ := key k s hm
    have h3 := ((Walk.on h k).det h1).1
    rw [← h3, List.length_cons] at h2
    omega
theorem nodup_flat {f : Nat → List Nat} : ∀ (l : List Nat), l.Nodup → (∀ p ∈ l, (f p).Nodup) → (∀ p ∈ l, ∀ q ∈ l, p ≠ q → ∀ x ∈ f p, x ∉ f q) → (l.flatMap f).Nodup
  | [], _, _, _ => by simp
  | p :: l, hn, h1, h2 => by
    rw [List.nodup_cons] at hn
    rw [List.flatMap_cons, List.nodup_append]
    refine ⟨h1 p (by simp), nodup_flat l hn.2 (fun q hq => h1 q (List.mem_cons_of_mem _ hq)) (fun q hq r hr => h2 q (List.mem_cons_of_mem _ hq) r (List.mem_cons_of_mem _ hr)), fun x hx y hy e => ?_⟩
    subst e
    obtain ⟨q, hq, hm⟩ := List.mem_flatMap.1 hy
    exact h2 p (by simp) q (List.mem_cons_of_mem _ hq) (fun e => hn.1 (by rw [e]; exact hq)) x hx hm
/-- all steps of all beams -/
def beamCodes (g : Grid) : List Nat := (List.range (ports g)).flatMap fun p => (way g p).1.map code
theorem way_share {g : Grid} (z : Sz g) {p q : Nat} (hp : p < ports g) (hq : q < ports g) {t : Nat × Nat} (h1 : t ∈ (way g p).1) (h2 : t ∈ (way g q).1) : p = q := by
  obtain ⟨M, hM⟩ := (way_walk z hp).suffix t h1
  obtain ⟨M', hM'⟩ := (way_walk z hq).suffix t h2
  have he := (hM.det hM').2
  have b1 := way_back z hp
  have b2 := way_back z hq
  rw [he] at b1
  rw [b1] at b2
  exact congrArg Prod.snd b2
theorem beamCodes_nodup {g : Grid} (z : Sz g) : (beamCodes g).Nodup := by
  unfold beamCodes
  refine nodup_flat _ List.nodup_range (fun p hp => ?_) (fun p hp q hq hne x hx1 hx2 => ?_)
  · have hp := List.mem_range.1 hp
    have hok := way_ok z hp
    have hn := (way_walk z hp).nodup
    generalize (way g p).1 = L at hok hn
    induction L with
    | nil => simp
    | cons a L ih =>
      rw [List.map_cons, List.nodup_cons]
      rw [List.nodup_cons] at hn
      refine ⟨fun hm => ?_, ih (fun t ht => hok t (List.mem_cons_of_mem _ ht)) hn.2⟩
      obtain ⟨b, hb, e⟩ := List.mem_map.1 hm
      have := code_inj (hok b (List.mem_cons_of_mem _ hb)) (hok a (by simp)) e
      rw [this] at hb
      exact hn.1 hb
  · have hp := List.mem_range.1 hp
    have hq := List.mem_range.1 hq
    obtain ⟨t, ht, e1⟩ := List.mem_map.1 hx1
    obtain ⟨u, hu, e2⟩ := List.mem_map.1 hx2
    have := code_inj (way_ok z hp t ht) (way_ok z hq u hu) (by rw [e1, e2])
    rw [← this] at hu
    exact hne (way_share z hp hq ht hu)
theorem beamCodes_lt {g : Grid} (z : Sz g) : ∀ x ∈ beamCodes g, x < 4 * (nR g * nC g) := fun x hx => by
  obtain ⟨p, hp, hx⟩ := List.mem_flatMap.1 hx
  obtain ⟨t, ht, e⟩ := List.mem_map.1 hx
  rw [← e]
  exact code_lt (way_ok z (List.mem_range.1 hp) t ht)
theorem beamCodes_mem {g : Grid} (z : Sz g) {x : Nat} : x ∈ beamCodes g ↔ OnBeam g (stepOf x) := by
  unfold beamCodes OnBeam
  rw [List.mem_flatMap]
  constructor
  · rintro ⟨p, hp, hx⟩
    obtain ⟨t, ht, e⟩ := List.mem_map.1 hx
    refine ⟨p, List.mem_range.1 hp, ?_⟩
    rw [← e, stepOf_code (way_ok z (List.mem_range.1 hp) t ht).d]
    exact ht
  · rintro ⟨p, hp, hx⟩
    exact ⟨p, List.mem_range.2 hp, List.mem_map.2 ⟨_, hx, code_stepOf x⟩⟩
/-- a list without doubles of numbers below N has at most N, and N just if it has all -/
theorem nodup_le (N : Nat) (l : List Nat) (hn : l.Nodup) (hl : ∀ x ∈ l, x < N) : l.length ≤ N := by
  refine pigeon N l.length (fun i => l.getD i 0) (fun i hi => ?_) (fun i j hij hj => ?_)
  · exact hl _ (List.mem_of_getElem? (getD_get l i 0 hi))
  · have h := (List.pairwise_iff_getElem.1 hn) i j (by omega) hj hij
    rw [List.getD_eq_getElem?_getD, List.getD_eq_getElem?_getD, List.getElem?_eq_getElem hj, List.getElem?_eq_getElem (show i < l.length by omega)]
    exact h
theorem all_le (N : Nat) (l : List Nat) (h : ∀ x, x < N → x ∈ l) : N ≤ l.length := by
  have hex : ∀ x, x < N → ∃ i, i < l.length ∧ l.getD i 0 = x := fun x hx => by
    obtain ⟨i, hi, e⟩ := List.getElem_of_mem (h x hx)
    exact ⟨i, hi, by rw [List.getD_eq_getElem?_getD, List.getElem?_eq_getElem hi]; exact e⟩
  have hex2 : ∀ x, ∃ i, x < N → (i < l.length ∧ l.getD i 0 = x) := fun x => by
    by_cases hx : x < N
    · obtain ⟨i, hi⟩ := hex x hx
      exact ⟨i, fun _ => hi⟩
    · exact ⟨0, fun h => absurd h hx⟩
  obtain ⟨f, hf⟩ := Classical.axiomOfChoice hex2
  refine pigeon l.length N f (fun x hx => (hf x hx).1) (fun x y hxy hy e => ?_)
  have h1 := (hf x (by omega)).2
  have h2 := (hf y hy).2
  rw [e, h2] at h1
  omega
theorem nodup_all {N : Nat} {l : List Nat} (hn : l.Nodup) (hl : ∀ x ∈ l, x < N) : l.length = N ↔ ∀ x, x < N → x ∈ l := by
  constructor
  · intro he x hx
    apply Classical.byContradiction
    intro hm
    have := nodup_le N (x :: l) (List.nodup_cons.2 ⟨hm, hn⟩) (fun y hy => by
      rcases List.mem_cons.1 hy with rfl | hy
      · exact hx
      · exact hl y hy)
    rw [List.length_cons] at this
    omega
  · intro h
    have h1 := nodup_le N l hn hl
    have h2 := all_le N l h
    omega
/-- sums over ports -/
def lenSum (g : Grid) : Nat → Nat
  | 0 => 0
  | p + 1 => lenSum g p + (way g p).1.length
/-- the first ends alone -/
def halfSum (g : Grid) : Nat → Nat
  | 0 => 0
  | p + 1 => halfSum g p + (if p < (way g p).2 then (way g p).1.length else 0)
theorem flatMap_len (g : Grid) : ∀ k, ((List.range k).flatMap fun p => (way g p).1.map code).length = lenSum g k
  | 0 => rfl
  | k + 1 => by
    rw [List.range_succ, List.flatMap_append, List.length_append, flatMap_len g k, lenSum]; simp
def otherSum (g : Grid) : Nat → Nat
  | 0 => 0
  | p + 1 => otherSum g p + (if (way g p).2 < p then (way g p).1.length else 0)
theorem sums_split {g : Grid} (z : Sz g) : ∀ k, k ≤ ports g → lenSum g k = halfSum g k + otherSum g k
  | 0, _ => rfl
  | k + 1, h => by
    rw [lenSum, halfSum, otherSum, sums_split z k (by omega)]
    have hne := way_ne z (p := k) (by omega)
    by_cases h1 : k < (way g k).2
    · rw [if_pos h1, if_neg (by omega)]; omega
    · rw [if_neg h1, if_pos (by omega)]; omega
/-- a double sum over pairs -/
def pairSum (F : Nat → Nat → Nat) : Nat → Nat → Nat
  | 0, _ => 0
  | p + 1, P => pairSum F p P + tri (F p) P
where tri (f : Nat → Nat) : Nat → Nat
  | 0 => 0
  | q + 1 => tri f q + f q
theorem tri_zero (f : Nat → Nat) : ∀ P, (∀ q, q < P → f q = 0) → pairSum.tri f P = 0
  | 0, _ => rfl
  | P + 1, h => by rw [pairSum.tri, tri_zero f P (fun q hq => h q (by omega)), h P (by omega)]
theorem tri_one (f : Nat → Nat) (e : Nat) : ∀ P, (∀ q, q < P → q ≠ e → f q = 0) → pairSum.tri f P = if e < P then f e else 0
  | 0, _ => by rw [if_neg (by omega)]; rfl
  | P + 1, h => by
    rw [pairSum.tri, tri_one f e P (fun q hq => h q (by omega))]
    by_cases h1 : e < P
    · rw [if_pos h1, if_pos (by omega), h P (by omega) (by omega)]; rfl
    · by_cases h2 : e = P
      · rw [if_neg h1, if_pos (by omega), h2]; omega
      · rw [if_neg h1, if_neg (by omega), h P (by omega) (fun e2 => h2 e2.symm)]
theorem tri_add (f h : Nat → Nat) : ∀ P, pairSum.tri (fun q => f q + h q) P = pairSum.tri f P + pairSum.tri h P
  | 0 => rfl
  | P + 1 => by rw [pairSum.tri, pairSum.tri, pairSum.tri, tri_add f h P]; omega
theorem pair_row (F : Nat → Nat → Nat) (P : Nat) : ∀ k, pairSum F k (P + 1) = pairSum F k P + pairSum.tri (fun p => F p P) k
  | 0 => rfl
  | k + 1 => by rw [pairSum, pairSum, pair_row F P k, pairSum.tri, pairSum.tri]; omega
theorem pair_swap (F : Nat → Nat → Nat) : ∀ a b, pairSum F a b = pairSum (fun x y => F y x) b a
  | 0, 0 => rfl
  | 0, b + 1 => by
    have := pair_swap F 0 b
    rw [show pairSum F 0 (b + 1) = 0 from rfl, pairSum, ← this]; rfl
  | a + 1, b => by
    rw [pair_row (fun x y => F y x) a b, pairSum, pair_swap F a b]
theorem half_pair {g : Grid} (z : Sz g) : ∀ k, k ≤ ports g → halfSum g k = pairSum (fun p q => if (way g p).2 = q ∧ p < q then (way g p).1.length else 0) k (ports g)
  | 0, _ => rfl
  | k + 1, h => by
    rw [halfSum, pairSum, half_pair z k (by omega), tri_one _ (way g k).2 (ports g) (fun q _ hq => by rw [if_neg (fun e => hq e.1.symm)]), if_pos (way_end z (by omega))]
    by_cases h1 : k < (way g k).2
    · rw [if_pos h1, if_pos ⟨rfl, h1⟩]
    · rw [if_neg h1, if_neg (fun e => h1 e.2)]
theorem other_pair {g : Grid} (z : Sz g) : ∀ k, k ≤ ports g → otherSum g k = pairSum (fun p q => if (way g p).2 = q ∧ q < p then (way g p).1.length else 0) k (ports g)
  | 0, _ => rfl
  | k + 1, h => by
    rw [otherSum, pairSum, other_pair z k (by omega), tri_one _ (way g k).2 (ports g) (fun q _ hq => by rw [if_neg (fun e => hq e.1.symm)]), if_pos (way_end z (by omega))]
    by_cases h1 : (way g k).2 < k
    · rw [if_pos h1, if_pos ⟨rfl, h1⟩]
    · rw [if_neg h1, if_neg (fun e => h1 e.2)]
theorem tri_congr {f h : Nat → Nat} : ∀ P, (∀ q, q < P → f q = h q) → pairSum.tri f P = pairSum.tri h P
  | 0, _ => rfl
  | P + 1, e => by rw [pairSum.tri, pairSum.tri, tri_congr P (fun q hq => e q (by omega)), e P (by omega)]
theorem pair_congr {F G : Nat → Nat → Nat} {P : Nat} : ∀ k, (∀ p q, p < k → q < P → F p q = G p q) → pairSum F k P = pairSum G k P
  | 0, _ => rfl
  | k + 1, e => by rw [pairSum, pairSum, pair_congr k (fun p q hp hq => e p q (by omega) hq), tri_congr P (fun q hq => e k q (by omega) hq)]
theorem half_other {g : Grid} (z : Sz g) : halfSum g (ports g) = otherSum g (ports g) := by
  rw [half_pair z _ (Nat.le_refl _), other_pair z _ (Nat.le_refl _), pair_swap]
  refine pair_congr _ fun p q hp hq => ?_
  by_cases h : (way g q).2 = p ∧ q < p
  · rw [if_pos h, if_pos ⟨(way_swap z hq hp).1 h.1, h.2⟩]
    have := way_back_len z hq
    rw [h.1] at this
    exact this.symm
  · rw [if_neg h, if_neg (fun e => h ⟨(way_swap z hp hq).1 e.1, e.2⟩)]
/-- the law of lengths -/
theorem half_iff {g : Grid} (z : Sz g) : halfSum g (ports g) = 2 * (nR g * nC g) ↔ (rounds g).length = 0 := by
  have h1 := sums_split z (ports g) (Nat.le_refl _)
  have h2 := half_other z
  have h3 : (beamCodes g).length = lenSum g (ports g) := flatMap_len g _
  rw [rounds_nil z]
  have h4 := nodup_all (beamCodes_nodup z) (beamCodes_lt z)
  constructor
  · intro h x hx
    exact (beamCodes_mem z).1 (h4.1 (by omega) x hx)
  · intro h
    have := h4.2 fun x hx => (beamCodes_mem z).2 (h x hx)
    omega
theorem halfSum_le {g : Grid} (z : Sz g) : ∀ k, k ≤ ports g → halfSum g k ≤ 4 * (nR g * nC g)
  | k, hk => by
    have h1 := sums_split z k hk
    have h3 : ((List.range k).flatMap fun p => (way g p).1.map code).length = lenSum g k := flatMap_len g _
    have h5 : (beamCodes g).length = lenSum g (ports g) := flatMap_len g _
    have h6 := nodup_le _ _ (beamCodes_nodup z) (beamCodes_lt z)
    have h7 : ∀ d, lenSum g k ≤ lenSum g (k + d) := fun d => by
      induction d with
      | zero => exact Nat.le_refl _
      | succ d ih => rw [← Nat.add_assoc, lenSum]; omega
    have h8 := h7 (ports g - k)
    rw [show k + (ports g - k) = ports g by omega] at h8
    omega
end Go.Proofs.YtmhmdlgcdeodmaaDoor
