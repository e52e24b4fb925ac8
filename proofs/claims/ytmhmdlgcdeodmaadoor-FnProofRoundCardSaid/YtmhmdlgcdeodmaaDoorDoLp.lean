/- The lengths of all beams, each one once: their sum is twice the number of cells just if there are no rounds. -/
import Derived.Test.YtmhmdlgcdeodmaaDoorAimP
namespace Go.Proofs.YtmhmdlgcdeodmaaDoor
set_option maxRecDepth 100000
set_option linter.unusedSimpArgs false
set_option linter.unusedVariables false
theorem Walk.nodup {g : Grid} {s : Nat × Nat} {L : List (Nat × Nat)} {e : Nat} (h : Walk g s L e) : L.Nodup := by
  induction h with
  | out h => simp
  | @on s s' L e h k ih =>
    refine List.nodup_cons.2 ⟨fun hm => ?_, ih⟩
    have key : ∀ {s : Nat × Nat} {L : List (Nat × Nat)} {e : Nat}, Walk g s L e → ∀ t ∈ L, ∃ M, Walk g t M e ∧ M.length ≤ L.length := by
      intro s L e h
      induction h with
      | out h => intro t ht; rw [List.mem_singleton.1 ht]; exact ⟨_, .out h, Nat.le_refl _⟩
      | on h k ih =>
        intro t ht
        rcases List.mem_cons.1 ht with rfl | ht
        · exact ⟨_, .on h k, Nat.le_refl _⟩
        · obtain ⟨M, h1, h2⟩ := ih t ht
          exact ⟨M, h1, by simp; omega⟩
    obtain ⟨M, h1, h2⟩ := key k s hm
    have h3 := ((Walk.on h k).det h1).1
    rw [← h3, List.length_cons] at h2
    omega
theorem nodup_flat {f : Nat → List Nat} : ∀ (l : List Nat), l.Nodup → (∀ p ∈ l, (f p).Nodup) → (∀ p ∈ l, ∀ q ∈ l, p ≠ q → ∀ x ∈ f p, x ∉ f q) → (l.flatMap f).Nodup
  | [], _, _, _ => by simp
  | p :: l, hn, h1, h2 => by
    rw [List.nodup_cons] at hn
    rw [List.flatMap_cons, List.nodup_append]
    refine ⟨h1 p (by simp), nodup_flat l hn.2 (fun q hq => h1 q (List.mem_cons_of_mem _ hq)) (fun q hq r hr => h2 q (List.mem_cons_of_mem _ hq) r (List.mem_cons_of_mem _ hr)), fun x hx y hy e => ?_⟩
    subst e
    obtain ⟨q, hq, hm⟩ := List.mem_flatMap.1 hy
    exact h2 p (by simp) q (List.mem_cons_of_mem _ hq) (fun e => hn.1 (by rw [e]; exact hq)) x hx hm
/-- all steps of all beams -/
def beamCodes (g : Grid) : List Nat := (List.range (ports g)).flatMap fun p => (way g p).1.map code
theorem way_share {g : Grid} (z : Sz g) {p q : Nat} (hp : p < ports g) (hq : q < ports g) {t : Nat × Nat} (h1 : t ∈ (way g p).1) (h2 : t ∈ (way g q).1) : p = q := by
  obtain ⟨M, hM⟩ := (way_walk z hp).suffix t h1
  obtain ⟨M', hM'⟩ := (way_walk z hq).suffix t h2
  have he := (hM.det hM').2
  have b1 := way_back z hp
  have b2 := way_back z hq
  rw [he] at b1
  rw [b1] at b2
  exact congrArg Prod.snd b2
theorem beamCodes_nodup {g : Grid} (z : Sz g) : (beamCodes g).Nodup := by
  unfold beamCodes
  refine nodup_flat _ List.nodup_range (fun p hp => ?_) (fun p hp q hq hne x hx1 hx2 => ?_)
  · have hp := List.mem_range.1 hp
    have hok := way_ok z hp
    have hn := (way_walk z hp).nodup
    generalize (way g p).1 = L at hok hn
    induction L with
    | nil => simp
    | cons a L ih =>
      rw [List.map_cons, List.nodup_cons]
      rw [List.nodup_cons] at hn
      refine ⟨fun hm => ?_, ih (fun t ht => hok t (List.mem_cons_of_mem _ ht)) hn.2⟩
      obtain ⟨b, hb, e⟩ := List.mem_map.1 hm
      have := code_inj (hok b (List.mem_cons_of_mem _ hb)) (hok a (by simp)) e
      rw [this] at hb
      exact hn.1 hb
  · have hp := List.mem_range.1 hp
    have hq := List.mem_range.1 hq
    obtain ⟨t, ht, e1⟩ := List.mem_map.1 hx1
    obtain ⟨u, hu, e2⟩ := List.mem_map.1 hx2
    have := code_inj (way_ok z hp t ht) (way_ok z hq u hu) (by rw [e1, e2])
    rw [← this] at hu
    exact hne (way_share z hp hq ht hu)
theorem beamCodes_lt {g : Grid} (z : Sz g) : ∀ x ∈ beamCodes g, x < 4 * (nR g * nC g) := fun x hx => by
  obtain ⟨p, hp, hx⟩ := List.mem_flatMap.1 hx
  obtain ⟨t, ht, e⟩ := List.mem_map.1 hx
  rw [← e]
  exact code_lt (way_ok z (List.mem_range.1 hp) t ht)
theorem beamCodes_mem {g : Grid} (z : Sz g) {x : Nat} : x ∈ beamCodes g ↔ OnBeam g (stepOf x) := by
  unfold beamCodes OnBeam
  rw [List.mem_flatMap]
  constructor
  · rintro ⟨p, hp, hx⟩
    obtain ⟨t, ht, e⟩ := List.mem_map.1 hx
    refine ⟨p, List.mem_range.1 hp, ?_⟩
    rw [← e, stepOf_code (way_ok z (List.mem_range.1 hp) t ht).d]
    exact ht
  · rintro ⟨p, hp, hx⟩
    exact ⟨p, List.mem_range.2 hp, List.mem_map.2 ⟨_, hx, code_stepOf x⟩⟩
/-- a list without doubles of numbers below N has at most N, and N just if it has all -/
theorem nodup_le (N : Nat) (l : List Nat) (hn : l.Nodup) (hl : ∀ x ∈ l, x < N) : l.length ≤ N := by
  refine pigeon N l.length (fun i => l.getD i 0) (fun i hi => ?_) (fun i j hij hj => ?_)
  · exact hl _ (List.mem_of_getElem? (getD_get l i 0 hi))
  · have h := (List.pairwise_iff_getElem.1 hn) i j (by omega) hj hij
    rw [List.getD_eq_getElem?_getD, List.getD_eq_getElem?_getD, List.getElem?_eq_getElem hj, List.getElem?_eq_getElem (show i < l.length by omega)]
    exact h
theorem all_le (N : Nat) (l : List Nat) (h : ∀ x, x < N → x ∈ l) : N ≤ l.length := by
  have hex : ∀ x, x < N → ∃ i, i < l.length ∧ l.getD i 0 = x := fun x hx => by
    obtain ⟨i, hi, e⟩ := List.getElem_of_mem (h x hx)
    exact ⟨i, hi, by rw [List.getD_eq_getElem?_getD, List.getElem?_eq_getElem hi]; exact e⟩
  have hex2 : ∀ x, ∃ i, x < N → (i < l.length ∧ l.getD i 0 = x) := fun x => by
    by_cases hx : x < N
    · obtain ⟨i, hi⟩ := hex x hx
      exact ⟨i, fun _ => hi⟩
    · exact ⟨0, fun h => absurd h hx⟩
  obtain ⟨f, hf⟩ := Classical.axiomOfChoice hex2
  refine pigeon l.length N f (fun x hx => (hf x hx).1) (fun x y hxy hy e => ?_)
  have h1 := (hf x (by omega)).2
  have h2 := (hf y hy).2
  rw [e, h2] at h1
  omega
theorem nodup_all {N : Nat} {l : List Nat} (hn : l.Nodup) (hl : ∀ x ∈ l, x < N) : l.length = N ↔ ∀ x, x < N → x ∈ l := by
  constructor
  · intro he x hx
    apply Classical.byContradiction
    intro hm
    have := nodup_le N (x :: l) (List.nodup_cons.2 ⟨hm, hn⟩) (fun y hy => by
      rcases List.mem_cons.1 hy with rfl | hy
      · exact hx
      · exact hl y hy)
    rw [List.length_cons] at this
    omega
  · intro h
    have h1 := nodup_le N l hn hl
    have h2 := all_le N l h
    omega
/-- sums over ports -/
def lenSum (g : Grid) : Nat → Nat
  | 0 => 0
  | p + 1 => lenSum g p + (way g p).1.length
/-- the first ends alone -/
def halfSum (g : Grid) : Nat → Nat
  | 0 => 0
  | p + 1 => halfSum g p + (if p < (way g p).2 then (way g p).1.length else 0)
theorem flatMap_len (g : Grid) : ∀ k, ((List.range k).flatMap fun p => (way g p).1.map code).length = lenSum g k
  | 0 => rfl
  | k + 1 => by
    rw [List.range_succ, List.flatMap_append, List.length_append, flatMap_len g k, lenSum]; simp
def otherSum (g : Grid) : Nat → Nat
  | 0 => 0
  | p + 1 => otherSum g p + (if (way g p).2 < p then (way g p).1.length else 0)
theorem sums_split {g : Grid} (z : Sz g) : ∀ k, k ≤ ports g → lenSum g k = halfSum g k + otherSum g k
  | 0, _ => rfl
  | k + 1, h => by
    rw [lenSum, halfSum, otherSum, sums_split z k (by omega)]
    have hne := way_ne z (p := k) (by omega)
    by_cases h1 : k < (way g k).2
    · rw [if_pos h1, if_neg (by omega)]; omega
    · rw [if_neg h1, if_pos (by omega)]; omega
/-- a double sum over pairs -/
def pairSum (F : Nat → Nat → Nat) : Nat → Nat → Nat
  | 0, _ => 0
  | p + 1, P => pairSum F p P + tri (F p) P
where tri (f : Nat → Nat) : Nat → Nat
  | 0 => 0
  | q + 1 => tri f q + f q
theorem tri_zero (f : Nat → Nat) : ∀ P, (∀ q, q < P → f q = 0) → pairSum.tri f P = 0
  | 0, _ => rfl
  | P + 1, h => by rw [pairSum.tri, tri_zero f P (fun q hq => h q (by omega)), h P (by omega)]
theorem tri_one (f : Nat → Nat) (e : Nat) : ∀ P, (∀ q, q < P → q ≠ e → f q = 0) → pairSum.tri f P = if e < P then f e else 0
  | 0, _ => by rw [if_neg (by omega)]; rfl
  | P + 1, h => by
    rw [pairSum.tri, tri_one f e P (fun q hq => h q (by omega))]
    by_cases h1 : e < P
    · rw [if_pos h1, if_pos (by omega), h P (by omega) (by omega)]; rfl
    · by_cases h2 : e = P
      · rw [if_neg h1, if_pos (by omega), h2]; omega
      · rw [if_neg h1, if_neg (by omega), h P (by omega) (fun e2 => h2 e2.symm)]
theorem tri_add (f h : Nat → Nat) : ∀ P, pairSum.tri (fun q => f q + h q) P = pairSum.tri f P + pairSum.tri h P
  | 0 => rfl
  | P + 1 => by rw [pairSum.tri, pairSum.tri, pairSum.tri, tri_add f h P]; omega
theorem pair_row (F : Nat → Nat → Nat) (P : Nat) : ∀ k, pairSum F k (P + 1) = pairSum F k P + pairSum.tri (fun p => F p P) k
  | 0 => rfl
  | k + 1 => by rw [pairSum, pairSum, pair_row F P k, pairSum.tri, pairSum.tri]; omega
theorem pair_swap (F : Nat → Nat → Nat) : ∀ a b, pairSum F a b = pairSum (fun x y => F y x) b a
  | 0, 0 => rfl
  | 0, b + 1 => by
    have := pair_swap F 0 b
    rw [show pairSum F 0 (b + 1) = 0 from rfl, pairSum, ← this]; rfl
  | a + 1, b => by
    rw [pair_row (fun x y => F y x) a b, pairSum, pair_swap F a b]
theorem half_pair {g : Grid} (z : Sz g) : ∀ k, k ≤ ports g → halfSum g k = pairSum (fun p q => if (way g p).2 = q ∧ p < q then (way g p).1.length else 0) k (ports g)
  | 0, _ => rfl
  | k + 1, h => by
    rw [halfSum, pairSum, half_pair z k (by omega), tri_one _ (way g k).2 (ports g) (fun q _ hq => by rw [if_neg (fun e => hq e.1.symm)]), if_pos (way_end z (by omega))]
    by_cases h1 : k < (way g k).2
    · rw [if_pos h1, if_pos ⟨rfl, h1⟩]
    · rw [if_neg h1, if_neg (fun e => h1 e.2)]
theorem other_pair {g : Grid} (z : Sz g) : ∀ k, k ≤ ports g → otherSum g k = pairSum (fun p q => if (way g p).2 = q ∧ q < p then (way g p).1.length else 0) k (ports g)
  | 0, _ => rfl
  | k + 1, h => by
    rw [otherSum, pairSum, other_pair z k (by omega), tri_one _ (way g k).2 (ports g) (fun q _ hq => by rw [if_neg (fun e => hq e.1.symm)]), if_pos (way_end z (by omega))]
    by_cases h1 : (way g k).2 < k
    · rw [if_pos h1, if_pos ⟨rfl, h1⟩]
    · rw [if_neg h1, if_neg (fun e => h1 e.2)]
theorem tri_congr {f h : Nat → Nat} : ∀ P, (∀ q, q < P → f q = h q) → pairSum.tri f P = pairSum.tri h P
  | 0, _ => rfl
  | P + 1, e => by rw [pairSum.tri, pairSum.tri, tri_congr P (fun q hq => e q (by omega)), e P (by omega)]
theorem pair_congr {F G : Nat → Nat → Nat} {P : Nat} : ∀ k, (∀ p q, p < k → q < P → F p q = G p q) → pairSum F k P = pairSum G k P
  | 0, _ => rfl
  | k + 1, e => by rw [pairSum, pairSum, pair_congr k (fun p q hp hq => e p q (by omega) hq), tri_congr P (fun q hq => e k q (by omega) hq)]
theorem half_other {g : Grid} (z : Sz g) : halfSum g (ports g) = otherSum g (ports g) := by
  rw [half_pair z _ (Nat.le_refl _), other_pair z _ (Nat.le_refl _), pair_swap]
  refine pair_congr _ fun p q hp hq => ?_
  by_cases h : (way g q).2 = p ∧ q < p
  · rw [if_pos h, if_pos ⟨(way_swap z hq hp).1 h.1, h.2⟩]
    have := way_back_len z hq
    rw [h.1] at this
    exact this.symm
  · rw [if_neg h, if_neg (fun e => h ⟨(way_swap z hp hq).1 e.1, e.2⟩)]
/-- the law of lengths -/
theorem half_iff {g : Grid} (z : Sz g) : halfSum g (ports g) = 2 * (nR g * nC g) ↔ (rounds g).length = 0 := by
  have h1 := sums_split z (ports g) (Nat.le_refl _)
  have h2 := half_other z
  have h3 : (beamCodes g).length = lenSum g (ports g) := flatMap_len g _
  rw [rounds_nil z]
  have h4 := nodup_all (beamCodes_nodup z) (beamCodes_lt z)
  constructor
  · intro h x hx
    exact (beamCodes_mem z).1 (h4.1 (by omega) x hx)
  · intro h
    have := h4.2 fun x hx => (beamCodes_mem z).2 (h x hx)
    omega
theorem halfSum_le {g : Grid} (z : Sz g) : ∀ k, k ≤ ports g → halfSum g k ≤ 4 * (nR g * nC g)
  | k, hk => by
    have h1 := sums_split z k hk
    have h3 : ((List.range k).flatMap fun p => (way g p).1.map code).length = lenSum g k := flatMap_len g _
    have h5 : (beamCodes g).length = lenSum g (ports g) := flatMap_len g _
    have h6 := nodup_le _ _ (beamCodes_nodup z) (beamCodes_lt z)
    have h7 : ∀ d, lenSum g k ≤ lenSum g (k + d) := fun d => by
      induction d with
      | zero => exact Nat.le_refl _
      | succ d ih => rw [← Nat.add_assoc, lenSum]; omega
    have h8 := h7 (ports g - k)
    rw [show k + (ports g - k) = ports g by omega] at h8
    omega
end Go.Proofs.YtmhmdlgcdeodmaaDoor

/- Proofs as texts: rounds and their numbers; how such a text is read. -/
namespace Go.Proofs.YtmhmdlgcdeodmaaDoor
set_option maxRecDepth 100000
set_option linter.unusedSimpArgs false
set_option linter.unusedVariables false
/-- a number below 100 in decimals -/
def decL (n : Nat) : Str := if n < 10 then [UInt8.ofNat (48 + n)] else [UInt8.ofNat (48 + n / 10), UInt8.ofNat (48 + n % 10)]
def digB (c : UInt8) : Bool := decide (48 ≤ c.toNat) && decide (c.toNat ≤ 57)
def rnd : Str := [114, 111, 117, 110, 100, 32]
/-- a number of one or two digits, without a nought ahead; where it ends (0: there is none) -/
def numAt (s : Str) (a : Nat) : Nat × Nat :=
  if s.length ≤ a ∨ digB (s.getD a 0) = false then (0, 0)
  else if s.length ≤ a + 1 ∨ digB (s.getD (a + 1) 0) = false then ((s.getD a 0).toNat - 48, a + 1)
  else if s.getD a 0 = 48 then (0, 0)
  else (10 * ((s.getD a 0).toNat - 48) + ((s.getD (a + 1) 0).toNat - 48), a + 2)
/-- cell and ways of a text -/
def parseR (t : Str) : Option (Nat × Str) :=
  if t.take 6 ≠ rnd then none
  else if (numAt t 6).2 = 0 ∨ t.length ≤ (numAt t 6).2 + 1 ∨ t.getD (numAt t 6).2 0 ≠ 32 then none
  else some ((numAt t 6).1, t.drop ((numAt t 6).2 + 1))
def decChk (n : Nat) : Bool := (decL n).all digB && (decide (n < 10) || decide ((decL n).getD 0 0 ≠ 48)) && decide (decL n ≠ [])
theorem decAll : ∀ n < 100, decChk n = true := by decide +kernel
def decRead (n : Nat) : Bool := if n < 10 then decide (((decL n).getD 0 0).toNat - 48 = n) && decide ((decL n).length = 1) && digB ((decL n).getD 0 0) else decide (10 * (((decL n).getD 0 0).toNat - 48) + (((decL n).getD 1 0).toNat - 48) = n) && decide ((decL n).length = 2) && digB ((decL n).getD 0 0) && digB ((decL n).getD 1 0) && decide ((decL n).getD 0 0 ≠ 48)
theorem decReadAll : ∀ n < 100, decRead n = true := by decide +kernel
theorem decL_len {n : Nat} (h : n < 100) : 1 ≤ (decL n).length ∧ (decL n).length ≤ 2 := by
  unfold decL; split <;> simp
theorem parse_of {c : Nat} {u : Str} (hc : c < 100) (hu : u ≠ []) : parseR (rnd ++ decL c ++ [32] ++ u) = some (c, u) := by
  have hr := decReadAll c hc
  have hu1 : 0 < u.length := List.length_pos_iff.2 hu
  have htake : (rnd ++ decL c ++ [32] ++ u).take 6 = rnd := by simp [rnd]
  unfold decRead at hr
  by_cases h10 : c < 10
  · rw [if_pos h10] at hr
    simp only [Bool.and_eq_true, decide_eq_true_eq] at hr
    obtain ⟨⟨h1, h2⟩, h3⟩ := hr
    obtain ⟨d, hd⟩ : ∃ d, decL c = [d] := by
      match h : decL c, h2 with
      | [d], _ => exact ⟨d, rfl⟩
    rw [hd] at h1 h3
    have e6 : (rnd ++ decL c ++ [32] ++ u).getD 6 0 = d := by rw [hd]; rfl
    have e7 : (rnd ++ decL c ++ [32] ++ u).getD 7 0 = 32 := by rw [hd]; rfl
    have hl : (rnd ++ decL c ++ [32] ++ u).length = 8 + u.length := by rw [hd]; simp [rnd]; omega
    have hdr : (rnd ++ decL c ++ [32] ++ u).drop 8 = u := by rw [hd]; rfl
    have hn : numAt (rnd ++ decL c ++ [32] ++ u) 6 = (c, 7) := by
      unfold numAt
      rw [e6, e7, hl, if_neg (by rw [show digB d = true from h3]; simp; omega), if_pos (.inr (by decide))]
      exact Prod.ext h1 rfl
    unfold parseR
    rw [if_neg (by rw [htake]; simp), hn]
    dsimp only
    rw [if_neg (by rw [e7, hl]; simp; omega), hdr]
  · rw [if_neg h10] at hr
    simp only [Bool.and_eq_true, decide_eq_true_eq] at hr
    obtain ⟨⟨⟨⟨h1, h2⟩, h3⟩, h4⟩, h5⟩ := hr
    obtain ⟨d, e, hd⟩ : ∃ d e, decL c = [d, e] := by
      match h : decL c, h2 with
      | [d, e], _ => exact ⟨d, e, rfl⟩
    rw [hd] at h1 h3 h4 h5
    have e6 : (rnd ++ decL c ++ [32] ++ u).getD 6 0 = d := by rw [hd]; rfl
    have e7 : (rnd ++ decL c ++ [32] ++ u).getD 7 0 = e := by rw [hd]; rfl
    have e8 : (rnd ++ decL c ++ [32] ++ u).getD 8 0 = 32 := by rw [hd]; rfl
    have hl : (rnd ++ decL c ++ [32] ++ u).length = 9 + u.length := by rw [hd]; simp [rnd]; omega
    have hdr : (rnd ++ decL c ++ [32] ++ u).drop 9 = u := by rw [hd]; rfl
    have hn : numAt (rnd ++ decL c ++ [32] ++ u) 6 = (c, 8) := by
      unfold numAt
      rw [e6, e7, hl, if_neg (by rw [show digB d = true from h3]; simp; omega), if_neg (by rw [show digB e = true from h4]; simp; omega), if_neg (show ¬ d = 48 from h5)]
      exact Prod.ext h1 rfl
    unfold parseR
    rw [if_neg (by rw [htake]; simp), hn]
    dsimp only
    rw [if_neg (by rw [e8, hl]; simp; omega), hdr]
theorem dig1 : ∀ k < 10, decL k = [UInt8.ofNat (48 + k)] := by decide +kernel
theorem dig2 : ∀ a < 10, ∀ b < 10, 0 < a → decL (10 * a + b) = [UInt8.ofNat (48 + a), UInt8.ofNat (48 + b)] := by decide +kernel
theorem dig_of {c : UInt8} (h : digB c = true) : c.toNat - 48 < 10 ∧ c = UInt8.ofNat (48 + (c.toNat - 48)) := by
  simp only [digB, Bool.and_eq_true, decide_eq_true_eq] at h
  refine ⟨by omega, ?_⟩
  rw [show 48 + (c.toNat - 48) = c.toNat by omega, UInt8.ofNat_toNat]
theorem parse_some {t : Str} {c : Nat} {u : Str} (h : parseR t = some (c, u)) : c < 100 ∧ u ≠ [] ∧ t = rnd ++ decL c ++ [32] ++ u := by
  unfold parseR at h
  split at h
  · cases h
  · next h6 =>
    split at h
    · cases h
    · next hb =>
      have h6 := Classical.not_not.1 h6
      simp only [Option.some.injEq, Prod.mk.injEq] at h
      obtain ⟨hc, hu⟩ := h
      obtain ⟨r, hr⟩ : ∃ r, t = rnd ++ r := ⟨t.drop 6, by rw [← h6, List.take_append_drop]⟩
      subst hr
      have g6 : ∀ k, (rnd ++ r).getD (6 + k) 0 = r.getD k 0 := fun k => by
        rw [List.getD_eq_getElem?_getD, List.getElem?_append_right (by simp [rnd]), List.getD_eq_getElem?_getD]
        simp [rnd]
      have hlen : (rnd ++ r).length = 6 + r.length := by simp [rnd]; omega
      have g60 := g6 0
      have g61 := g6 1
      unfold numAt at hc hu hb
      rw [hlen] at hc hu hb
      simp only [Nat.add_zero] at g60
      rw [g60, show 6 + 1 = 7 from rfl] at hc hu hb
      rw [show 6 + 1 = 7 from rfl] at g61
      rw [g61] at hc hu hb
      by_cases c1 : 6 + r.length ≤ 6 ∨ digB (r.getD 0 0) = false
      · rw [if_pos c1] at hb; exact absurd (.inl rfl) hb
      · rw [if_neg c1] at hc hu hb
        have d0 : digB (r.getD 0 0) = true := by
          cases e : digB (r.getD 0 0) with
          | true => rfl
          | false => exact absurd (.inr e) c1
        have hr1 : 1 ≤ r.length := by omega
        obtain ⟨k0, k1⟩ := dig_of d0
        by_cases c2 : 6 + r.length ≤ 7 ∨ digB (r.getD 1 0) = false
        · rw [if_pos c2] at hc hu hb
          dsimp only at hc hu hb
          rw [g61] at hb
          subst hc
          have hb2 : r.getD 1 0 = 32 := by
            apply Classical.byContradiction
            exact fun e => hb (.inr (.inr e))
          have hb3 : 2 < r.length := by omega
          refine ⟨by omega, ?_, ?_⟩
          · rw [← hu]
            intro e
            have := congrArg List.length e
            rw [List.length_drop, hlen] at this
            simp at this; omega
          · rw [dig1 _ k0, ← k1, ← hu]
            match r, hb3, hb2 with
            | x :: y :: r', _, hb2 =>
              have : y = 32 := hb2
              subst this
              simp [rnd]
        · rw [if_neg c2] at hc hu hb
          have d1 : digB (r.getD 1 0) = true := by
            cases e : digB (r.getD 1 0) with
            | true => rfl
            | false => exact absurd (.inr e) c2
          obtain ⟨m0, m1⟩ := dig_of d1
          by_cases c3 : r.getD 0 0 = 48
          · rw [if_pos c3] at hb; exact absurd (.inl rfl) hb
          · rw [if_neg c3] at hc hu hb
            dsimp only at hc hu hb
            rw [show 6 + 2 = 6 + 2 from rfl, g6 2] at hb
            subst hc
            have hb2 : r.getD 2 0 = 32 := by
              apply Classical.byContradiction
              exact fun e => hb (.inr (.inr e))
            have hb3 : 3 < r.length := by omega
            have ha : 0 < (r.getD 0 0).toNat - 48 := by
              apply Classical.byContradiction
              intro e
              have e2 : (r.getD 0 0).toNat - 48 = 0 := by omega
              rw [e2] at k1
              exact c3 k1
            refine ⟨by omega, ?_, ?_⟩
            · rw [← hu]
              intro e
              have := congrArg List.length e
              rw [List.length_drop, hlen] at this
              simp at this; omega
            · rw [dig2 _ k0 _ m0 ha, ← k1, ← m1, ← hu]
              match r, hb3, hb2 with
              | x :: y :: v :: r', _, hb2 =>
                have : v = 32 := hb2
                subst this
                simp [rnd]
/-- the proof of the round of a step; empty if it is on a beam -/
def waysL (L : List (Nat × Nat)) : Str := L.map fun s => dirL s.2
def roundText (g : Grid) (s : Nat × Nat) : Str := if (close g s).2 = true then rnd ++ decL s.1 ++ [32] ++ waysL (close g s).1 else []
theorem waysL_ne {g : Grid} (z : Sz g) {s : Nat × Nat} (hs : Ok g s) : waysL (close g s).1 ≠ [] := by
  obtain ⟨M, h⟩ := close_head z hs
  rw [h]; simp [waysL]
theorem cell_100 {g : Grid} (z : Sz g) {s : Nat × Nat} (hs : Ok g s) : s.1 < 100 := by
  have h1 := hs.cell
  have h2 : nR g * nC g ≤ 5 * 5 := Nat.mul_le_mul (by have := z.n5; omega) (by have := z.m5; omega)
  omega
theorem roundText_parse {g : Grid} (z : Sz g) {s : Nat × Nat} (hs : Ok g s) {t : Str} (ht : t ≠ []) : roundText g s = t ↔ (parseR t = some (s.1, waysL (close g s).1) ∧ (close g s).2 = true) := by
  constructor
  · intro h
    unfold roundText at h
    split at h
    · next hc => rw [← h]; exact ⟨parse_of (cell_100 z hs) (waysL_ne z hs), hc⟩
    · exact absurd h.symm ht
  · rintro ⟨h, hc⟩
    unfold roundText
    rw [if_pos hc]
    exact (parse_some h).2.2.symm
/-- whether a direction at a cell tells these ways -/
def tellsB (g : Grid) (c : Nat) (u : Str) (d : Nat) : Bool := (close g (c, d)).2 && decide (waysL (close g (c, d)).1 = u)
def roundIs (g : Grid) (t : Str) : Int × Bool := match parseR t with
  | none => (0, false)
  | some (c, u) => if gridIn g = true ∧ c < nR g * nC g ∧ (tellsB g c u 0 || tellsB g c u 1 || tellsB g c u 2 || tellsB g c u 3) = true then ((u.length : Int), true) else (0, false)
theorem roundIs_no {g : Grid} {t : Str} (h : parseR t = none) : roundIs g t = (0, false) := by unfold roundIs; rw [h]
theorem roundIs_grid {g : Grid} {t : Str} (h : gridIn g = false) : roundIs g t = (0, false) := by
  unfold roundIs
  split
  · rfl
  · rw [if_neg (fun e => by rw [h] at e; cases e.1)]
theorem roundIs_cell {g : Grid} {t : Str} {c : Nat} {u : Str} (h : parseR t = some (c, u)) (hc : nR g * nC g ≤ c) : roundIs g t = (0, false) := by
  unfold roundIs; rw [h]; dsimp only
  rw [if_neg (fun e => by omega)]
theorem roundIs_none {g : Grid} {t : Str} {c : Nat} {u : Str} (h : parseR t = some (c, u)) (hn : ∀ d, d < 4 → tellsB g c u d = false) : roundIs g t = (0, false) := by
  unfold roundIs; rw [h]; dsimp only
  rw [hn 0 (by omega), hn 1 (by omega), hn 2 (by omega), hn 3 (by omega), if_neg (fun e => by cases e.2.2)]
theorem roundIs_some {g : Grid} {t : Str} {c d : Nat} {u : Str} (hg : gridIn g = true) (h : parseR t = some (c, u)) (hc : c < nR g * nC g) (hd : d < 4) (ht : tellsB g c u d = true) : roundIs g t = (((close g (c, d)).1.length : Int), true) := by
  unfold roundIs; rw [h]; dsimp only
  have hl : u.length = (close g (c, d)).1.length := by
    simp only [tellsB, Bool.and_eq_true, decide_eq_true_eq] at ht
    rw [← ht.2]; simp [waysL]
  have h4 : d = 0 ∨ d = 1 ∨ d = 2 ∨ d = 3 := by omega
  have hx : (tellsB g c u 0 || tellsB g c u 1 || tellsB g c u 2 || tellsB g c u 3) = true := by
    rcases h4 with rfl | rfl | rfl | rfl <;> rw [ht] <;> simp
  rw [if_pos ⟨hg, hc, hx⟩, hl]
/-- the program's way: the first step that tells the text -/
theorem roundIs_hit {g : Grid} (z : Sz g) (hg : gridIn g = true) {s : Nat × Nat} (hs : Ok g s) {t : Str} (ht : t ≠ []) (h : roundText g s = t) : roundIs g t = (((close g s).1.length : Int), true) := by
  obtain ⟨h1, h2⟩ := (roundText_parse z hs ht).1 h
  exact roundIs_some (d := s.2) hg h1 hs.cell hs.d (by simp only [tellsB, Bool.and_eq_true, decide_eq_true_eq]; exact ⟨h2, trivial⟩)
theorem roundIs_miss {g : Grid} (z : Sz g) {t : Str} (ht : t ≠ []) (h : ∀ s, Ok g s → roundText g s ≠ t) : roundIs g t = (0, false) := by
  cases hp : parseR t with
  | none => exact roundIs_no hp
  | some x =>
    obtain ⟨c, u⟩ := x
    by_cases hc : nR g * nC g ≤ c
    · exact roundIs_cell hp hc
    · refine roundIs_none hp fun d hd => ?_
      cases e : tellsB g c u d with
      | false => rfl
      | true =>
        simp only [tellsB, Bool.and_eq_true, decide_eq_true_eq] at e
        have hok : Ok g (c, d) := ⟨by show c < _; omega, hd⟩
        exact absurd ((roundText_parse z hok ht).2 ⟨by rw [hp, e.2], e.1⟩) (h _ hok)
theorem roundIs_nil (g : Grid) : roundIs g [] = (0, false) := roundIs_no (by decide)
/-! rounds have four steps at least -/
def chk4 (n m cell e1 e2 e3 : Nat) : Bool := match goN n m cell e1 with
  | .inl _ => true
  | .inr s1 => decide (s1.1 ≠ cell) && (match goN n m s1.1 e2 with
    | .inl _ => true
    | .inr s2 => (decide (e2 = rv e1) || decide (s2.1 ≠ cell)) && (match goN n m s2.1 e3 with
      | .inl _ => true
      | .inr s3 => decide (s3.1 ≠ cell)))
theorem all4 : ∀ n < 6, ∀ m < 6, ∀ cell < n * m, ∀ e1 < 4, ∀ e2 < 4, ∀ e3 < 4, chk4 n m cell e1 e2 e3 = true := by decide +kernel
theorem bend_nrv (c : UInt8) {d : Nat} (h : d < 4) : bend c d ≠ rv d := by
  have hd : d = 0 ∨ d = 1 ∨ d = 2 ∨ d = 3 := by omega
  unfold bend rv
  rcases hd with rfl | rfl | rfl | rfl <;> (split <;> (try split) <;> simp_all)
theorem go_dir {n m cell e : Nat} {s : Nat × Nat} (h : goN n m cell e = .inr s) (he : e < 4) : s.2 = e := by
  unfold goN at h
  have hd : e = 0 ∨ e = 1 ∨ e = 2 ∨ e = 3 := by omega
  rcases hd with rfl | rfl | rfl | rfl <;> simp at h <;> (split at h <;> (cases h <;> rfl))
theorem close_four {g : Grid} (z : Sz g) {s : Nat × Nat} (hs : Ok g s) (h : (close g s).2 = true) : 4 ≤ (close g s).1.length := by
  have h0 : 0 < nR g * nC g := Nat.mul_pos z.n1 z.m1
  obtain ⟨k, hk⟩ : ∃ k, 4 * (nR g * nC g) = k + 4 := ⟨4 * (nR g * nC g) - 4, by omega⟩
  unfold close at h ⊢
  rw [hk] at h ⊢
  have b1 := bend_lt (letter g s.1) s.2 hs.d
  cases e1 : afterN g s with
  | inl p =>
    unfold closeF at h
    rw [e1] at h; cases h
  | inr s1 =>
    have o1 := (after_r z hs e1).1
    have d1 : s1.2 = bend (letter g s.1) s.2 := go_dir e1 b1
    have b2 := bend_lt (letter g s1.1) s1.2 o1.d
    have c1 := all4 (nR g) z.n5 (nC g) z.m5 s.1 hs.cell (bend (letter g s.1) s.2) b1 (bend (letter g s1.1) s1.2) b2 0 (by omega)
    unfold chk4 at c1
    rw [show goN (nR g) (nC g) s.1 (bend (letter g s.1) s.2) = .inr s1 from e1] at c1
    simp only [Bool.and_eq_true, decide_eq_true_eq] at c1
    have n1 : s1 ≠ s := fun e => c1.1 (by rw [e])
    unfold closeF at h ⊢
    rw [e1] at h ⊢
    simp only at h ⊢
    rw [if_neg n1] at h ⊢
    simp only at h ⊢
    cases e2 : afterN g s1 with
    | inl p =>
      unfold closeF at h
      rw [e2] at h; cases h
    | inr s2 =>
      have o2 := (after_r z o1 e2).1
      have b3 := bend_lt (letter g s2.1) s2.2 o2.d
      have c2 := all4 (nR g) z.n5 (nC g) z.m5 s.1 hs.cell (bend (letter g s.1) s.2) b1 (bend (letter g s1.1) s1.2) b2 (bend (letter g s2.1) s2.2) b3
      unfold chk4 at c2
      rw [show goN (nR g) (nC g) s.1 (bend (letter g s.1) s.2) = .inr s1 from e1] at c2
      simp only at c2
      rw [show goN (nR g) (nC g) s1.1 (bend (letter g s1.1) s1.2) = .inr s2 from e2] at c2
      simp only [Bool.and_eq_true, Bool.or_eq_true, decide_eq_true_eq] at c2
      have n2 : s2 ≠ s := fun e => by
        rcases c2.2.1 with h1 | h1
        · exact bend_nrv (letter g s1.1) o1.d (by rw [h1, d1])
        · exact h1 (by rw [e])
      unfold closeF at h ⊢
      rw [e2] at h ⊢
      simp only at h ⊢
      rw [if_neg n2] at h ⊢
      simp only at h ⊢
      cases e3 : afterN g s2 with
      | inl p =>
        unfold closeF at h
        rw [e3] at h; cases h
      | inr s3 =>
        rw [show goN (nR g) (nC g) s2.1 (bend (letter g s2.1) s2.2) = .inr s3 from e3] at c2
        simp only [decide_eq_true_eq] at c2
        have n3 : s3 ≠ s := fun e => c2.2.2 (by rw [e])
        unfold closeF at h ⊢
        rw [e3] at h ⊢
        simp only at h ⊢
        rw [if_neg n3] at h ⊢
        simp only at h ⊢
        unfold closeF at h ⊢
        cases e4 : afterN g s3 with
        | inl p => rw [e4] at h; cases h
        | inr s4 =>
          simp only
          split <;> simp
theorem roundIs_four {g : Grid} (z : Sz g) {t : Str} (h : (roundIs g t).2 = true) : 4 ≤ (roundIs g t).1 ∧ 1 ≤ (rounds g).length := by
  unfold roundIs at h ⊢
  split at h
  · cases h
  · next c u hp =>
    split at h
    · next hc =>
      rw [if_pos hc]
      obtain ⟨_, h1, h2⟩ := hc
      have hex : ∃ d, d < 4 ∧ tellsB g c u d = true := by
        simp only [Bool.or_eq_true] at h2
        rcases h2 with ((h2 | h2) | h2) | h2
        · exact ⟨0, by omega, h2⟩
        · exact ⟨1, by omega, h2⟩
        · exact ⟨2, by omega, h2⟩
        · exact ⟨3, by omega, h2⟩
      obtain ⟨d, hd, ht⟩ := hex
      simp only [tellsB, Bool.and_eq_true, decide_eq_true_eq] at ht
      have hok : Ok g (c, d) := ⟨h1, hd⟩
      have h4 := close_four z hok ht.1
      have hl : u.length = (close g (c, d)).1.length := by rw [← ht.2]; simp [waysL]
      refine ⟨by dsimp only; omega, ?_⟩
      have hn := (close_iff z hok).1 ht.1
      have hc4 : code (c, d) < 4 * (nR g * nC g) := code_lt hok
      apply Classical.byContradiction
      intro e
      have := (rounds_nil z).1 (by omega) (code (c, d)) hc4
      rw [stepOf_code (show (c, d).2 < 4 from hd)] at this
      exact hn this
    · cases h
/-! lengths as a text -/
def lensTo (g : Grid) : Nat → List Nat
  | 0 => []
  | p + 1 => if p < (way g p).2 then lensTo g p ++ [(way g p).1.length] else lensTo g p
def lensL (g : Grid) : List Nat := lensTo g (ports g)
def lth : Str := [108, 101, 110, 103, 116, 104, 115]
def wordsT (l : List Nat) : Str := lth ++ l.flatMap fun n => [32] ++ decL n
theorem lensTo_sum (g : Grid) : ∀ k, (lensTo g k).sum = halfSum g k
  | 0 => rfl
  | k + 1 => by
    rw [lensTo, halfSum]
    split
    · rw [List.sum_append, lensTo_sum g k]; simp
    · rw [lensTo_sum g k]; rfl
theorem lensTo_len (g : Grid) : ∀ k, (lensTo g k).length ≤ k
  | 0 => Nat.le_refl _
  | k + 1 => by
    have := lensTo_len g k
    rw [lensTo]
    split
    · rw [List.length_append]; simp; omega
    · omega
theorem sum_mem : ∀ (l : List Nat) (x : Nat), x ∈ l → x ≤ l.sum
  | [], _, h => by cases h
  | y :: l, x, h => by
    rw [List.sum_cons]
    rcases List.mem_cons.1 h with rfl | h
    · omega
    · have := sum_mem l x h; omega
theorem half_le {g : Grid} (z : Sz g) : halfSum g (ports g) ≤ 2 * (nR g * nC g) := by
  have h1 := sums_split z (ports g) (Nat.le_refl _)
  have h2 := half_other z
  have h3 : (beamCodes g).length = lenSum g (ports g) := flatMap_len g _
  have h4 := nodup_le _ _ (beamCodes_nodup z) (beamCodes_lt z)
  omega
theorem half_mono (g : Grid) (k : Nat) : ∀ d, halfSum g k ≤ halfSum g (k + d)
  | 0 => Nat.le_refl _
  | d + 1 => by
    have := half_mono g k d
    rw [← Nat.add_assoc, halfSum]; omega
theorem lens_lt {g : Grid} (z : Sz g) {k : Nat} (hk : k ≤ ports g) : ∀ x ∈ lensTo g k, x < 100 := fun x hx => by
  have h1 := sum_mem _ x hx
  rw [lensTo_sum] at h1
  have h2 := half_mono g k (ports g - k)
  rw [show k + (ports g - k) = ports g by omega] at h2
  have h3 := half_le z
  have h4 : nR g * nC g ≤ 5 * 5 := Nat.mul_le_mul (by have := z.n5; omega) (by have := z.m5; omega)
  omega
def proofNone (g : Grid) : Str × Bool := if gridIn g = true ∧ (rounds g).length = 0 then (wordsT (lensL g), true) else ([], false)
theorem proofNone_at {g : Grid} (h : gridIn g = true) (hr : (rounds g).length = 0) : proofNone g = (wordsT (lensL g), true) := by rw [proofNone, if_pos ⟨h, hr⟩]
theorem proofNone_not {g : Grid} (h : ¬ (gridIn g = true ∧ (rounds g).length = 0)) : proofNone g = ([], false) := by rw [proofNone, if_neg h]
def proofNoneIs (g : Grid) (t : Str) : Bool := (proofNone g).2 && decide ((proofNone g).1 = t)
theorem wordsT_snoc (l : List Nat) (n : Nat) : wordsT (l ++ [n]) = wordsT l ++ [32] ++ decL n := by
  unfold wordsT; rw [List.flatMap_append]; simp
theorem wordsT_len {l : List Nat} (h : ∀ x ∈ l, x < 100) : (wordsT l).length ≤ 7 + 3 * l.length := by
  unfold wordsT
  rw [List.length_append]
  have : (l.flatMap fun n => [32] ++ decL n).length ≤ 3 * l.length := by
    induction l with
    | nil => simp
    | cons x l ih =>
      have h1 := ih fun y hy => h y (List.mem_cons_of_mem _ hy)
      have h2 := decL_len (h x (by simp))
      simp only [List.flatMap_cons, List.length_append, List.length_cons, List.length_nil]
      omega
  simp only [lth, List.length_cons, List.length_nil]
  omega
/-! the first step that is on no beam -/
def firstOff (g : Grid) : Nat → Nat → Option Nat
  | 0, _ => none
  | k + 1, x => if beamMark g x = true then firstOff g k (x + 1) else some x
theorem firstOff_some {g : Grid} : ∀ (k x y : Nat), firstOff g k x = some y → x ≤ y ∧ y < x + k ∧ beamMark g y = false ∧ ∀ j, x ≤ j → j < y → beamMark g j = true
  | 0, x, y, h => by cases h
  | k + 1, x, y, h => by
    unfold firstOff at h
    by_cases hm : beamMark g x = true
    · rw [if_pos hm] at h
      obtain ⟨h1, h2, h3, h4⟩ := firstOff_some k (x + 1) y h
      exact ⟨by omega, by omega, h3, fun j hj hjy => by
        by_cases e : j = x
        · rw [e]; exact hm
        · exact h4 j (by omega) hjy⟩
    · rw [if_neg hm] at h
      cases h
      exact ⟨Nat.le_refl _, by omega, by simpa using hm, fun j h1 h2 => by omega⟩
theorem firstOff_none {g : Grid} : ∀ (k x : Nat), firstOff g k x = none → ∀ j, x ≤ j → j < x + k → beamMark g j = true
  | 0, x, _, j, h1, h2 => by omega
  | k + 1, x, h, j, h1, h2 => by
    unfold firstOff at h
    by_cases hm : beamMark g x = true
    · rw [if_pos hm] at h
      by_cases e : j = x
      · rw [e]; exact hm
      · exact firstOff_none k (x + 1) h j (by omega) (by omega)
    · rw [if_neg hm] at h; cases h
def offAt (g : Grid) : Option Nat := firstOff g (4 * (nR g * nC g)) 0
theorem off_none {g : Grid} (z : Sz g) : offAt g = none ↔ (rounds g).length = 0 := by
  rw [rounds_nil z]
  constructor
  · intro h x hx
    exact (beamMark_iff z).1 (firstOff_none _ _ h x (by omega) (by omega))
  · intro h
    cases e : offAt g with
    | none => rfl
    | some y =>
      obtain ⟨_, h2, h3, _⟩ := firstOff_some _ _ _ e
      rw [(beamMark_iff z).2 (h y (by omega))] at h3; cases h3
def proofRound (g : Grid) : Str × Bool := if gridIn g = true then match offAt g with
  | none => ([], false)
  | some x => (roundText g (stepOf x), true) else ([], false)
theorem proofRound_not {g : Grid} (h : gridIn g = false) : proofRound g = ([], false) := by rw [proofRound, if_neg (by rw [h]; decide)]
theorem proofRound_none {g : Grid} (ho : offAt g = none) : proofRound g = ([], false) := by
  unfold proofRound
  split
  · rw [ho]
  · rfl
theorem proofRound_at {g : Grid} {x : Nat} (h : gridIn g = true) (ho : offAt g = some x) : proofRound g = (roundText g (stepOf x), true) := by
  rw [proofRound, if_pos h, ho]
theorem roundText_len {g : Grid} (z : Sz g) {s : Nat × Nat} (hs : Ok g s) : (roundText g s).length ≤ 110 := by
  unfold roundText
  split
  · have h1 := decL_len (cell_100 z hs)
    have h2 := close_len g s
    have h4 : nR g * nC g ≤ 5 * 5 := Nat.mul_le_mul (by have := z.n5; omega) (by have := z.m5; omega)
    simp only [waysL, rnd, List.length_append, List.length_cons, List.length_nil, List.length_map]
    omega
  · simp
theorem off_close {g : Grid} (z : Sz g) {x : Nat} (ho : offAt g = some x) : x < 4 * (nR g * nC g) ∧ (close g (stepOf x)).2 = true ∧ ¬ OnBeam g (stepOf x) := by
  obtain ⟨_, h2, h3, _⟩ := firstOff_some _ _ _ ho
  have hx : x < 4 * (nR g * nC g) := by omega
  have hn : ¬ OnBeam g (stepOf x) := fun e => by rw [(beamMark_iff z).2 e] at h3; cases h3
  exact ⟨hx, (close_iff z (stepOf_ok hx)).2 hn, hn⟩
end Go.Proofs.YtmhmdlgcdeodmaaDoor

/- The least cell of a round: how often rounds go through each cell, and the first step that is on no beam. -/
namespace Go.Proofs.YtmhmdlgcdeodmaaDoor
set_option maxRecDepth 100000
set_option linter.unusedSimpArgs false
set_option linter.unusedVariables false
/-- how often steps stand in each of N cells -/
def tallyL (N : Nat) (l : List (Nat × Nat)) : List Int := l.foldl (fun q s => q.set s.1 (q.getD s.1 0 + 1)) (List.replicate N 0)
theorem tallyL_snoc (N : Nat) (l : List (Nat × Nat)) (s : Nat × Nat) : tallyL N (l ++ [s]) = (tallyL N l).set s.1 ((tallyL N l).getD s.1 0 + 1) := by
  unfold tallyL; rw [List.foldl_append]; rfl
theorem snoc_ind {α : Type} {P : List α → Prop} (h0 : P []) (h1 : ∀ l x, P l → P (l ++ [x])) : ∀ l, P l := fun l => by
  have : ∀ l : List α, P l.reverse := fun l => by
    induction l with
    | nil => exact h0
    | cons x l ih => rw [List.reverse_cons]; exact h1 _ _ ih
  have h := this l.reverse
  rwa [List.reverse_reverse] at h
theorem tallyL_len (N : Nat) (l : List (Nat × Nat)) : (tallyL N l).length = N :=
  snoc_ind (P := fun l => (tallyL N l).length = N) (by simp [tallyL]) (fun l s ih => by rw [tallyL_snoc, List.length_set, ih]) l
theorem getD_set_int (q : List Int) (i j : Nat) (x : Int) (hi : i < q.length) : (q.set i x).getD j 0 = if i = j then x else q.getD j 0 := by
  rw [List.getD_eq_getElem?_getD, List.getElem?_set, List.getD_eq_getElem?_getD]
  split
  · next e => subst e; (try rw [if_pos hi]); rfl
  · rfl
theorem tallyL_bd (N : Nat) (l : List (Nat × Nat)) (hl : ∀ s ∈ l, s.1 < N) : ∀ c, 0 ≤ (tallyL N l).getD c 0 ∧ (tallyL N l).getD c 0 ≤ (l.length : Int) := by
  revert hl
  refine snoc_ind (P := fun l => (∀ s ∈ l, s.1 < N) → ∀ c, 0 ≤ (tallyL N l).getD c 0 ∧ (tallyL N l).getD c 0 ≤ (l.length : Int)) (fun _ c => ?_) (fun l s ih hl c => ?_) l
  · have : (tallyL N []).getD c 0 = 0 := by
      show (List.replicate N (0 : Int)).getD c 0 = 0
      rw [List.getD_eq_getElem?_getD, List.getElem?_replicate]; split <;> rfl
    rw [this]; simp
  · have hi := ih (fun t ht => hl t (by simp [ht]))
    have hs := hl s (by simp)
    rw [tallyL_snoc, getD_set_int _ _ _ _ (by rw [tallyL_len]; exact hs), List.length_append]
    have h1 := hi c
    have h2 := hi s.1
    simp only [List.length_cons, List.length_nil]
    split
    · constructor <;> omega
    · constructor <;> omega
theorem tallyL_pos (N : Nat) (l : List (Nat × Nat)) (hl : ∀ s ∈ l, s.1 < N) : ∀ c, 0 < (tallyL N l).getD c 0 ↔ ∃ s ∈ l, s.1 = c := by
  revert hl
  refine snoc_ind (P := fun l => (∀ s ∈ l, s.1 < N) → ∀ c, 0 < (tallyL N l).getD c 0 ↔ ∃ s ∈ l, s.1 = c) (fun _ c => ?_) (fun l s ih hl c => ?_) l
  · have : (tallyL N []).getD c 0 = 0 := by
      show (List.replicate N (0 : Int)).getD c 0 = 0
      rw [List.getD_eq_getElem?_getD, List.getElem?_replicate]; split <;> rfl
    rw [this]; simp
  · have hl2 : ∀ t ∈ l, t.1 < N := fun t ht => hl t (by simp [ht])
    have hi := ih hl2 c
    have hs := hl s (by simp)
    have hb := tallyL_bd N l hl2 s.1
    rw [tallyL_snoc, getD_set_int _ _ _ _ (by rw [tallyL_len]; exact hs)]
    split
    · next e => exact ⟨fun _ => ⟨s, by simp, e⟩, fun _ => by omega⟩
    · next e =>
      rw [hi]
      constructor
      · rintro ⟨t, ht, h⟩; exact ⟨t, by simp [ht], h⟩
      · rintro ⟨t, ht, h⟩
        rcases List.mem_append.1 ht with ht | ht
        · exact ⟨t, ht, h⟩
        · rw [List.mem_singleton.1 ht] at h; exact absurd h e
theorem flat_take {α : Type} (rs : List (List α)) (i : Nat) (hi : i < rs.length) : (rs.take (i + 1)).flatten = (rs.take i).flatten ++ rs.getD i [] := by
  rw [List.take_add_one, List.flatten_append, List.getD_eq_getElem?_getD, List.getElem?_eq_getElem hi]
  simp
theorem flat_len {α : Type} (M : Nat) : ∀ (rs : List (List α)), (∀ r ∈ rs, r.length ≤ M) → ∀ i, (rs.take i).flatten.length ≤ M * i
  | [], _, i => by simp
  | r :: rs, h, 0 => by simp
  | r :: rs, h, i + 1 => by
    have h1 := flat_len M rs (fun x hx => h x (List.mem_cons_of_mem _ hx)) i
    have h2 := h r (by simp)
    rw [List.take_succ_cons, List.flatten_cons, List.length_append, Nat.mul_add]
    omega
theorem rounds_ok {g : Grid} (z : Sz g) {r : List (Nat × Nat)} (h : r ∈ rounds g) : (∀ s ∈ r, Ok g s ∧ ¬ OnBeam g s) ∧ r.length ≤ 4 * (nR g * nC g) := by
  obtain ⟨x, hx, hn, rfl⟩ := rounds_mem z h
  have hok := stepOf_ok hx
  exact ⟨fun s hs => ⟨close_ok z hok s hs, closeF_off z _ _ hok hn s hs⟩, close_len g _⟩
/-- how often rounds go through each cell -/
def times (g : Grid) : List Int := tallyL (nR g * nC g) (rounds g).flatten
theorem flat_ok {g : Grid} (z : Sz g) : ∀ s ∈ (rounds g).flatten, Ok g s ∧ ¬ OnBeam g s := fun s hs => by
  obtain ⟨r, hr, h⟩ := List.mem_flatten.1 hs
  exact (rounds_ok z hr).1 s h
theorem times_pos {g : Grid} (z : Sz g) {c : Nat} (hc : c < nR g * nC g) : 0 < (times g).getD c 0 ↔ ∃ d, d < 4 ∧ ¬ OnBeam g (c, d) := by
  rw [times, tallyL_pos _ _ fun s hs => (flat_ok z s hs).1.cell]
  constructor
  · rintro ⟨s, hs, rfl⟩
    have h := flat_ok z s hs
    exact ⟨s.2, h.1.d, h.2⟩
  · rintro ⟨d, hd, hn⟩
    have hx : code (c, d) < 4 * (nR g * nC g) := code_lt ⟨hc, hd⟩
    have e : stepOf (code (c, d)) = (c, d) := stepOf_code (s := (c, d)) hd
    obtain ⟨r, hr, h⟩ := rounds_covers z hx (by rw [e]; exact hn)
    rw [e] at h
    rcases h with h | h
    · exact ⟨_, List.mem_flatten.2 ⟨r, hr, h⟩, rfl⟩
    · exact ⟨_, List.mem_flatten.2 ⟨r, hr, h⟩, rfl⟩
def roundLeast (g : Grid) : Nat × Bool := if gridIn g = true then match offAt g with
  | none => (0, false)
  | some x => (x / 4, true) else (0, false)
theorem roundLeast_not {g : Grid} (h : gridIn g = false) : roundLeast g = (0, false) := by rw [roundLeast, if_neg (by rw [h]; decide)]
theorem off_of {g : Grid} {x : Nat} (h : ∀ j, j < x → OnBeam g (stepOf j)) (z : Sz g) (hx : x < 4 * (nR g * nC g)) (hn : ¬ OnBeam g (stepOf x)) : offAt g = some x := by
  cases e : offAt g with
  | none => exact absurd ((beamMark_iff z).1 (firstOff_none _ _ e x (by omega) (by omega))) hn
  | some y =>
    obtain ⟨_, h2, h3, h4⟩ := firstOff_some _ _ _ e
    have h5 : ¬ y < x := fun hlt => by rw [(beamMark_iff z).2 (h y hlt)] at h3; cases h3
    have h6 : ¬ x < y := fun hlt => hn ((beamMark_iff z).1 (h4 x (by omega) hlt))
    rw [show y = x by omega]
/-- the first cell that rounds go through -/
theorem roundLeast_hit {g : Grid} (z : Sz g) (hg : gridIn g = true) {c : Nat} (hc : c < nR g * nC g) (h : ∀ k, k < c → (times g).getD k 0 ≤ 0) (hp : 0 < (times g).getD c 0) : roundLeast g = (c, true) := by
  obtain ⟨d, hd, hn⟩ := (times_pos z hc).1 hp
  have hb : ∀ k, k < c → ∀ e, e < 4 → OnBeam g (k, e) := fun k hk e he => by
    apply Classical.byContradiction
    intro hne
    have := (times_pos z (show k < nR g * nC g by omega)).2 ⟨e, he, hne⟩
    have := h k hk
    omega
  cases e : offAt g with
  | none => exact absurd ((beamMark_iff z).1 (firstOff_none _ _ e (code (c, d)) (by omega) (by have := code_lt (g := g) (s := (c, d)) ⟨hc, hd⟩; omega))) (by rw [stepOf_code (s := (c, d)) hd]; exact hn)
  | some y =>
    obtain ⟨_, h2, h3, h4⟩ := firstOff_some _ _ _ e
    have h5 : ¬ y / 4 < c := fun hlt => by rw [(beamMark_iff z).2 (show OnBeam g (stepOf y) from hb (y / 4) hlt (y % 4) (by omega))] at h3; cases h3
    have h6 : ¬ c < y / 4 := fun hlt => hn (by
      have := (beamMark_iff z).1 (h4 (code (c, d)) (by omega) (by unfold code; dsimp only; omega))
      rwa [stepOf_code (s := (c, d)) hd] at this)
    rw [roundLeast, if_pos hg, e]
    dsimp only
    rw [show y / 4 = c by omega]
theorem roundLeast_miss {g : Grid} (z : Sz g) (h : ∀ k, k < nR g * nC g → (times g).getD k 0 ≤ 0) : roundLeast g = (0, false) ∧ offAt g = none := by
  have hno : offAt g = none := by
    cases e : offAt g with
    | none => rfl
    | some x =>
      obtain ⟨h1, _, h3⟩ := off_close z e
      have := (times_pos z (show x / 4 < nR g * nC g by omega)).2 ⟨x % 4, by omega, h3⟩
      have := h (x / 4) (by omega)
      omega
  refine ⟨?_, hno⟩
  rw [roundLeast]
  split
  · rw [hno]
  · rfl
theorem least_some {g : Grid} {c : Nat} (h : roundLeast g = (c, true)) : gridIn g = true ∧ ∃ x, offAt g = some x ∧ x / 4 = c := by
  unfold roundLeast at h
  split at h
  · next hg =>
    split at h
    · cases h
    · next x hx => cases h; exact ⟨hg, x, hx, rfl⟩
  · cases h
/-- directions ahead of the first one on no beam have no proof -/
theorem text_nil {g : Grid} (z : Sz g) {x d : Nat} (ho : offAt g = some x) (hd : d < x % 4) : roundText g (x / 4, d) = [] := by
  obtain ⟨_, h2, h3, h4⟩ := firstOff_some _ _ _ ho
  have hx : x < 4 * (nR g * nC g) := by omega
  have hok : Ok g (x / 4, d) := ⟨by show x / 4 < _; omega, by show d < 4; omega⟩
  have hb : OnBeam g (x / 4, d) := by
    have := (beamMark_iff z).1 (h4 (code (x / 4, d)) (by omega) (by unfold code; dsimp only; omega))
    rwa [stepOf_code (s := (x / 4, d)) hok.d] at this
  unfold roundText
  rw [if_neg (fun e => (close_iff z hok).1 e hb)]
theorem text_ne {g : Grid} (z : Sz g) {x : Nat} (ho : offAt g = some x) : roundText g (stepOf x) ≠ [] := by
  have h := off_close z ho
  unfold roundText
  rw [if_pos h.2.1]
  simp [rnd]
theorem sweep_first {g : Grid} : ∀ (k x y : Nat) , firstOff g k x = some y → (close g (stepOf y)).1 ∈ sweep g (List.range' x k) (beamMark g)
  | 0, x, y, h => by cases h
  | k + 1, x, y, h => by
    unfold firstOff at h
    rw [List.range'_succ, sweep]
    by_cases hm : beamMark g x = true
    · rw [if_pos hm] at h ⊢
      exact sweep_first k (x + 1) y h
    · rw [if_neg hm] at h ⊢
      cases h
      exact List.mem_cons_self
theorem off_mem {g : Grid} {x : Nat} (ho : offAt g = some x) : (close g (stepOf x)).1 ∈ rounds g := by
  have := sweep_first _ _ _ ho
  rwa [← List.range_eq_range'] at this
end Go.Proofs.YtmhmdlgcdeodmaaDoor
