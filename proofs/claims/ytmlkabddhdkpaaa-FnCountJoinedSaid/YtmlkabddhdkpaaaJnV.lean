/- Pairings, and how many grids have them by their rounds: what it does to all sums when one is put in. -/
import Derived.Test.YtmlkabddhdkpaaaTab
import Derived.Test.YtmlkabddhdkpaaaJnA
import Derived.Test.YtmlkabddhdkpaaaInts
namespace Go.Proofs.Ytmlkabddhdkpaaa
set_option maxRecDepth 100000
set_option linter.unusedSimpArgs false
set_option linter.unusedVariables false
def sumI (f : Nat → Int) : Nat → Int
  | 0 => 0
  | k + 1 => sumI f k + f k
theorem sumI_cg {f g : Nat → Int} : ∀ k, (∀ i, i < k → f i = g i) → sumI f k = sumI g k
  | 0, _ => rfl
  | k + 1, h => by rw [sumI, sumI, sumI_cg k fun i hi => h i (by omega), h k (by omega)]
theorem sumI_zero {f : Nat → Int} : ∀ k, (∀ i, i < k → f i = 0) → sumI f k = 0
  | 0, _ => rfl
  | k + 1, h => by rw [sumI, sumI_zero k fun i hi => h i (by omega), h k (by omega)]; rfl
theorem sumI_add (f g : Nat → Int) : ∀ k, sumI (fun i => f i + g i) k = sumI f k + sumI g k
  | 0 => rfl
  | k + 1 => by rw [sumI, sumI, sumI, sumI_add f g k]; omega
theorem sumI_comm (f : Nat → Nat → Int) (m : Nat) : ∀ k, sumI (fun i => sumI (f i) m) k = sumI (fun j => sumI (fun i => f i j) k) m
  | 0 => (sumI_zero m fun _ _ => rfl).symm
  | k + 1 => by rw [sumI, sumI_comm f m k, ← sumI_add]; rfl
theorem sumI_one (f : Nat → Int) (a : Nat) (d : Int) : ∀ k, sumI (fun i => f i + (if a = i then d else 0)) k = sumI f k + (if a < k then d else 0)
  | 0 => rfl
  | k + 1 => by
    rw [sumI, sumI, sumI_one f a d k]
    by_cases h : a = k
    · subst h; rw [if_pos rfl, if_neg (by omega), if_pos (by omega)]; omega
    · rw [if_neg h]
      by_cases h2 : a < k
      · rw [if_pos h2, if_pos (by omega)]; omega
      · rw [if_neg h2, if_neg (by omega)]; omega
theorem sumI_nn {f : Nat → Int} : ∀ k, (∀ i, i < k → 0 ≤ f i) → 0 ≤ sumI f k
  | 0, _ => Int.le_refl _
  | k + 1, h => by have := sumI_nn k fun i hi => h i (by omega); have := h k (by omega); rw [sumI]; omega
theorem sumI_le {f : Nat → Int} : ∀ k, (∀ i, i < k → 0 ≤ f i) → ∀ i, i < k → f i ≤ sumI f k
  | 0, _, i, hi => by omega
  | k + 1, h, i, hi => by
    rw [sumI]
    have h1 := sumI_nn k fun i hi => h i (by omega)
    rcases Nat.lt_succ_iff_lt_or_eq.1 hi with h2 | rfl
    · have := sumI_le k (fun i hi => h i (by omega)) i h2; have := h k (by omega); omega
    · omega
theorem sumI_mono {f : Nat → Int} {i : Nat} : ∀ k, (∀ j, j < k → 0 ≤ f j) → i ≤ k → sumI f i ≤ sumI f k
  | 0, _, hi => by rw [show i = 0 by omega]; exact Int.le_refl _
  | k + 1, h, hi => by
    rcases Nat.lt_or_eq_of_le hi with h1 | rfl
    · have := sumI_mono k (fun j hj => h j (by omega)) (show i ≤ k by omega); have := h k (by omega); rw [sumI]; omega
    · exact Int.le_refl _
theorem sumI_mul (f : Nat → Int) (d : Int) : ∀ k, sumI (fun i => d * f i) k = d * sumI f k
  | 0 => (Int.mul_zero d).symm
  | k + 1 => by rw [sumI, sumI, sumI_mul f d k, Int.mul_add]
theorem sumI_const (d : Int) : ∀ k, sumI (fun _ => d) k = (k : Int) * d
  | 0 => (Int.zero_mul d).symm
  | k + 1 => by rw [sumI, sumI_const d k, Int.natCast_add, Int.add_mul]; simp
/-! one list of counts -/
def dotN (C : List Int) (f : Nat → Int) (k : Nat) : Int := sumI (fun j => C.getD j 0 * f j) k
def dot (C : List Int) (f : Nat → Int) : Int := dotN C f C.length
theorem getD_over {l : List Int} {j : Nat} (h : l.length ≤ j) : l.getD j 0 = 0 := by rw [List.getD_eq_getElem?_getD, List.getElem?_eq_none h]; rfl
theorem dotN_over {C : List Int} {f : Nat → Int} : ∀ k, C.length ≤ k → dotN C f k = dot C f
  | 0, h => by unfold dot; rw [show C.length = 0 by omega]
  | k + 1, h => by
    rcases Nat.lt_or_ge C.length (k + 1) with h1 | h1
    · unfold dotN
      rw [sumI]
      have := dotN_over (C := C) (f := f) k (by omega)
      unfold dotN at this
      rw [this, getD_over (by omega), Int.zero_mul, Int.add_zero]
    · unfold dot; rw [show C.length = k + 1 by omega]
theorem dot_addL (l : List Int) (e : Nat) (x : Int) (f : Nat → Int) : dot (addL l e x) f = dot l f + x * f e := by
  have hl := addL_len l e x
  unfold dot
  rw [hl]
  unfold dotN
  rw [sumI_cg (g := fun j => l.getD j 0 * f j + (if e = j then x * f e else 0)) _ (fun j _ => by
    rw [addL_get, Int.add_mul]
    by_cases h : e = j
    · rw [if_pos h, if_pos h, h]
    · rw [if_neg h, if_neg h, Int.zero_mul]), sumI_one, if_pos (by omega)]
  have := dotN_over (C := l) (f := f) (Max.max l.length (e + 1)) (by omega)
  unfold dotN dot dotN at this
  rw [this]
def addsL (l C : List Int) (r : Nat) : Nat → List Int
  | 0 => l
  | i + 1 => addL (addsL l C r i) (i + r) (C.getD i 0)
theorem dot_adds (l C : List Int) (r : Nat) (f : Nat → Int) : ∀ i, dot (addsL l C r i) f = dot l f + dotN C (fun j => f (j + r)) i
  | 0 => by unfold dotN; rw [addsL, sumI, Int.add_zero]
  | i + 1 => by
    rw [addsL, dot_addL, dot_adds l C r f i]
    unfold dotN
    rw [sumI, Int.add_assoc]
theorem adds_get (l C : List Int) (r j : Nat) : ∀ i, (addsL l C r i).getD j 0 = l.getD j 0 + (if r ≤ j ∧ j < r + i then C.getD (j - r) 0 else 0)
  | 0 => by rw [addsL, if_neg (by omega), Int.add_zero]
  | i + 1 => by
    rw [addsL, addL_get, adds_get l C r j i]
    by_cases h : i + r = j
    · rw [if_pos h, if_neg (by omega), if_pos (by omega), show j - r = i by omega]; omega
    · rw [if_neg h]
      by_cases h2 : r ≤ j ∧ j < r + i
      · rw [if_pos h2, if_pos (by omega)]; omega
      · rw [if_neg h2, if_neg (by omega), Int.add_zero]
theorem adds_len (l C : List Int) (r : Nat) : ∀ i, (addsL l C r i).length = if i = 0 then l.length else Max.max l.length (i + r)
  | 0 => rfl
  | i + 1 => by
    rw [addsL, addL_len, adds_len l C r i, if_neg (Nat.succ_ne_zero i)]
    split <;> omega
/-- counts whose last one is not nothing -/
structure Pos (C : List Int) : Prop where
  len : 0 < C.length
  last : 0 < C.getD (C.length - 1) 0
  nn : ∀ j, 0 ≤ C.getD j 0
theorem Pos.adds {l C : List Int} (h : Pos C) (hl : l = [] ∨ Pos l) (r : Nat) : Pos (addsL l C r C.length) := by
  have hlen := adds_len l C r C.length
  have h1 := h.len
  rw [if_neg (by omega)] at hlen
  have hnn : ∀ j, 0 ≤ l.getD j 0 := fun j => by
    rcases hl with rfl | hl
    · simp
    · exact hl.nn j
  refine ⟨by omega, ?_, fun j => ?_⟩
  · rw [adds_get, hlen]
    by_cases h2 : l.length ≤ C.length + r
    · rw [if_pos (by omega), show Max.max l.length (C.length + r) - 1 - r = C.length - 1 by omega]
      have := h.last
      have := hnn (Max.max l.length (C.length + r) - 1)
      omega
    · rw [if_neg (by omega), show Max.max l.length (C.length + r) - 1 = l.length - 1 by omega]
      rcases hl with rfl | hl
      · simp at h2
      · have := hl.last; omega
  · rw [adds_get]
    have := hnn j
    have := h.nn (j - r)
    split <;> omega
theorem Pos.dot {C : List Int} (h : Pos C) : (∀ j, C.getD j 0 ≤ dot C fun _ => 1) ∧ 1 ≤ dot C fun _ => 1 := by
  have h0 : ∀ i, i < C.length → 0 ≤ C.getD i 0 * 1 := fun i _ => by have := h.nn i; omega
  have h1 : ∀ i, i < C.length → C.getD i 0 ≤ Go.Proofs.Ytmlkabddhdkpaaa.dot C fun _ => 1 := fun i hi => by
    have := sumI_le (f := fun j => C.getD j 0 * 1) C.length h0 i hi
    show _ ≤ sumI (fun j => C.getD j 0 * 1) C.length
    omega
  have h2 := h1 _ (show C.length - 1 < C.length by have := h.len; omega)
  have := h.last
  refine ⟨fun j => ?_, by omega⟩
  by_cases hj : j < C.length
  · exact h1 j hj
  · rw [getD_over (by omega)]; omega
theorem Pos.ext {C D : List Int} (hc : Pos C) (hd : Pos D) (h : ∀ j, C.getD j 0 = D.getD j 0) : C = D := by
  have e : C.length = D.length := by
    have h1 := hc.last
    have h2 := hd.last
    have h3 := hc.len
    have h4 := hd.len
    rw [h] at h1
    rw [← h] at h2
    have h5 : ¬ D.length ≤ C.length - 1 := fun q => by rw [getD_over q] at h1; omega
    have h6 : ¬ C.length ≤ D.length - 1 := fun q => by rw [getD_over q] at h2; omega
    omega
  apply List.ext_getElem e
  intro j h1 h2
  have := h j
  rwa [List.getD_eq_getElem?_getD, List.getElem?_eq_getElem h1, List.getD_eq_getElem?_getD, List.getElem?_eq_getElem h2] at this
/-! the list of all -/
abbrev Ste := List Int × List Int
def sd0 : Ste := ([], [])
def atF (L : List Ste) (P : List Int) : Nat → Nat
  | 0 => L.length
  | i + 1 => if (L.getD i sd0).1 = P then i else atF L P i
theorem atF_is (L : List Ste) (P : List Int) : ∀ i, i ≤ L.length → atF L P i = L.length ∨ (atF L P i < i ∧ (L.getD (atF L P i) sd0).1 = P)
  | 0, _ => .inl rfl
  | i + 1, h => by
    rw [atF]
    by_cases e : (L.getD i sd0).1 = P
    · rw [if_pos e]; exact .inr ⟨by omega, e⟩
    · rw [if_neg e]
      rcases atF_is L P i (by omega) with h1 | h1
      · exact .inl h1
      · exact .inr ⟨by omega, h1.2⟩
def preL (L : List Ste) (P : List Int) : List Ste := if atF L P L.length = L.length then L ++ [(P, [])] else L
def putL (L : List Ste) (P C : List Int) (r i : Nat) : List Ste := (preL L P).set (atF L P L.length) (((preL L P).getD (atF L P L.length) sd0).1, addsL ((preL L P).getD (atF L P L.length) sd0).2 C r i)
theorem st_append (L : List Ste) (s : Ste) (i : Nat) : (L ++ [s]).getD i sd0 = if i < L.length then L.getD i sd0 else if i = L.length then s else sd0 := by
  rw [List.getD_eq_getElem?_getD, List.getElem?_append]
  by_cases h : i < L.length
  · rw [if_pos h, if_pos h, List.getD_eq_getElem?_getD]
  · rw [if_neg h, if_neg h]
    by_cases h2 : i = L.length
    · rw [if_pos h2, h2, Nat.sub_self]; rfl
    · rw [if_neg h2, List.getElem?_eq_none (by simp; omega)]; rfl
theorem st_set (L : List Ste) (a : Nat) (s : Ste) (i : Nat) (ha : a < L.length) : (L.set a s).getD i sd0 = if a = i then s else L.getD i sd0 := by
  rw [List.getD_eq_getElem?_getD, List.getElem?_set, List.getD_eq_getElem?_getD]
  by_cases h : a = i
  · rw [if_pos h, if_pos (by omega), if_pos h]; rfl
  · rw [if_neg h, if_neg h]
theorem pre_at (L : List Ste) (P : List Int) : atF L P L.length < (preL L P).length ∧ ((preL L P).getD (atF L P L.length) sd0).1 = P := by
  unfold preL
  rcases atF_is L P L.length (Nat.le_refl _) with h | ⟨h1, h2⟩
  · rw [if_pos h, h]
    exact ⟨by simp, by rw [st_append, if_neg (by omega), if_pos rfl]⟩
  · rw [if_neg (by omega)]
    exact ⟨h1, h2⟩
theorem put_zero (L : List Ste) (P C : List Int) (r : Nat) : putL L P C r 0 = preL L P := by
  obtain ⟨h1, _⟩ := pre_at L P
  unfold putL
  rw [addsL]
  apply List.ext_getElem (by simp)
  intro j h2 h3
  rw [List.getElem_set]
  split
  · next e => subst e; rw [List.getD_eq_getElem?_getD, List.getElem?_eq_getElem h3]; rfl
  · rfl
theorem put_len (L : List Ste) (P C : List Int) (r i : Nat) : (putL L P C r i).length = (preL L P).length := by unfold putL; rw [List.length_set]
theorem put_get (L : List Ste) (P C : List Int) (r i j : Nat) : (putL L P C r i).getD j sd0 = if atF L P L.length = j then (P, addsL ((preL L P).getD j sd0).2 C r i) else (preL L P).getD j sd0 := by
  obtain ⟨h1, h2⟩ := pre_at L P
  unfold putL
  rw [st_set _ _ _ _ h1, h2]
  split
  · next e => rw [← e]
  · rfl
def oneS (F : List Int → Nat → Int) (s : Ste) : Int := dot s.2 (F s.1)
def phi (F : List Int → Nat → Int) (L : List Ste) : Int := sumI (fun i => oneS F (L.getD i sd0)) L.length
theorem phi_pre (F : List Int → Nat → Int) (L : List Ste) (P : List Int) : phi F (preL L P) = phi F L := by
  unfold preL
  split
  · unfold phi
    rw [List.length_append, List.length_singleton, sumI, sumI_cg (g := fun i => oneS F (L.getD i sd0)) L.length (fun i hi => by rw [st_append, if_pos hi]), st_append, if_neg (by omega), if_pos rfl]
    show _ + 0 = _
    omega
  · rfl
theorem phi_put (F : List Int → Nat → Int) (L : List Ste) (P C : List Int) (r i : Nat) : phi F (putL L P C r i) = phi F L + dotN C (fun j => F P (j + r)) i := by
  obtain ⟨h1, h2⟩ := pre_at L P
  rw [← phi_pre F L P]
  unfold phi
  rw [put_len, sumI_cg (g := fun j => oneS F ((preL L P).getD j sd0) + (if atF L P L.length = j then dotN C (fun j => F P (j + r)) i else 0)) _ (fun j _ => by
    rw [put_get]
    by_cases e : atF L P L.length = j
    · rw [if_pos e, if_pos e]
      unfold oneS
      dsimp only
      rw [dot_adds, ← e, h2]
    · rw [if_neg e, if_neg e, Int.add_zero]), sumI_one, if_pos h1]
/-- pairings of a kind, with counts -/
def Gd (K : List Int → Prop) (B : Nat) (L : List Ste) : Prop := ∀ i, i < L.length → K (L.getD i sd0).1 ∧ Pos (L.getD i sd0).2 ∧ (L.getD i sd0).2.length ≤ B
theorem Gd.put {K : List Int → Prop} {B : Nat} {L : List Ste} (h : Gd K B L) {P C : List Int} {r : Nat} (hP : K P) (hC : Pos C) (hB : C.length + r ≤ B) : Gd K B (putL L P C r C.length) := fun j hj => by
  rw [put_len] at hj
  rw [put_get]
  have hc := hC.len
  have key : ∀ l : List Int, (l = [] ∨ (Pos l ∧ l.length ≤ B)) → Pos (addsL l C r C.length) ∧ (addsL l C r C.length).length ≤ B := fun l hl => by
    refine ⟨hC.adds (hl.imp id (·.1)) r, ?_⟩
    rw [adds_len, if_neg (by omega)]
    rcases hl with rfl | hl
    · simp only [List.length_nil]; omega
    · omega
  have hpre : ∀ j, j < (preL L P).length → (j < L.length ∧ (preL L P).getD j sd0 = L.getD j sd0) ∨ (atF L P L.length = j ∧ (preL L P).getD j sd0 = (P, [])) := fun j hj => by
    unfold preL at hj ⊢
    by_cases e : atF L P L.length = L.length
    · rw [if_pos e] at hj ⊢
      rw [st_append]
      by_cases h2 : j < L.length
      · rw [if_pos h2]; exact .inl ⟨h2, rfl⟩
      · simp at hj
        rw [if_neg h2, if_pos (by omega)]; exact .inr ⟨by omega, rfl⟩
    · rw [if_neg e] at hj ⊢
      exact .inl ⟨hj, rfl⟩
  rcases hpre j hj with ⟨h1, h2⟩ | ⟨h1, h2⟩
  · rw [h2]
    obtain ⟨g1, g2, g3⟩ := h j h1
    split
    · exact ⟨hP, key _ (.inr ⟨g2, g3⟩)⟩
    · exact ⟨g1, g2, g3⟩
  · rw [h2, if_pos h1]
    exact ⟨hP, key _ (.inl rfl)⟩
theorem Gd.nil (K : List Int → Prop) (B : Nat) : Gd K B [] := fun i hi => by simp at hi
theorem Gd.mono {K K' : List Int → Prop} {B B' : Nat} {L : List Ste} (h : Gd K B L) (hK : ∀ P, K P → K' P) (hB : B ≤ B') : Gd K' B' L := fun i hi => ⟨hK _ (h i hi).1, (h i hi).2.1, Nat.le_trans (h i hi).2.2 hB⟩
def tot (L : List Ste) : Int := phi (fun _ _ => 1) L
theorem Gd.bd {K : List Int → Prop} {B : Nat} {L : List Ste} (h : Gd K B L) : (L.length : Int) ≤ tot L ∧ ∀ i, i < L.length → ∀ j, 0 ≤ (L.getD i sd0).2.getD j 0 ∧ (L.getD i sd0).2.getD j 0 ≤ tot L := by
  have h1 : ∀ i, i < L.length → 1 ≤ oneS (fun _ _ => 1) (L.getD i sd0) := fun i hi => (h i hi).2.1.dot.2
  refine ⟨?_, fun i hi j => ⟨(h i hi).2.1.nn j, Int.le_trans ((h i hi).2.1.dot.1 j) (sumI_le (f := fun i => oneS (fun _ _ => 1) (L.getD i sd0)) L.length (fun i hi => by have := h1 i hi; omega) i hi)⟩⟩
  have : ∀ (f : Nat → Int) (k : Nat), (∀ i, i < k → 1 ≤ f i) → (k : Int) ≤ sumI f k := by
    intro f k
    induction k with
    | zero => intro _; exact Int.le_refl _
    | succ k ih => intro hf; have := ih fun i hi => hf i (by omega); have := hf k (by omega); rw [sumI]; omega
  exact this _ _ h1
end Go.Proofs.Ytmlkabddhdkpaaa

/- Joins of grids with the same pairs: the pairs of the whole are the same, and as many rounds come. -/
namespace Go.Proofs.Ytmlkabddhdkpaaa
set_option maxRecDepth 100000
set_option linter.unusedSimpArgs false
set_option linter.unusedVariables false
/-- ports that ways and seams join -/
inductive Ln (D : GD) : Nat → Nat → Prop
  | refl (c : Nat) : Ln D c c
  | nxt {c : Nat} (h : c < D.T) : Ln D c (D.nxt c)
  | mt {c : Nat} (h : c < D.T) (hm : D.isM c = true) : Ln D c (D.mt c)
  | symm {c d : Nat} (k : Ln D c d) : Ln D d c
  | trans {c d e : Nat} (k : Ln D c d) (l : Ln D d e) : Ln D c e
section
variable {D D' : GD}
theorem Ln.lt (w : D.W) {c d : Nat} (h : Ln D c d) : c < D.T ↔ d < D.T := by
  induction h with
  | refl c => exact Iff.rfl
  | nxt h => exact ⟨fun _ => (GD.nxt_ok w _ h).1, fun _ => h⟩
  | mt h hm => exact ⟨fun _ => (w.mtM _ h hm).1, fun _ => h⟩
  | symm k ih => exact ih.symm
  | trans k l i j => exact i.trans j
theorem Ln.cn (w : D.W) {c d : Nat} (h : Ln D c d) : c < D.T → Cn D.G (D.ent c) (D.ent d) := by
  induction h with
  | refl c => exact fun _ => .refl _
  | nxt h => exact fun _ => GD.cn_nxt w h
  | mt h hm => exact fun _ => GD.cn_mt w h hm
  | symm k ih => exact fun h => (ih ((k.lt w).2 h)).symm
  | trans k l i j => exact fun h => (i h).trans (j ((k.lt w).1 h))
theorem ln_of (w : D.W) {c d : Nat} (hc : c < D.T) (hd : d < D.T) (h : Cn D.G (D.ent c) (D.ent d)) : Ln D c d := by
  have hCl : Cl D.G fun t => ∃ y, y < D.T ∧ Ln D c y ∧ t ∈ D.wy y := by
    refine ⟨fun s t _ hC ha => ?_, fun s _ hC => ?_⟩
    · obtain ⟨y, hy, hl, hs⟩ := hC
      rcases GD.wy_next w y hy s hs t ha with h1 | ⟨h1, rfl⟩
      · exact ⟨y, hy, hl, h1⟩
      · have n1 := (GD.nxt_ok w y hy).1
        have m1 := (w.mtM _ n1 h1).1
        exact ⟨_, m1, hl.trans ((Ln.nxt hy).trans (Ln.mt n1 h1)), GD.ent_mem w _ m1⟩
    · obtain ⟨y, hy, hl, hs⟩ := hC
      exact ⟨D.nxt y, (GD.nxt_ok w y hy).1, hl.trans (.nxt hy), GD.wy_back w y hy s hs⟩
  obtain ⟨y, hy, hl, hin⟩ := (h.mem w.zG hCl).1 ⟨c, hc, .refl _, GD.ent_mem w c hc⟩
  have := GD.ent_in w d hd y hy hin
  subst this
  exact hl
/-- on a beam: told by ports alone -/
def OnL (D : GD) (c : Nat) : Prop := ∃ c0, c0 < D.T ∧ D.isM c0 = false ∧ Ln D c0 c
theorem on_ln (w : D.W) {c : Nat} (hc : c < D.T) : OnBeam D.G (D.ent c) ↔ OnL D c := by
  constructor
  · rintro ⟨p, hp, hin⟩
    obtain ⟨c0, h1, h2, rfl⟩ := w.nmS p hp
    have k := (way_walk w.zG hp).cnAll w.zG (enter_ok w.zG hp) _ hin
    rw [← (w.nmO c0 h1 h2).2] at k
    exact ⟨c0, h1, h2, ln_of w h1 hc k⟩
  · rintro ⟨c0, h1, h2, k⟩
    exact (GD.onB w (k.cn w h1)).1 (GD.outer_on w h1 h2)
theorem reps_ex {α : Type} (E : α → α → Prop) (hr : ∀ a, E a a) (hs : ∀ a b, E a b → E b a) : ∀ xs : List α, ∃ R : List α, (∀ r ∈ R, r ∈ xs) ∧ R.Pairwise (fun r r' => ¬ E r r') ∧ ∀ x ∈ xs, ∃ r ∈ R, E x r
  | [] => ⟨[], by simp, List.Pairwise.nil, by simp⟩
  | x :: xs => by
    obtain ⟨R, h1, h2, h3⟩ := reps_ex E hr hs xs
    by_cases h : ∃ r ∈ R, E x r
    · refine ⟨R, fun r hr => List.mem_cons_of_mem _ (h1 r hr), h2, fun y hy => ?_⟩
      rcases List.mem_cons.1 hy with rfl | hy
      · exact h
      · exact h3 y hy
    · refine ⟨x :: R, fun r hr => ?_, List.pairwise_cons.2 ⟨fun r hr e => h ⟨r, hr, e⟩, h2⟩, fun y hy => ?_⟩
      · rcases List.mem_cons.1 hr with rfl | hr
        · simp
        · exact List.mem_cons_of_mem _ (h1 r hr)
      · rcases List.mem_cons.1 hy with rfl | hy
        · exact ⟨y, by simp, hr y⟩
        · obtain ⟨r, hr, e⟩ := h3 y hy
          exact ⟨r, List.mem_cons_of_mem _ hr, e⟩
open Classical in
theorem si2_of (w : D.W) {R : List Nat} (hR : ∀ r ∈ R, r < D.T ∧ D.isM r = true ∧ ¬ OnL D r) (hp : R.Pairwise fun r r' => ¬ Ln D r r') (hc : ∀ c, c < D.T → D.isM c = true → OnL D c ∨ ∃ r ∈ R, Ln D c r) : (rounds D.G).length = (rounds (D.gs false)).length + (rounds (D.gs true)).length + R.length := by
  refine GD.glue (S := fun c => decide (c < D.T ∧ D.isM c = true)) w ⟨fun c h => of_decide_eq_true h, fun c h => ?_, fun c h1 h2 _ => decide_eq_true ⟨h1, h2⟩, fun r hr => ?_, ?_, fun c h => ?_, fun c h1 h2 h3 => decide_eq_true ⟨h3, h2⟩⟩
  · obtain ⟨h1, h2⟩ := of_decide_eq_true h
    obtain ⟨m1, m2, _⟩ := w.mtM c h1 h2
    exact ⟨decide_eq_true ⟨m1, m2⟩, fun hn => decide_eq_true ⟨(GD.nxt_ok w c h1).1, hn⟩⟩
  · obtain ⟨h1, h2, h3⟩ := hR r hr
    exact ⟨decide_eq_true ⟨h1, h2⟩, fun e => h3 ((on_ln w h1).1 e)⟩
  · refine (List.Pairwise.and_mem.1 hp).imp fun {r r'} hrr k => ?_
    obtain ⟨hr, hr', hn⟩ := hrr
    exact hn (ln_of w (hR r hr).1 (hR r' hr').1 k)
  · obtain ⟨h1, h2⟩ := of_decide_eq_true h
    rcases hc c h1 h2 with h3 | ⟨r, hr, h3⟩
    · exact .inl ((on_ln w h1).2 h3)
    · exact .inr ⟨r, hr, h3.cn w h1⟩
/-- the same ports -/
structure Sm (D D' : GD) : Prop where
  T : D'.T = D.T
  M : ∀ c, c < D.T → D'.isM c = D.isM c
  mt : ∀ c, D'.mt c = D.mt c
  nm : ∀ c, D'.nm c = D.nm c
  nxt : ∀ c, c < D.T → D'.nxt c = D.nxt c
theorem Sm.symm (s : Sm D D') : Sm D' D := ⟨s.T.symm, fun c h => (s.M c (by rw [← s.T]; exact h)).symm, fun c => (s.mt c).symm, fun c => (s.nm c).symm, fun c h => (s.nxt c (by rw [← s.T]; exact h)).symm⟩
theorem Ln.map (s : Sm D D') {c d : Nat} (h : Ln D c d) : Ln D' c d := by
  induction h with
  | refl c => exact .refl _
  | nxt h => rw [← s.nxt _ h]; exact .nxt (by rw [s.T]; exact h)
  | mt h hm => rw [← s.mt]; exact .mt (by rw [s.T]; exact h) (by rw [s.M _ h]; exact hm)
  | symm k ih => exact ih.symm
  | trans k l i j => exact i.trans j
theorem OnL.map (s : Sm D D') {c : Nat} (h : OnL D c) : OnL D' c := by
  obtain ⟨c0, h1, h2, k⟩ := h
  exact ⟨c0, by rw [s.T]; exact h1, by rw [s.M _ h1]; exact h2, k.map s⟩
open Classical in
theorem same_rounds (w : D.W) (w' : D'.W) (s : Sm D D') : ∃ q, (rounds D.G).length = (rounds (D.gs false)).length + (rounds (D.gs true)).length + q ∧ (rounds D'.G).length = (rounds (D'.gs false)).length + (rounds (D'.gs true)).length + q := by
  obtain ⟨R, h1, h2, h3⟩ := reps_ex (Ln D) (fun a => .refl a) (fun _ _ k => k.symm) ((List.range D.T).filter fun c => decide (D.isM c = true ∧ ¬ OnL D c))
  have hR : ∀ r ∈ R, r < D.T ∧ D.isM r = true ∧ ¬ OnL D r := fun r hr => by
    have := List.mem_filter.1 (h1 r hr)
    exact ⟨List.mem_range.1 this.1, of_decide_eq_true this.2⟩
  have hc : ∀ c, c < D.T → D.isM c = true → OnL D c ∨ ∃ r ∈ R, Ln D c r := fun c hc hm => by
    by_cases ho : OnL D c
    · exact .inl ho
    · exact .inr (h3 c (List.mem_filter.2 ⟨List.mem_range.2 hc, decide_eq_true ⟨hm, ho⟩⟩))
  refine ⟨R.length, si2_of w hR h2 hc, si2_of w' (fun r hr => ?_) (h2.imp fun hn k => hn (k.map s.symm)) fun c hcT hm => ?_⟩
  · obtain ⟨q1, q2, q3⟩ := hR r hr
    exact ⟨by rw [s.T]; exact q1, by rw [s.M _ q1]; exact q2, fun e => q3 (e.map s.symm)⟩
  · rw [s.T] at hcT
    rw [s.M _ hcT] at hm
    rcases hc c hcT hm with q | ⟨r, hr, q⟩
    · exact .inl (q.map s)
    · exact .inr ⟨r, hr, q.map s⟩
/-- the other end of a beam of the whole -/
theorem way_ln (w : D.W) {c0 : Nat} (hc : c0 < D.T) (hm : D.isM c0 = false) : ∃ c1, c1 < D.T ∧ D.isM c1 = false ∧ Ln D c0 c1 ∧ D.nm c1 = (way D.G (D.nm c0)).2 ∧ c1 ≠ c0 := by
  obtain ⟨hp, he⟩ := w.nmO c0 hc hm
  have hp2 := way_end w.zG hp
  obtain ⟨c1, h1, h2, h3⟩ := w.nmS _ hp2
  have he1 := (w.nmO c1 h1 h2).2
  have hw := way_walk w.zG hp
  obtain ⟨t, ht, ha⟩ := hw.last
  have hok := hw.okAll w.zG (enter_ok w.zG hp) t ht
  have k1 := hw.cnAll w.zG (enter_ok w.zG hp) t ht
  have k2 : Cn D.G t (rev D.G t) := .turn hok
  rw [← (after_l w.zG hok ha).2, ← h3, ← he1] at k2
  rw [← he] at k1
  refine ⟨c1, h1, h2, ln_of w hc h1 (k1.trans k2), h3, fun e => ?_⟩
  have := way_ne w.zG hp
  rw [← h3, e] at this
  exact this rfl
theorem way_un (w : D.W) {c0 c2 : Nat} (hc : c0 < D.T) (hm : D.isM c0 = false) (h2 : c2 < D.T) (hm2 : D.isM c2 = false) (hl : Ln D c0 c2) : c2 = c0 ∨ D.nm c2 = (way D.G (D.nm c0)).2 := by
  obtain ⟨hp, he⟩ := w.nmO c0 hc hm
  obtain ⟨hp2, he2⟩ := w.nmO c2 h2 hm2
  have hend := way_end w.zG hp
  have hw := way_walk w.zG hp
  have hw2 := way_walk w.zG hend
  have hb := way_back w.zG hp
  have hok := hw.okAll w.zG (enter_ok w.zG hp)
  have hok2 := hw2.okAll w.zG (enter_ok w.zG hend)
  have hCl : Cl D.G fun t => t ∈ (way D.G (D.nm c0)).1 ∨ t ∈ (way D.G (way D.G (D.nm c0)).2).1 := by
    refine ⟨fun s t _ hC ha => ?_, fun s hs hC => ?_⟩
    · exact hC.imp (fun h => hw.next h ha) (fun h => hw2.next h ha)
    · rcases hC with h | h
      · right
        rw [hb]
        exact List.mem_reverse.2 (List.mem_map_of_mem h)
      · left
        rw [hb] at h
        obtain ⟨u, hu, rfl⟩ := List.mem_map.1 (List.mem_reverse.1 h)
        rw [rev_rev (hok u hu)]; exact hu
  have k := hl.cn w hc
  have hst : D.ent c0 ∈ (way D.G (D.nm c0)).1 := by
    rw [he]
    obtain ⟨M, hM⟩ := hw.head
    rw [hM]; exact List.mem_cons_self ..
  have key : ∀ p, p < ports D.G → enterN (nR D.G) (nC D.G) (D.nm c2) ∈ (way D.G p).1 → D.nm c2 = p := fun p hp3 hin => by
    have hw3 := way_walk w.zG hp3
    rcases hw3.pred _ hin with h1 | ⟨v, hv, hve⟩
    · exact enter_inj w.zG hp2 hp3 h1
    · exact absurd hve (no_before w.zG hp2 (hw3.okAll w.zG (enter_ok w.zG hp3) v hv))
  rcases (k.mem w.zG hCl).1 (.inl hst) with h | h
  · rw [he2] at h
    have e := key _ hp h
    left
    have e2 : D.ent c2 = D.ent c0 := by rw [he2, he, e]
    exact GD.ent_in w c2 h2 c0 hc (by rw [e2]; exact GD.ent_mem w c0 hc)
  · rw [he2] at h
    exact .inr (key _ hend h)
theorem same_way (w : D.W) (w' : D'.W) (s : Sm D D') {c0 : Nat} (hc : c0 < D.T) (hm : D.isM c0 = false) : (way D'.G (D.nm c0)).2 = (way D.G (D.nm c0)).2 := by
  obtain ⟨c1, h1, h2, h3, h4, h5⟩ := way_ln w' (c0 := c0) (by rw [s.T]; exact hc) (by rw [s.M _ hc]; exact hm)
  rw [s.T] at h1
  rw [s.M _ h1] at h2
  rw [s.nm, s.nm] at h4
  rcases way_un w hc hm h1 h2 (h3.map s.symm) with e | e
  · exact absurd e h5
  · rw [← h4, e]
end
theorem Bs.sm {g g' h : Grid} (b : Bs g h) (b' : Bs g' h) (hR : nR g' = nR g) (hC : nC g' = nC g) (hp : pairsI g' = pairsI g) : Sm (besD g h) (besD g' h) := by
  have J := b.jf
  have J' := b'.jf
  rw [hR, hC] at J'
  have hT := J.T
  have hT' := J'.T
  refine ⟨by rw [hT, hT'], fun c hc => ?_, fun c => by rw [J.mt, J'.mt], fun c => by rw [J.nm, J'.nm], fun c hc => ?_⟩
  · rw [Bool.eq_iff_iff, J.M c hc, J'.M c (by omega)]
  · by_cases h : c < 2 * nR g + 2 * nC g
    · rw [J.nA c h, J'.nA c h]
      have e := congrArg (fun l : List Int => l.getD c 0) hp
      have := J.pg
      have := J'.pg
      rw [pairsI_get g' (by omega), pairsI_get g (by omega)] at e
      omega
    · have e : c = 2 * nR g + 2 * nC g + (c - (2 * nR g + 2 * nC g)) := by omega
      rw [e, J.nB _ (by omega), J'.nB _ (by omega)]
theorem join_same {g g' h : Grid} (b : Bs g h) (b' : Bs g' h) (hR : nR g' = nR g) (hC : nC g' = nC g) (hp : pairsI g' = pairsI g) : pairsI (besideG g' h) = pairsI (besideG g h) ∧ ∃ q, (rounds (besideG g h)).length = (rounds g).length + (rounds h).length + q ∧ (rounds (besideG g' h)).length = (rounds g').length + (rounds h).length + q := by
  have s := b.sm b' hR hC hp
  refine ⟨?_, same_rounds b.W b'.W s⟩
  have J := b.jf
  have J' := b'.jf
  rw [hR, hC] at J'
  have q1 : ports (besideG g h) = 2 * nR g + 2 * nC g + 2 * nC h := J.pG
  have q2 : ports (besideG g' h) = 2 * nR g + 2 * nC g + 2 * nC h := J'.pG
  refine ext_int (by rw [pairsI_len, pairsI_len, q1, q2]) fun p hp => ?_
  rw [pairsI_len, q2] at hp
  rw [pairsI_get (besideG g' h) (by rw [q2]; exact hp), pairsI_get (besideG g h) (by rw [q1]; exact hp)]
  obtain ⟨c0, h1, h2, h3⟩ := b.W.nmS p (show p < ports (besideG g h) by rw [q1]; exact hp)
  have e := same_way b.W b'.W s h1 h2
  rw [h3] at e
  exact congrArg (fun x : Nat => (x : Int)) e
end Go.Proofs.Ytmlkabddhdkpaaa

/- Full grids with one more column, by numbers. -/
namespace Go.Proofs.Ytmlkabddhdkpaaa
set_option maxRecDepth 100000
set_option linter.unusedSimpArgs false
set_option linter.unusedVariables false
/-- the number of the full grid that has the full grid b of k columns in front and the column c behind -/
def glr (k b c : Nat) : Nat → Nat
  | 0 => 0
  | i + 1 => glr k b c i + (b / 2 ^ (i * k) % 2 ^ k + c / 2 ^ i % 2 * 2 ^ k) * 2 ^ (i * (k + 1))
def gl (n k b c : Nat) : Nat := glr k b c n
def glOk (n k : Nat) : Bool := (List.range (2 ^ n)).all fun c => (List.range (2 ^ (n * k))).all fun b => decide (besideG (full n k b) (full n 1 c) = full n (k + 1) (gl n k b c))
def glPm (n k : Nat) : Bool := ((List.range (2 ^ n)).flatMap fun c => (List.range (2 ^ (n * k))).map fun b => gl n k b c).isPerm (List.range (2 ^ (n * (k + 1))))
theorem glPm1 : ∀ n < 6, ∀ k < 5, (!decide (0 < n ∧ 0 < k ∧ n * (k + 1) ≤ 9) || glPm n k) = true := by decide +kernel
theorem glOk1 : ∀ n < 6, ∀ k < 5, (!decide (0 < n ∧ 0 < k ∧ n * (k + 1) ≤ 9) || glOk n k) = true := by decide +kernel
theorem col0 : ∀ n < 6, ∀ c < 32, rcB n 1 c = 0 := by decide +kernel
end Go.Proofs.Ytmlkabddhdkpaaa

/- Counting by pairings, column by column: what the sums are; the counts of all in the end. -/
namespace Go.Proofs.Ytmlkabddhdkpaaa
set_option maxRecDepth 100000
set_option linter.unusedSimpArgs false
set_option linter.unusedVariables false
def pF (n k b : Nat) : List Int := pairsI (full n k b)
def KP (n k : Nat) (P : List Int) : Prop := ∃ b, b < 2 ^ (n * k) ∧ pF n k b = P
open Classical in
noncomputable def sig (n k : Nat) (P : List Int) : Nat := if h : KP n k P then Classical.choose h else 0
noncomputable def pj (n k : Nat) (P : List Int) (c : Nat) : List Int := pF n (k + 1) (gl n k (sig n k P) c)
noncomputable def sj (n k : Nat) (P : List Int) (c : Nat) : Nat := rF n (k + 1) (gl n k (sig n k P) c) - rF n k (sig n k P)
/-- one more column may come -/
structure Nx (n k : Nat) : Prop where
  n1 : 0 < n
  n5 : n ≤ 5
  k1 : 0 < k
  k5 : k + 1 ≤ 5
  nk : n * (k + 1) ≤ 9
theorem Nx.f {n k : Nat} (x : Nx n k) : Few n k ∧ Few n (k + 1) := by
  obtain ⟨h1, h2, h3, h4, h5⟩ := x
  have := Nat.mul_add n k 1
  exact ⟨⟨h1, h2, h3, by omega, by omega⟩, ⟨h1, h2, by omega, h4, h5⟩⟩
theorem Nx.yes {n k : Nat} (x : Nx n k) {b : Bool} (h : (!decide (0 < n ∧ 0 < k ∧ n * (k + 1) ≤ 9) || b) = true) : b = true := by
  rw [decide_eq_true ⟨x.n1, x.k1, x.nk⟩] at h
  exact h
theorem Nx.join {n k : Nat} (x : Nx n k) {b c : Nat} (hb : b < 2 ^ (n * k)) (hc : c < 2 ^ n) : besideG (full n k b) (full n 1 c) = full n (k + 1) (gl n k b c) := by
  have h := x.yes (glOk1 n (by have := x.n5; omega) k (by have := x.k5; omega))
  unfold glOk at h
  exact of_decide_eq_true (List.all_eq_true.1 (List.all_eq_true.1 h c (List.mem_range.2 hc)) b (List.mem_range.2 hb))
theorem Nx.c32 {n k c : Nat} (x : Nx n k) (hc : c < 2 ^ n) : c < 32 := Nat.lt_of_lt_of_le hc (show 2 ^ n ≤ 2 ^ 5 from Nat.pow_le_pow_right (by decide) x.n5)
theorem rF_col {n c : Nat} (h1 : 1 ≤ n) (h5 : n ≤ 5) (hc : c < 32) : rF n 1 c = 0 := by
  unfold rF
  rw [← rcB_ok h1 h5 (Nat.le_refl _) (by decide)]
  exact col0 n (by omega) c hc
theorem Nx.bs {n k : Nat} (x : Nx n k) (b c : Nat) : Bs (full n k b) (full n 1 c) ∧ nR (full n k b) = n ∧ nC (full n k b) = k ∧ nC (full n 1 c) = 1 := by
  have h1 := x.n1
  have h5 := x.n5
  have h6 := x.k1
  have h7 := x.k5
  have e1 : nR (full n k b) = n := full_nR
  have e2 : nC (full n k b) = k := full_nC h1
  have e3 : nR (full n 1 c) = n := full_nR
  have e4 : nC (full n 1 c) = 1 := full_nC h1
  exact ⟨⟨full_ok b h1 h5 h6 (by omega), full_ok c h1 h5 (Nat.le_refl _) (by decide), by rw [e1, e3], by rw [e2, e4]; exact h7⟩, e1, e2, e4⟩
theorem pj_at {n k : Nat} (x : Nx n k) {b c : Nat} (hb : b < 2 ^ (n * k)) (hc : c < 2 ^ n) : pj n k (pF n k b) c = pF n (k + 1) (gl n k b c) ∧ rF n (k + 1) (gl n k b c) = rF n k b + sj n k (pF n k b) c := by
  have hK : KP n k (pF n k b) := ⟨b, hb, rfl⟩
  have hs : sig n k (pF n k b) < 2 ^ (n * k) ∧ pF n k (sig n k (pF n k b)) = pF n k b := by
    unfold sig
    rw [dif_pos hK]
    exact Classical.choose_spec hK
  obtain ⟨a1, a2, a3, _⟩ := x.bs (sig n k (pF n k b)) c
  obtain ⟨b1, b2, b3, _⟩ := x.bs b c
  obtain ⟨h1, q, h2, h3⟩ := join_same a1 b1 (by rw [a2, b2]) (by rw [a3, b3]) hs.2.symm
  rw [x.join hb hc] at h1 h3
  rw [x.join hs.1 hc] at h1 h2
  have hc0 : (rounds (full n 1 c)).length = 0 := rF_col x.n1 x.n5 (x.c32 hc)
  refine ⟨h1.symm, ?_⟩
  unfold sj rF
  omega
/-! the same grids once more -/
def lsum (f : Nat → Int) : List Nat → Int
  | [] => 0
  | x :: l => f x + lsum f l
theorem lsum_app (f : Nat → Int) (m : List Nat) : ∀ l, lsum f (l ++ m) = lsum f l + lsum f m
  | [] => by simp [lsum]
  | x :: l => by rw [List.cons_append, lsum, lsum, lsum_app f m l]; omega
theorem lsum_perm (f : Nat → Int) {l m : List Nat} (h : l.Perm m) : lsum f l = lsum f m := by
  induction h with
  | nil => rfl
  | cons x _ ih => rw [lsum, lsum, ih]
  | swap x y l => rw [lsum, lsum, lsum, lsum]; omega
  | trans _ _ i j => exact i.trans j
theorem lsum_map (f : Nat → Int) (g : Nat → Nat) : ∀ l : List Nat, lsum f (l.map g) = lsum (fun x => f (g x)) l
  | [] => rfl
  | x :: l => by rw [List.map_cons, lsum, lsum, lsum_map f g l]
theorem lsum_range (f : Nat → Int) : ∀ k, lsum f (List.range k) = sumI f k
  | 0 => rfl
  | k + 1 => by rw [List.range_succ, lsum_app, lsum_range f k, sumI]; simp [lsum]
theorem lsum_flat (f : Nat → Int) (g : Nat → Nat → Nat) (B : Nat) : ∀ A, lsum f ((List.range A).flatMap fun c => (List.range B).map fun b => g b c) = sumI (fun c => sumI (fun b => f (g b c)) B) A
  | 0 => rfl
  | A + 1 => by rw [List.range_succ, List.flatMap_append, lsum_app, lsum_flat f g B A, sumI]; simp [lsum_map, lsum_range]
theorem Nx.re {n k : Nat} (x : Nx n k) (f : Nat → Int) : sumI f (2 ^ (n * (k + 1))) = sumI (fun c => sumI (fun b => f (gl n k b c)) (2 ^ (n * k))) (2 ^ n) := by
  have h := x.yes (glPm1 n (by have := x.n5; omega) k (by have := x.k5; omega))
  unfold glPm at h
  rw [← lsum_range f, ← lsum_perm f (List.isPerm_iff.1 h), lsum_flat]
/-! what the lists of pairings are -/
def RepS (n k : Nat) (L : List Ste) : Prop := ∀ F : List Int → Nat → Int, phi F L = sumI (fun x => F (pF n k x) (rF n k x)) (2 ^ (n * k))
def RC (n c : Nat) (N : List Ste) : Prop := ∀ F : List Int → Nat → Int, phi F N = sumI (fun x => F (pF n 1 x) (rF n 1 x)) c
theorem RC.start (n : Nat) : RC n 0 [] := fun _ => rfl
theorem RC.put {n c : Nat} {N : List Ste} (h : RC n c N) (h0 : rF n 1 c = 0) : RC n (c + 1) (putL N (pF n 1 c) [1] 0 1) := fun F => by
  rw [phi_put, h F, sumI, h0]
  show _ + (0 + 1 * _) = _
  rw [Int.zero_add, Int.one_mul]
theorem RC.done {n : Nat} {N : List Ste} (h : RC n (2 ^ n) N) : RepS n 1 N := fun F => by rw [h F, Nat.mul_one]
theorem RC.tot {n c : Nat} {N : List Ste} (h : RC n c N) : tot N = (c : Int) := by
  unfold Go.Proofs.Ytmlkabddhdkpaaa.tot
  rw [h, sumI_const, Int.mul_one]
noncomputable def tF (n k : Nat) (F : List Int → Nat → Int) (s : Ste) (c : Nat) : Int := dot s.2 fun j => F (pj n k s.1 c) (j + sj n k s.1 c)
def RN (n k : Nat) (L : List Ste) (i c : Nat) (N : List Ste) : Prop := ∀ F : List Int → Nat → Int, phi F N = sumI (fun i' => sumI (tF n k F (L.getD i' sd0)) (2 ^ n)) i + sumI (tF n k F (L.getD i sd0)) c
section
variable {n k i c : Nat} {L N : List Ste}
theorem RN.start : RN n k L 0 0 [] := fun _ => rfl
theorem RN.put (h : RN n k L i c N) : RN n k L i (c + 1) (putL N (pj n k (L.getD i sd0).1 c) (L.getD i sd0).2 (sj n k (L.getD i sd0).1 c) (L.getD i sd0).2.length) := fun F => by
  rw [phi_put, h F, sumI, Int.add_assoc]
  rfl
theorem RN.row (h : RN n k L i (2 ^ n) N) : RN n k L (i + 1) 0 N := fun F => by rw [h F, sumI, sumI, Int.add_zero]
theorem RN.done (x : Nx n k) (hR : RepS n k L) (h : RN n k L L.length 0 N) : RepS n (k + 1) N := fun F => by
  rw [h F]
  show _ + 0 = _
  rw [Int.add_zero, sumI_comm, x.re]
  refine sumI_cg _ fun c hc => ?_
  have e : sumI (fun i => tF n k F (L.getD i sd0) c) L.length = phi (fun P j => F (pj n k P c) (j + sj n k P c)) L := rfl
  rw [e, hR]
  refine sumI_cg _ fun b hb => ?_
  obtain ⟨h1, h2⟩ := pj_at x hb hc
  rw [h1, h2]
theorem RN.tot (x : Nx n k) (hR : RepS n k L) {K : List Int → Prop} {B : Nat} (hG : Gd K B L) (h : RN n k L i c N) (hi : i < L.length) (hc : c ≤ 2 ^ n) : tot N ≤ 512 := by
  have ht : Go.Proofs.Ytmlkabddhdkpaaa.tot L = ((2 ^ (n * k) : Nat) : Int) := by
    unfold Go.Proofs.Ytmlkabddhdkpaaa.tot
    rw [hR, sumI_const, Int.mul_one]
  have h1 : ∀ i, i < L.length → 1 ≤ oneS (fun _ _ => 1) (L.getD i sd0) := fun i hi => (hG i hi).2.1.dot.2
  have e : Go.Proofs.Ytmlkabddhdkpaaa.tot N = sumI (fun i' => ((2 ^ n : Nat) : Int) * oneS (fun _ _ => 1) (L.getD i' sd0)) i + (c : Int) * oneS (fun _ _ => 1) (L.getD i sd0) := by
    unfold Go.Proofs.Ytmlkabddhdkpaaa.tot
    rw [h]
    have q : ∀ s c, sumI (tF n k (fun _ _ => 1) s) c = (c : Int) * oneS (fun _ _ => 1) s := fun s c => by
      rw [← sumI_const]; rfl
    rw [q]
    refine congrArg (· + _) (sumI_cg _ fun i' _ => q _ _)
  rw [sumI_mul] at e
  have h2 := sumI_mono (f := fun i => oneS (fun _ _ => 1) (L.getD i sd0)) (i := i + 1) L.length (fun j hj => by have := h1 j hj; omega) hi
  rw [sumI] at h2
  have h3 : (c : Int) * oneS (fun _ _ => 1) (L.getD i sd0) ≤ ((2 ^ n : Nat) : Int) * oneS (fun _ _ => 1) (L.getD i sd0) := Int.mul_le_mul_of_nonneg_right (by omega) (by have := h1 i hi; omega)
  have h4 : ((2 ^ n : Nat) : Int) * (sumI (fun i => oneS (fun _ _ => 1) (L.getD i sd0)) i + oneS (fun _ _ => 1) (L.getD i sd0)) ≤ ((2 ^ n : Nat) : Int) * Go.Proofs.Ytmlkabddhdkpaaa.tot L := Int.mul_le_mul_of_nonneg_left h2 (by omega)
  rw [Int.mul_add] at h4
  have h5 : ((2 ^ n : Nat) : Int) * Go.Proofs.Ytmlkabddhdkpaaa.tot L = ((2 ^ (n * (k + 1)) : Nat) : Int) := by
    rw [ht, ← Int.natCast_mul, ← Nat.pow_add]
    congr 2
    rw [Nat.mul_add]; omega
  have h6 : 2 ^ (n * (k + 1)) ≤ 2 ^ 9 := Nat.pow_le_pow_right (by decide) x.nk
  have h7 : (2 : Nat) ^ 9 = 512 := by decide
  omega
/-! in the end -/
def outI (L : List Ste) : Nat → List Int
  | 0 => []
  | i + 1 => addsL (outI L i) (L.getD i sd0).2 0 (L.getD i sd0).2.length
theorem out_get (L : List Ste) (j : Nat) : ∀ i, (outI L i).getD j 0 = sumI (fun i => (L.getD i sd0).2.getD j 0) i
  | 0 => by simp [outI, sumI]
  | i + 1 => by
    rw [outI, adds_get, out_get L j i, sumI]
    by_cases h : j < (L.getD i sd0).2.length
    · rw [if_pos (by omega), Nat.sub_zero]
    · rw [if_neg (by omega), getD_over (by omega)]
theorem out_pos {K : List Int → Prop} {B : Nat} (hG : Gd K B L) : ∀ i, i ≤ L.length → (i = 0 ∧ outI L i = []) ∨ (Pos (outI L i) ∧ (outI L i).length ≤ B)
  | 0, _ => .inl ⟨rfl, rfl⟩
  | i + 1, h => by
    obtain ⟨_, g2, g3⟩ := hG i (by omega)
    have hl := adds_len (outI L i) (L.getD i sd0).2 0 (L.getD i sd0).2.length
    rw [if_neg (by have := g2.len; omega)] at hl
    right
    rcases out_pos hG i (by omega) with ⟨_, e⟩ | ⟨e1, e2⟩
    · refine ⟨g2.adds (.inl e) 0, ?_⟩
      rw [outI, hl, e]
      simp only [List.length_nil]; omega
    · refine ⟨g2.adds (.inr e1) 0, ?_⟩
      rw [outI, hl]; omega
theorem dot_delta (C : List Int) (j : Nat) : dot C (fun j' => if j' = j then 1 else 0) = C.getD j 0 := by
  unfold dot dotN
  rw [sumI_cg (g := fun i => (fun _ => (0 : Int)) i + (if j = i then C.getD j 0 else 0)) _ (fun i _ => by
    dsimp only
    by_cases h : i = j
    · rw [if_pos h, if_pos h.symm, h]; omega
    · rw [if_neg h, if_neg (fun e => h e.symm)]; omega), sumI_one (fun _ => 0), sumI_const]
  by_cases h : j < C.length
  · rw [if_pos h]; omega
  · rw [if_neg h, getD_over (by omega)]; omega
theorem sumI_tally (f : Nat → Nat) (j : Nat) : ∀ k, sumI (fun x => if f x = j then 1 else 0) k = (tally f j k : Int)
  | 0 => rfl
  | k + 1 => by
    rw [sumI, sumI_tally f j k, tally]
    split <;> omega
theorem rCnt_pos (n m : Nat) : Pos (rCnt n m) := by
  have h1 := rCnt_len n m
  refine ⟨by omega, ?_, fun j => by rw [rCnt_get]; omega⟩
  rw [h1, Nat.add_sub_cancel]
  exact rCnt_last n m
theorem out_done {m : Nat} {K : List Int → Prop} {B : Nat} (hG : Gd K B L) (hR : RepS n m L) : outI L L.length = rCnt n m := by
  have hp : Pos (outI L L.length) := by
    rcases out_pos hG L.length (Nat.le_refl _) with ⟨e, _⟩ | ⟨e, _⟩
    · exfalso
      have h1 : tot L = ((2 ^ (n * m) : Nat) : Int) := by
        unfold tot
        rw [hR, sumI_const, Int.mul_one]
      have h2 : tot L = 0 := by unfold tot phi; rw [e]; rfl
      have : 0 < 2 ^ (n * m) := Nat.pow_pos (by decide)
      omega
    · exact e
  refine hp.ext (rCnt_pos n m) fun j => ?_
  rw [out_get, rCnt_get, ← sumI_tally, ← hR (fun _ j' => if j' = j then 1 else 0)]
  unfold phi
  exact sumI_cg _ fun i _ => (dot_delta _ j).symm
end
/-! bounds -/
theorem KP.len {n k : Nat} {P : List Int} (h1 : 1 ≤ n) (h : KP n k P) : P.length = 2 * n + 2 * k := by
  obtain ⟨b, _, rfl⟩ := h
  unfold pF
  rw [pairsI_len]
  unfold ports
  rw [full_nR, full_nC h1]
theorem Gd.lb {K : List Int → Prop} {B : Nat} {L : List Ste} (hG : Gd K B L) (hB : B ≤ 600) (ht : tot L ≤ 512) : L.length ≤ 512 ∧ ∀ i, i < L.length → (L.getD i sd0).2.length ≤ 600 ∧ ∀ j, 0 ≤ (L.getD i sd0).2.getD j 0 ∧ (L.getD i sd0).2.getD j 0 ≤ 512 := by
  obtain ⟨h1, h2⟩ := hG.bd
  refine ⟨by omega, fun i hi => ⟨Nat.le_trans (hG i hi).2.2 hB, fun j => ?_⟩⟩
  have := h2 i hi j
  omega
theorem RepS.tot {n k : Nat} {L : List Ste} (h : RepS n k L) : Go.Proofs.Ytmlkabddhdkpaaa.tot L = ((2 ^ (n * k) : Nat) : Int) := by
  unfold Go.Proofs.Ytmlkabddhdkpaaa.tot
  rw [h, sumI_const, Int.mul_one]
theorem sumI_bd {f : Nat → Int} : ∀ k, (∀ i, i < k → 0 ≤ f i ∧ f i ≤ 512) → 0 ≤ sumI f k ∧ sumI f k ≤ 512 * (k : Int)
  | 0, _ => ⟨Int.le_refl _, by show (0 : Int) ≤ _; omega⟩
  | k + 1, h => by
    have h1 := sumI_bd k fun i hi => h i (by omega)
    have h2 := h k (by omega)
    rw [sumI]
    omega
theorem out_bd {L : List Ste} (hL : L.length ≤ 512 ∧ ∀ i, i < L.length → (L.getD i sd0).2.length ≤ 600 ∧ ∀ j, 0 ≤ (L.getD i sd0).2.getD j 0 ∧ (L.getD i sd0).2.getD j 0 ≤ 512) {K : List Int → Prop} {B : Nat} (hG : Gd K B L) (hB : B ≤ 600) {i r : Nat} (hi : i < L.length) (hr : r ≤ (L.getD i sd0).2.length) :
    (addsL (outI L i) (L.getD i sd0).2 0 r).length ≤ 1000 ∧ ∀ j, -1000000 ≤ (addsL (outI L i) (L.getD i sd0).2 0 r).getD j 0 ∧ (addsL (outI L i) (L.getD i sd0).2 0 r).getD j 0 ≤ 1000000 := by
  have h1 : (outI L i).length ≤ 600 := by
    rcases out_pos hG i (by omega) with ⟨_, e⟩ | ⟨_, e⟩
    · rw [e]; simp
    · omega
  have h2 := (hL.2 i hi).1
  refine ⟨?_, fun j => ?_⟩
  · rw [adds_len]
    split <;> omega
  · rw [adds_get, out_get]
    have h3 := sumI_bd (f := fun i => (L.getD i sd0).2.getD j 0) i fun i' hi' => (hL.2 i' (by omega)).2 j
    have h4 := (hL.2 i hi).2 (j - 0)
    have := hL.1
    split <;> omega
theorem one_bd : ([1] : List Int).length ≤ 600 ∧ ∀ j, 0 ≤ ([1] : List Int).getD j 0 ∧ ([1] : List Int).getD j 0 ≤ 512 := by
  refine ⟨by decide, fun j => ?_⟩
  cases j with
  | zero => decide
  | succ j => simp
theorem one_pos : Pos [1] := ⟨by decide, by decide, fun j => (one_bd.2 j).1⟩
theorem Few.nx {n m k : Nat} (h : Few n m) (h1 : 1 ≤ k) (h2 : k < m) : Nx n k := by
  have := Nat.mul_le_mul_left n h2
  have := h.nm
  exact ⟨h.n1, h.n5, h1, by have := h.m5; omega, by rw [Nat.succ_eq_add_one] at *; omega⟩
theorem Nx.jf {n k : Nat} (x : Nx n k) (b c : Nat) : JF (besD (full n k b) (full n 1 c)) (full n k b) (full n 1 c) n k 1 := by
  obtain ⟨h1, h2, h3, h4⟩ := x.bs b c
  have J := h1.jf
  rw [h2, h3, h4] at J
  exact J
/-- what the joining tells is the state's -/
theorem Nx.step {n k : Nat} (x : Nx n k) {b c q : Nat} {P : List Int} (hb : b < 2 ^ (n * k)) (hc : c < 2 ^ n) (hP : pF n k b = P) (hq : (rounds (full n (k + 1) (gl n k b c))).length = (rounds (full n k b)).length + (rounds (full n 1 c)).length + q) : pairsI (full n (k + 1) (gl n k b c)) = pj n k P c ∧ q = sj n k P c ∧ KP n (k + 1) (pj n k P c) ∧ q ≤ 100 := by
  subst hP
  obtain ⟨h1, h2⟩ := pj_at x hb hc
  have hc0 : (rounds (full n 1 c)).length = 0 := rF_col x.n1 x.n5 (x.c32 hc)
  have h3 : q = sj n k (pF n k b) c := by unfold rF at h2; omega
  have hlt : gl n k b c < 2 ^ (n * (k + 1)) := by
    have h := x.yes (glPm1 n (by have := x.n5; omega) k (by have := x.k5; omega))
    unfold glPm at h
    have hm := (List.isPerm_iff.1 h).mem_iff (a := gl n k b c)
    exact List.mem_range.1 (hm.1 (List.mem_flatMap.2 ⟨c, List.mem_range.2 hc, List.mem_map.2 ⟨b, List.mem_range.2 hb, rfl⟩⟩))
  refine ⟨h1.symm, h3, ⟨_, hlt, h1.symm⟩, ?_⟩
  have h4 := rF_lt x.f.2 (gl n k b c)
  omega
end Go.Proofs.Ytmlkabddhdkpaaa
