/- The program's search: what holds on the way. -/
import Derived.Test.YtmhmdlgcdeodmaaDoorGoMin
namespace Go.Proofs.YtmhmdlgcdeodmaaDoor
set_option maxRecDepth 100000
set_option linter.unusedSimpArgs false
set_option linter.unusedVariables false

def bestI (b : Nat) : Int := if b = 100 then -1 else (b : Int)
theorem bestI_spec {b : Nat} (h : b ≤ 100) : (b = 100 ∧ bestI b = -1) ∨ (b < 100 ∧ bestI b = (b : Int)) := by
  unfold bestI
  by_cases e : b = 100
  · rw [if_pos e]; exact .inl ⟨e, rfl⟩
  · rw [if_neg e]; exact .inr ⟨by omega, rfl⟩
/-- how many cells are free -/
def cntF (F : List Bool) : Nat := (F.filter fun x => !x).length
theorem cntF_le (F : List Bool) : cntF F ≤ F.length := List.length_filter_le _ _
theorem cntF_set : ∀ (F : List Bool) (i : Nat), i < F.length → F.getD i false = false → cntF (F.set i true) + 1 = cntF F
  | [], i, h, _ => by simp at h
  | x :: F, 0, h, e => by
    have : x = false := e
    subst this
    simp [cntF]
  | x :: F, i + 1, h, e => by
    have ih := cntF_set F i (by simpa using h) e
    unfold cntF at *
    rw [List.set_cons_succ, List.filter_cons, List.filter_cons]
    cases x
    · simp only [Bool.not_false, if_true, List.length_cons]; omega
    · simpa using ih
structure GoInv (p f : Nat) (g h : Grid) (M : List Nat) (F : List Bool) (s : Nat × Nat) (c b : Nat) : Prop where
  hG : GridOk g
  hH : GridOk h
  n : nR h = nR g
  m : nC h = nC g
  hp : p < ports h
  len : F.length = nR h * nC h
  en : Enough p f h F s
  un : ∀ cell, cell < nR h * nC h → F.getD cell false = false → letter h cell = letter g cell
  mem : ∀ cell, cell < nR h * nC h → (cell ∈ M ↔ F.getD cell false = true)
  b100 : b ≤ 100
  cc : c + cntF F ≤ nR h * nC h
theorem GoInv.c25 {p f : Nat} {g h : Grid} {M : List Nat} {F : List Bool} {s : Nat × Nat} {c b : Nat} (I : GoInv p f g h M F s c b) : c ≤ 25 := by
  have h1 := I.cc
  have h2 : nR h * nC h ≤ 25 := Nat.mul_le_mul I.hH.n5 I.hH.m5
  omega
theorem GoInv.next {p f : Nat} {g h : Grid} {M : List Nat} {F : List Bool} {s s' : Nat × Nat} {c b : Nat} (I : GoInv p (f + 1) g h M F s c b) (hs : F.getD s.1 false = true) (ha : afterN h s = .inr s') : GoInv p f g h M F s' c b :=
  ⟨I.hG, I.hH, I.n, I.m, I.hp, I.len, I.en.next hs ha, I.un, I.mem, I.b100, I.cc⟩
theorem GoInv.put {p f : Nat} {g h : Grid} {M : List Nat} {F : List Bool} {s : Nat × Nat} {c b b' : Nat} (I : GoInv p f g h M F s c b) (hs : F.getD s.1 false = false) {x : UInt8} (hx : okL x = true) (hb : b' ≤ 100) : GoInv p f g (putG h s.1 x) (M ++ [s.1]) (F.set s.1 true) s (c + cst h s.1 x) b' := by
  have hok := I.en.ok I.hH I.hp
  have n1 := putG_nR h s.1 x
  have m1 := putG_nC I.hH s.1 x
  have hlt : s.1 < F.length := by rw [I.len]; exact hok.cell
  refine ⟨I.hG, putG_ok I.hH s.1 hx, by rw [n1, I.n], by rw [m1, I.m], by unfold ports; rw [n1, m1]; exact I.hp, by rw [List.length_set, n1, m1]; exact I.len, I.en.put I.hH I.hp I.len hs x, fun cell hc hf => ?_, fun cell hc => ?_, hb, ?_⟩
  · rw [n1, m1] at hc
    have hne : cell ≠ s.1 := fun e => by rw [e, getD_set_self F hlt] at hf; cases hf
    rw [getD_set_other F (fun e => hne e.symm)] at hf
    rw [putG_letter hc, if_neg hne]
    exact I.un cell hc hf
  · rw [n1, m1] at hc
    rw [List.mem_append, List.mem_singleton, I.mem cell hc]
    by_cases e : cell = s.1
    · rw [e, getD_set_self F hlt]; simp
    · rw [getD_set_other F (fun h => e h.symm)]; simp [e]
  · have h1 := I.cc
    have h2 := cntF_set F s.1 hlt hs
    have h3 : cst h s.1 x ≤ 1 := by unfold cst; split <;> omega
    rw [n1, m1]; omega
theorem leaveW_in {q f : Nat} {h : Grid} {F : List Bool} {s s' : Nat × Nat} {c b : Nat} (ha : afterN h s = .inr s') : leaveW (goM q f) q h F s c b = goM q f h F s' c b := by
  unfold leaveW
  rw [ha]
  split
  · next hb => rw [goM_prune hb]
  · rfl
theorem leaveW_out {q f e : Nat} {h : Grid} {F : List Bool} {s : Nat × Nat} {c b : Nat} (ha : afterN h s = .inl e) : leaveW (goM q f) q h F s c b = if b ≤ c then b else if e = q then c else b := by
  unfold leaveW
  rw [ha]
/-- the grids that stand while the letters are tried -/
def GA (h : Grid) (s : Nat × Nat) : Nat → Grid
  | 0 => h
  | j + 1 => putG h s.1 (([46, 114, 102] : Str).getD j 0)
theorem let3_ok (j : Nat) (h : j < 3) : okL (([46, 114, 102] : Str).getD j 0) = true := by
  obtain e | e | e : j = 0 ∨ j = 1 ∨ j = 2 := by omega
  all_goals (subst e; decide)
theorem GA_ok {h : Grid} (hH : GridOk h) (s : Nat × Nat) : ∀ i, i ≤ 3 → GridOk (GA h s i)
  | 0, _ => hH
  | j + 1, hj => putG_ok hH s.1 (let3_ok j (by omega))
theorem GA_nR (h : Grid) (s : Nat × Nat) : ∀ i, nR (GA h s i) = nR h
  | 0 => rfl
  | j + 1 => putG_nR _ _ _
theorem GA_nC {h : Grid} (hH : GridOk h) (s : Nat × Nat) : ∀ i, nC (GA h s i) = nC h
  | 0 => rfl
  | j + 1 => putG_nC hH _ _
theorem GA_put {h : Grid} (hH : GridOk h) {s : Nat × Nat} (hc : s.1 < nR h * nC h) {y : UInt8} (hy : okL y = true) : ∀ i, i ≤ 3 → putG (GA h s i) s.1 y = putG h s.1 y
  | 0, _ => rfl
  | j + 1, hj => putG_putG hH (let3_ok j (by omega)) hy hc
end Go.Proofs.YtmhmdlgcdeodmaaDoor
