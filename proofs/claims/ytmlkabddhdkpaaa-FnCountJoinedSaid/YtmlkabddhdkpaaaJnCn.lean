/- Grids that are told cell by cell; all full grids by their bits; all grids by their numbers. -/
import Derived.Test.YtmlkabddhdkpaaaWays
import Derived.Test.YtmlkabddhdkpaaaMaths
import Derived.Test.YtmlkabddhdkpaaaRd
namespace Go.Proofs.Ytmlkabddhdkpaaa
set_option maxRecDepth 100000
set_option linter.unusedSimpArgs false
set_option linter.unusedVariables false

def gridOf (n m : Nat) (Lt : Nat → Nat → UInt8) : Grid := (List.range n).map fun i => (List.range m).map fun k => Lt i k
def mirror (m bits i k : Nat) : UInt8 := ([114, 102] : List UInt8).getD (bits / 2 ^ (i * m + k) % 2) 0
def full (n m bits : Nat) : Grid := gridOf n m (mirror m bits)
def digit (m num i k : Nat) : UInt8 := ([46, 114, 102] : List UInt8).getD (num / 3 ^ (i * m + k) % 3) 0
def numG (n m num : Nat) : Grid := gridOf n m (digit m num)

theorem range_snoc {α : Type} (f : Nat → α) (i : Nat) : (List.range (i + 1)).map f = (List.range i).map f ++ [f i] := by
  rw [List.range_succ, List.map_append]; rfl
theorem gridOf_len (n m : Nat) (Lt : Nat → Nat → UInt8) : (gridOf n m Lt).length = n := by simp [gridOf]
theorem gridOf_row (n m : Nat) (Lt : Nat → Nat → UInt8) {i : Nat} (h : i < n) : (gridOf n m Lt).getD i [] = (List.range m).map fun k => Lt i k := by
  simp [gridOf, List.getD_eq_getElem?_getD, h]
theorem gridOf_nR (n m : Nat) (Lt : Nat → Nat → UInt8) : nR (gridOf n m Lt) = n := gridOf_len n m Lt
theorem gridOf_nC {n : Nat} (m : Nat) (Lt : Nat → Nat → UInt8) (h : 0 < n) : nC (gridOf n m Lt) = m := by
  unfold nC; rw [gridOf_row n m Lt h]; simp
theorem gridOf_ports {n : Nat} (m : Nat) (Lt : Nat → Nat → UInt8) (h : 0 < n) : ports (gridOf n m Lt) = 2 * n + 2 * m := by
  unfold ports; rw [gridOf_nR, gridOf_nC m Lt h]
theorem gridOf_at (n m : Nat) (Lt : Nat → Nat → UInt8) {i k : Nat} (h : i < n) (hk : k < m) : ((gridOf n m Lt).getD i []).getD k 0 = Lt i k := by
  rw [gridOf_row n m Lt h]
  simp [List.getD_eq_getElem?_getD, hk]
theorem gridOf_letter {n m : Nat} (Lt : Nat → Nat → UInt8) {cell : Nat} (h : cell < n * m) : letter (gridOf n m Lt) cell = Lt (cell / m) (cell % m) := by
  have hm : 0 < m := by
    rcases Nat.eq_zero_or_pos m with h0 | h0
    · rw [h0, Nat.mul_zero] at h; omega
    · exact h0
  have hn : 0 < n := by
    rcases Nat.eq_zero_or_pos n with h0 | h0
    · rw [h0, Nat.zero_mul] at h; omega
    · exact h0
  unfold letter
  rw [gridOf_nC m Lt hn]
  exact gridOf_at n m Lt (Nat.div_lt_of_lt_mul (by rw [Nat.mul_comm]; exact h)) (Nat.mod_lt _ hm)
theorem gridOf_ok {n m : Nat} {Lt : Nat → Nat → UInt8} (h1 : 1 ≤ n) (h2 : n ≤ 5) (h3 : 1 ≤ m) (h4 : m ≤ 5) (hL : ∀ i k, i < n → k < m → okL (Lt i k) = true) : GridOk (gridOf n m Lt) := by
  have e0 : ((gridOf n m Lt).getD 0 []).length = m := gridOf_nC m Lt h1
  have el := gridOf_len n m Lt
  refine ⟨by omega, by omega, by omega, by omega, fun i hi => ?_, fun i hi j hj => ?_⟩
  · rw [e0, gridOf_row n m Lt (by omega)]; simp
  · rw [gridOf_at n m Lt (by omega) (by omega)]
    exact hL i j (by omega) (by omega)
theorem mirror_ok (m bits i k : Nat) : mirror m bits i k = 114 ∨ mirror m bits i k = 102 := by
  unfold mirror
  have := Nat.mod_lt (bits / 2 ^ (i * m + k)) (show 0 < 2 by decide)
  rcases (show bits / 2 ^ (i * m + k) % 2 = 0 ∨ bits / 2 ^ (i * m + k) % 2 = 1 by omega) with h | h
  · rw [h]; exact .inl rfl
  · rw [h]; exact .inr rfl
theorem full_ok {n m : Nat} (bits : Nat) (h1 : 1 ≤ n) (h2 : n ≤ 5) (h3 : 1 ≤ m) (h4 : m ≤ 5) : GridOk (full n m bits) :=
  gridOf_ok h1 h2 h3 h4 fun i k _ _ => by rcases mirror_ok m bits i k with h | h <;> rw [h] <;> decide
theorem digit_ok (m num i k : Nat) : okL (digit m num i k) = true := by
  unfold digit
  have := Nat.mod_lt (num / 3 ^ (i * m + k)) (show 0 < 3 by decide)
  rcases (show num / 3 ^ (i * m + k) % 3 = 0 ∨ num / 3 ^ (i * m + k) % 3 = 1 ∨ num / 3 ^ (i * m + k) % 3 = 2 by omega) with h | h | h <;> rw [h] <;> decide
theorem numG_ok {n m : Nat} (num : Nat) (h1 : 1 ≤ n) (h2 : n ≤ 5) (h3 : 1 ≤ m) (h4 : m ≤ 5) : GridOk (numG n m num) :=
  gridOf_ok h1 h2 h3 h4 fun i k _ _ => digit_ok m num i k

/-- a grid is told by its cells -/
theorem gridOf_self {g : Grid} (h : GridOk g) : gridOf (nR g) (nC g) (fun i k => (g.getD i []).getD k 0) = g := by
  apply List.ext_getElem (gridOf_len _ _ _)
  intro i h1 h2
  have hr : (g.getD i []).length = nC g := h.row i h2
  have e1 : (gridOf (nR g) (nC g) (fun i k => (g.getD i []).getD k 0))[i] = (List.range (nC g)).map fun k => (g.getD i []).getD k 0 := by
    have h3 : i < (gridOf (nR g) (nC g) (fun i k => (g.getD i []).getD k 0)).length := h1
    have h4 := gridOf_row (nR g) (nC g) (fun i k => (g.getD i []).getD k 0) (i := i) h2
    rw [List.getD_eq_getElem?_getD, List.getElem?_eq_getElem h3, Option.getD_some] at h4
    exact h4
  have e2 : g[i] = g.getD i [] := by rw [List.getD_eq_getElem?_getD, List.getElem?_eq_getElem h2, Option.getD_some]
  rw [e1, e2]
  apply List.ext_getElem (by rw [List.length_map, List.length_range, hr])
  intro j h3 h4
  rw [List.getElem_map, List.getElem_range, List.getD_eq_getElem?_getD, List.getElem?_eq_getElem h4, Option.getD_some]
theorem gridOf_ext {n m : Nat} {A B : Nat → Nat → UInt8} (h : ∀ i k, i < n → k < m → A i k = B i k) : gridOf n m A = gridOf n m B := by
  unfold gridOf
  apply List.map_congr_left
  intro i hi
  apply List.map_congr_left
  intro k hk
  exact h i k (List.mem_range.1 hi) (List.mem_range.1 hk)
theorem grid_ext {g h : Grid} (hg : GridOk g) (hh : GridOk h) (hn : nR g = nR h) (hm : nC g = nC h) (hl : ∀ i k, i < nR g → k < nC g → (g.getD i []).getD k 0 = (h.getD i []).getD k 0) : g = h := by
  rw [← gridOf_self hg, ← gridOf_self hh, ← hn, ← hm]
  exact gridOf_ext hl

/-- digits: any are some number's -/
theorem digits (b : Nat) (hb : 0 < b) : ∀ (N : Nat) (f : Nat → Nat), (∀ c, f c < b) → ∃ k, k < b ^ N ∧ ∀ c, c < N → k / b ^ c % b = f c
  | 0, f, _ => ⟨0, by simp, fun c hc => by omega⟩
  | N + 1, f, hf => by
    obtain ⟨k, h1, h2⟩ := digits b hb N (fun c => f (c + 1)) (fun c => hf (c + 1))
    refine ⟨f 0 + b * k, ?_, fun c hc => ?_⟩
    · have h3 : b * (k + 1) ≤ b * b ^ N := Nat.mul_le_mul_left b h1
      rw [Nat.pow_succ, Nat.mul_comm (b ^ N)]
      have := hf 0
      rw [Nat.mul_add, Nat.mul_one] at h3
      omega
    · cases c with
      | zero =>
        rw [Nat.pow_zero, Nat.div_one, Nat.add_mul_mod_self_left, Nat.mod_eq_of_lt (hf 0)]
      | succ c =>
        rw [Nat.pow_succ, Nat.mul_comm (b ^ c), ← Nat.div_div_eq_div_mul, Nat.add_mul_div_left _ _ hb, Nat.div_eq_of_lt (hf 0), Nat.zero_add]
        exact h2 c (by omega)
def digOf (c : UInt8) : Nat := if c = 114 then 1 else if c = 102 then 2 else 0
theorem digOf_ok {c : UInt8} (h : okL c = true) : ([46, 114, 102] : List UInt8).getD (digOf c) 0 = c := by
  unfold okL at h
  have h := of_decide_eq_true h
  rcases h with rfl | rfl | rfl <;> decide
theorem digOf_lt (c : UInt8) : digOf c < 3 := by unfold digOf; split <;> (try split) <;> omega
theorem numG_surj {g : Grid} (h : GridOk g) : ∃ k, k < 3 ^ (nR g * nC g) ∧ numG (nR g) (nC g) k = g := by
  obtain ⟨k, h1, h2⟩ := digits 3 (by decide) (nR g * nC g) (fun c => digOf (letter g c)) (fun c => digOf_lt _)
  refine ⟨k, h1, ?_⟩
  have hm := h.m1
  refine Eq.trans ?_ (gridOf_self h)
  refine gridOf_ext fun i c hi hc => ?_
  have hlt : i * nC g + c < nR g * nC g := by
    have : (i + 1) * nC g ≤ nR g * nC g := Nat.mul_le_mul_right _ hi
    rw [Nat.add_mul, Nat.one_mul] at this; omega
  unfold digit
  rw [h2 _ hlt]
  have e : letter g (i * nC g + c) = (g.getD i []).getD c 0 := by
    unfold letter
    have e1 : (i * nC g + c) / nC g = i := by
      rw [Nat.mul_comm, Nat.mul_add_div hm, Nat.div_eq_of_lt hc, Nat.add_zero]
    have e2 : (i * nC g + c) % nC g = c := by
      rw [Nat.mul_comm, Nat.mul_add_mod, Nat.mod_eq_of_lt hc]
    rw [e1, e2]
  rw [e]
  exact digOf_ok (h.ok i hi c hc)

/-! parities in full grids -/
def par (m cell : Nat) : Nat := (cell / m + cell % m) % 2
def chkP (n m cell e : Nat) : Bool := if e % 2 = par m cell then true else match goN n m cell e with
  | .inl p => decide (p % 2 = 1)
  | .inr s => decide (s.2 % 2 = par m s.1)
theorem allP : ∀ n < 6, ∀ m < 6, ∀ cell < n * m, ∀ e < 4, chkP n m cell e = true := by decide +kernel
def NoDot (g : Grid) : Prop := ∀ cell, cell < nR g * nC g → letter g cell = 114 ∨ letter g cell = 102
theorem bend_par {c : UInt8} (h : c = 114 ∨ c = 102) {d : Nat} (hd : d < 4) : bend c d % 2 ≠ d % 2 := by
  have hd' : d = 0 ∨ d = 1 ∨ d = 2 ∨ d = 3 := by omega
  rcases h with rfl | rfl <;> rcases hd' with rfl | rfl | rfl | rfl <;> decide
theorem walk_odd {g : Grid} (z : Sz g) (hf : NoDot g) {s : Nat × Nat} {L : List (Nat × Nat)} {e : Nat} (h : Walk g s L e) : Ok g s → s.2 % 2 = par (nC g) s.1 → e % 2 = 1 := by
  induction h with
  | @out s e h =>
    intro hs hp
    have hb := bend_par (hf s.1 hs.cell) hs.d
    have := allP _ z.n5 _ z.m5 s.1 hs.cell _ (bend_lt (letter g s.1) s.2 hs.d)
    unfold chkP at this
    unfold afterN at h
    rw [if_neg (by omega), h] at this
    exact of_decide_eq_true this
  | @on s s' L e h k ih =>
    intro hs hp
    have hb := bend_par (hf s.1 hs.cell) hs.d
    have := allP _ z.n5 _ z.m5 s.1 hs.cell _ (bend_lt (letter g s.1) s.2 hs.d)
    have hr := (after_r z hs h).1
    unfold chkP at this
    unfold afterN at h
    rw [if_neg (by omega), h] at this
    exact ih hr (of_decide_eq_true this)
theorem full_noDot {n m : Nat} (bits : Nat) (h1 : 1 ≤ n) : NoDot (full n m bits) := fun cell hc => by
  unfold full at hc ⊢
  rw [gridOf_nR, gridOf_nC m _ h1] at hc
  rw [gridOf_letter _ hc]
  exact mirror_ok _ _ _ _
theorem full_odd {n m : Nat} (bits : Nat) (h1 : 1 ≤ n) (h2 : n ≤ 5) (h3 : 1 ≤ m) (h4 : m ≤ 5) : (way (full n m bits) 0).2 % 2 = 1 := by
  have hG := full_ok bits h1 h2 h3 h4
  have z := hG.sz
  have hp : 0 < ports (full n m bits) := by
    unfold full; rw [gridOf_ports m _ h1]; omega
  refine walk_odd z (full_noDot bits h1) (Walk.of _ _ (way_leaves z hp)) (enter_ok z hp) ?_
  have e2 : nC (full n m bits) = m := gridOf_nC m _ h1
  rw [e2]
  have : enterN (nR (full n m bits)) m 0 = (0, 2) := by unfold enterN; rw [if_pos (show 0 < m by omega)]
  rw [this]
  show 2 % 2 = (0 / m + 0 % m) % 2
  rw [Nat.zero_div, Nat.zero_mod]
end Go.Proofs.Ytmlkabddhdkpaaa

/- Counting by places. -/
namespace Go.Proofs.Ytmlkabddhdkpaaa
set_option maxRecDepth 100000
set_option linter.unusedSimpArgs false
set_option linter.unusedVariables false

def bump (l : List Int) (e : Nat) : List Int := l.set e (l.getD e 0 + 1)
/-- how often f takes each value below P at 0 .. k - 1 -/
def cntBy (f : Nat → Nat) (P : Nat) : Nat → List Int
  | 0 => List.replicate P 0
  | k + 1 => bump (cntBy f P k) (f k)
theorem bump_len (l : List Int) (e : Nat) : (bump l e).length = l.length := by simp [bump]
theorem cntBy_len (f : Nat → Nat) (P : Nat) : ∀ k, (cntBy f P k).length = P
  | 0 => by simp [cntBy]
  | k + 1 => by rw [cntBy, bump_len, cntBy_len f P k]
theorem bump_get (l : List Int) (e j : Nat) (he : e < l.length) : (bump l e).getD j 0 = l.getD j 0 + (if e = j then 1 else 0) := by
  unfold bump
  rw [List.getD_eq_getElem?_getD, List.getElem?_set]
  by_cases h : e = j
  · subst h
    rw [if_pos rfl, if_pos he, if_pos rfl]; rfl
  · rw [if_neg h, if_neg h, ← List.getD_eq_getElem?_getD, Int.add_zero]
def tally (f : Nat → Nat) (j : Nat) : Nat → Nat
  | 0 => 0
  | k + 1 => tally f j k + (if f k = j then 1 else 0)
theorem cntBy_get (f : Nat → Nat) (P : Nat) : ∀ k, (∀ i, i < k → f i < P) → ∀ j, (cntBy f P k).getD j 0 = ((tally f j k : Nat) : Int)
  | 0, _, j => by
    rw [cntBy, tally, List.getD_eq_getElem?_getD, List.getElem?_replicate]
    split <;> rfl
  | k + 1, h, j => by
    rw [cntBy, tally, bump_get _ _ _ (by rw [cntBy_len]; exact h k (by omega)), cntBy_get f P k (fun i hi => h i (by omega)) j]
    split <;> omega
theorem tally_le (f : Nat → Nat) (j : Nat) : ∀ k, tally f j k ≤ k
  | 0 => by simp [tally]
  | k + 1 => by
    have := tally_le f j k
    rw [tally]; split <;> omega
theorem tally_zero (f : Nat → Nat) (j : Nat) : ∀ k, (∀ i, i < k → f i ≠ j) → tally f j k = 0
  | 0, _ => rfl
  | k + 1, h => by rw [tally, tally_zero f j k (fun i hi => h i (by omega)), if_neg (h k (by omega))]
theorem tally_pos (f : Nat → Nat) (j : Nat) : ∀ k i, i < k → f i = j → 0 < tally f j k
  | 0, i, h, _ => by omega
  | k + 1, i, h, e => by
    rw [tally]
    by_cases hi : i = k
    · subst hi; rw [if_pos e]; omega
    · have := tally_pos f j k i (by omega) e
      omega
theorem sum_set (l : List Int) (e : Nat) (x : Int) (he : e < l.length) : (l.set e x).sum = l.sum - l.getD e 0 + x := by
  induction l generalizing e with
  | nil => simp at he
  | cons y l ih =>
    cases e with
    | zero => simp; omega
    | succ e =>
      have := ih e (by simpa using he)
      simp only [List.set_cons_succ, List.sum_cons, List.getD_cons_succ, this]
      omega
theorem bump_sum (l : List Int) (e : Nat) (he : e < l.length) : (bump l e).sum = l.sum + 1 := by
  rw [bump, sum_set _ _ _ he]; omega
theorem cntBy_sum (f : Nat → Nat) (P : Nat) : ∀ k, (∀ i, i < k → f i < P) → (cntBy f P k).sum = (k : Int)
  | 0, _ => by simp [cntBy]
  | k + 1, h => by
    rw [cntBy, bump_sum _ _ (by rw [cntBy_len]; exact h k (by omega)), cntBy_sum f P k (fun i hi => h i (by omega))]
    omega
theorem cntBy_bound (f : Nat → Nat) (P k : Nat) (h : ∀ i, i < k → f i < P) (j : Nat) : 0 ≤ (cntBy f P k).getD j 0 ∧ (cntBy f P k).getD j 0 ≤ (k : Int) := by
  rw [cntBy_get f P k h j]
  have := tally_le f j k
  omega
end Go.Proofs.Ytmlkabddhdkpaaa

/- Shifts, and the last bit. -/
namespace Go.Proofs.Ytmlkabddhdkpaaa
set_option maxRecDepth 100000
set_option linter.unusedSimpArgs false
set_option linter.unusedVariables false
open Go Go.RowKit

section
variable {P : Program} {n : Nat} {σ : Env} {w : World}
variable {d : Option Nat} {ty : TypeId} {pos : String} {af : Array Edge} {g : Option (Nat × Bool)} {x y : Operand} {t t' : TypeId}
theorem i64_and1 (a : Nat) (ha : a < 9223372036854775808) : bits .and .i64 (a : Int) 1 = ((a % 2 : Nat) : Int) := by
  have h1 : (BitVec.ofInt 64 (a : Int)).toNat = a := by
    rw [BitVec.ofInt_natCast, BitVec.toNat_ofNat]; exact Nat.mod_eq_of_lt (by omega)
  have h2 : (BitVec.ofInt 64 1).toNat = 1 := rfl
  show IntKind.i64.wrap ((BitVec.ofInt 64 (a : Int) &&& BitVec.ofInt 64 1).toNat : Int) = _
  rw [BitVec.toNat_and, h1, h2, Nat.and_one_is_mod]
  exact wrap_in ⟨by omega, by omega⟩
theorem Ex.and1 {a : Nat} (hx : ev σ x = some (.int .i64 a)) (ha : a < 9223372036854775808) :
    Ex P n ⟨d, .binOp .and t x (.const (.int .i64 1)) t', ty, pos, af, g⟩ σ w (vint (a % 2 : Nat)) w := fun ac hac => by
  have hy : ac.eval (.const (.int .i64 1)) = .int .i64 1 := rfl
  have h := i64_and1 a ha
  simp [execOp, hac.evl hx, hy, eqGuard, binOp, intBits_and, h]
theorem Ex.shr {a b : Nat} (hx : ev σ x = some (.int .i64 a)) (hy : ev σ y = some (.int .i64 b)) (hb : b ≤ 64) :
    Ex P n ⟨d, .binOp .shr t x y t', ty, pos, af, g⟩ σ w (vint (a / 2 ^ b : Nat)) w := fun ac hac => by
  have h := shift_shr_i64 (x := (a : Int)) (y := (b : Int)) (yk := .i64) (by omega) (by omega)
  simp only [Int.toNat_natCast] at h
  simp [execOp, hac.evl hx, hac.evl hy, eqGuard_shr, binOp_shr, h]
theorem Ex.shl1 {b : Nat} (hy : ev σ y = some (.int .i64 b)) (hb : b ≤ 40) :
    Ex P n ⟨d, .binOp .shl t (.const (.int .i64 1)) y t', ty, pos, af, g⟩ σ w (vint (2 ^ b : Nat)) w := fun ac hac => by
  have h := shift_shl_i64 (x := 1) (y := (b : Int)) (yk := .i64) (by omega) (by omega)
  have hp : 2 ^ b ≤ 2 ^ 40 := Nat.pow_le_pow_right (by decide) hb
  have hw : IntKind.i64.wrap ((2 ^ b : Nat) : Int) = ((2 ^ b : Nat) : Int) := by
    generalize 2 ^ b = q at hp
    exact wrap_in ⟨by omega, by omega⟩
  have hx : ac.eval (.const (.int .i64 1)) = .int .i64 1 := rfl
  simp only [Int.toNat_natCast, Int.one_mul] at h
  have hc : ((2 : Int) ^ b) = ((2 ^ b : Nat) : Int) := by rw [Int.natCast_pow]; rfl
  rw [hc, hw] at h
  simp only [execOp, hx, hac.evl hy, eqGuard_shl, binOp_shl, h]
  rfl
theorem Ex.max {X Y : Int} {ts : Array TypeId} (hx : ev σ x = some (.int .i64 X)) (hy : ev σ y = some (.int .i64 Y)) :
    Ex P n ⟨d, .call { callee := .builtin .max, args := #[x, y], argTypes := ts }, ty, pos, af, g⟩ σ w (vint (Max.max X Y)) w := fun ac hac => by
  have h := run_max_int2 (P := P) (w := w) ts ty .i64 .i64 X Y
  have e : (if Y > X then Y else X) = Max.max X Y := by split <;> omega
  rw [e] at h
  simp [execOp, resolve, invoke, builtin, hac.evl hx, hac.evl hy, h]
theorem Ex.min {X Y : Int} {ts : Array TypeId} (hx : ev σ x = some (.int .i64 X)) (hy : ev σ y = some (.int .i64 Y)) :
    Ex P n ⟨d, .call { callee := .builtin .min, args := #[x, y], argTypes := ts }, ty, pos, af, g⟩ σ w (vint (Min.min X Y)) w := fun ac hac => by
  have h := run_min_int2 (P := P) (w := w) ts ty .i64 .i64 X Y
  have e : (if Y < X then Y else X) = Min.min X Y := by split <;> omega
  rw [e] at h
  simp [execOp, resolve, invoke, builtin, hac.evl hx, hac.evl hy, h]
end
end Go.Proofs.Ytmlkabddhdkpaaa
