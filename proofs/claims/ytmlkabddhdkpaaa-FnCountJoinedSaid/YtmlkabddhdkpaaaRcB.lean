/- The number of rounds of a full grid, by numbers alone. -/
import Derived.Test.YtmlkabddhdkpaaaJnCn
namespace Go.Proofs.Ytmlkabddhdkpaaa
set_option maxRecDepth 100000
set_option linter.unusedSimpArgs false
set_option linter.unusedVariables false

/-- x is reckoned out first -/
def force {α : Type} (x : Nat) (f : Nat → α) : α := match x with
  | 0 => f 0
  | k + 1 => f (k + 1)
theorem force_eq {α : Type} (x : Nat) (f : Nat → α) : force x f = f x := by cases x <;> rfl
def bendB (b d : Nat) : Nat := bif Nat.beq b 0 then (bif Nat.beq d 0 then 1 else bif Nat.beq d 1 then 0 else bif Nat.beq d 2 then 3 else 2) else 3 - d
def goB (n m cell e : Nat) : Nat :=
  bif Nat.beq e 0 then (bif Nat.blt cell m then 400 else 4 * (cell - m))
  else bif Nat.beq e 1 then (bif Nat.beq (cell % m + 1) m then 400 else 4 * (cell + 1) + 1)
  else bif Nat.beq e 2 then (bif Nat.ble ((n - 1) * m) cell then 400 else 4 * (cell + m) + 2)
  else (bif Nat.beq (cell % m) 0 then 400 else 4 * (cell - 1) + 3)
def codeS (x : Sum Nat (Nat × Nat)) : Nat := match x with
  | .inl _ => 400
  | .inr s => code s
theorem goB_ok : ∀ n < 6, ∀ m < 6, ∀ cell < n * m, ∀ e < 4, goB n m cell e = codeS (goN n m cell e) := by decide +kernel
def bitB (bits x : Nat) : Nat := bits / 2 ^ (x / 4) % 2
def nxtB (n m bits x : Nat) : Nat := goB n m (x / 4) (bendB (bitB bits x) (x % 4))
def revB (bits x : Nat) : Nat := 4 * (x / 4) + (bendB (bitB bits x) (x % 4) + 2) % 4

theorem bend_B (b : Nat) (hb : b < 2) (d : Nat) (hd : d < 4) : bend (([114, 102] : List UInt8).getD b 0) d = bendB b d := by
  have h1 : b = 0 ∨ b = 1 := by omega
  have h2 : d = 0 ∨ d = 1 ∨ d = 2 ∨ d = 3 := by omega
  rcases h1 with rfl | rfl <;> rcases h2 with rfl | rfl | rfl | rfl <;> decide
section
variable {n m bits : Nat} (h1 : 1 ≤ n) (h2 : n ≤ 5) (h3 : 1 ≤ m) (h4 : m ≤ 5)
theorem full_nR : nR (full n m bits) = n := gridOf_nR _ _ _
include h1 in
theorem full_nC : nC (full n m bits) = m := gridOf_nC _ _ h1
include h1 in
theorem full_bend {s : Nat × Nat} (hs : Ok (full n m bits) s) : bend (letter (full n m bits) s.1) s.2 = bendB (bitB bits (code s)) (code s % 4) := by
  have hc := hs.cell
  rw [full_nR, full_nC h1] at hc
  have hd := hs.d
  have e1 : code s / 4 = s.1 := by unfold code; omega
  have e2 : code s % 4 = s.2 := by unfold code; omega
  have e3 : letter (full n m bits) s.1 = mirror m bits (s.1 / m) (s.1 % m) := gridOf_letter _ hc
  rw [e3, e2]
  unfold bitB mirror
  rw [e1, show s.1 / m * m + s.1 % m = s.1 by rw [Nat.mul_comm]; exact Nat.div_add_mod _ _]
  exact bend_B _ (Nat.mod_lt _ (by decide)) _ hd
include h1 in
theorem full_rev {s : Nat × Nat} (hs : Ok (full n m bits) s) : code (rev (full n m bits) s) = revB bits (code s) := by
  unfold rev revB rv
  rw [full_bend h1 hs]
  have e1 : code s / 4 = s.1 := by have := hs.d; unfold code; omega
  rw [e1]
  rfl
include h1 h2 h4 in
theorem full_next {s : Nat × Nat} (hs : Ok (full n m bits) s) : nxtB n m bits (code s) = codeS (afterN (full n m bits) s) := by
  have hc := hs.cell
  rw [full_nR, full_nC h1] at hc
  have e1 : code s / 4 = s.1 := by have := hs.d; unfold code; omega
  unfold nxtB afterN
  rw [full_bend h1 hs, e1, full_nR, full_nC h1]
  refine goB_ok n (by omega) m (by omega) _ hc _ ?_
  rw [← full_bend h1 hs]
  exact bend_lt _ _ hs.d
end
theorem code_400 {n m : Nat} {g : Grid} (z : Sz g) {s : Nat × Nat} (hs : Ok g s) : code s < 400 := by
  have h1 := hs.cell
  have h2 := hs.d
  have : nR g * nC g ≤ 5 * 5 := Nat.mul_le_mul (by have := z.n5; omega) (by have := z.m5; omega)
  unfold code; omega

theorem inL_cons (s : Nat × Nat) (L : List (Nat × Nat)) (y : Nat) : inL (s :: L) y = (code s == y || inL L y) := by unfold inL; rw [List.any_cons]
/-- marks in one number -/
def setB (M x : Nat) : Nat := M ||| 2 ^ x
theorem setB_test (M x y : Nat) : Nat.testBit (setB M x) y = (Nat.testBit M y || x == y) := by
  unfold setB
  rw [Nat.testBit_or, Nat.testBit_two_pow]
  congr 1
def closeB (n m bits x0 : Nat) : Nat → Nat → Nat → Nat
  | 0, _, M => M
  | f + 1, x, M => force (nxtB n m bits x) fun y => force (setB (setB M x) (revB bits x)) fun M' =>
    bif Nat.blt y 400 then (bif Nat.beq y x0 then M' else closeB n m bits x0 f y M') else M'
def wayB (n m bits : Nat) : Nat → Nat → Nat → Nat
  | 0, _, M => M
  | f + 1, x, M => force (nxtB n m bits x) fun y => force (setB M x) fun M' =>
    bif Nat.blt y 400 then wayB n m bits f y M' else M'
def beamsB (n m bits : Nat) : Nat → Nat → Nat
  | 0, M => M
  | p + 1, M => force (wayB n m bits (4 * (n * m)) (code (enterN n m p)) M) fun M' => beamsB n m bits p M'
def sweepB (n m bits : Nat) : Nat → Nat → Nat → Nat
  | 0, _, _ => 0
  | k + 1, x, M => bif Nat.testBit M x then sweepB n m bits k (x + 1) M else
    (force (closeB n m bits x (4 * (n * m)) x M) fun M' => sweepB n m bits k (x + 1) M') + 1
def rcB (n m bits : Nat) : Nat := sweepB n m bits (4 * (n * m)) 0 (beamsB n m bits (2 * n + 2 * m) 0)

section
variable {n m bits : Nat} (h1 : 1 ≤ n) (h2 : n ≤ 5) (h3 : 1 ≤ m) (h4 : m ≤ 5)
include h1 h2 h3 h4
theorem full_sz : Sz (full n m bits) := (full_ok bits h1 h2 h3 h4).sz
theorem closeB_ok {s0 : Nat × Nat} (h0 : Ok (full n m bits) s0) : ∀ (f : Nat) (s : Nat × Nat) (M : Nat), Ok (full n m bits) s → ∀ y,
    Nat.testBit (closeB n m bits (code s0) f (code s) M) y = (Nat.testBit M y || inL (closeF (full n m bits) s0 f s).1 y || inL ((closeF (full n m bits) s0 f s).1.map (rev (full n m bits))) y)
  | 0, s, M, _, y => by simp [closeB, closeF, inL]
  | f + 1, s, M, hs, y => by
    have z := full_sz (bits := bits) h1 h2 h3 h4
    unfold closeB closeF
    rw [force_eq, force_eq, full_next h1 h2 h4 hs]
    cases e : afterN (full n m bits) s with
    | inl p =>
      simp only [codeS, show Nat.blt 400 400 = false from rfl, cond_false]
      rw [setB_test, setB_test, ← full_rev h1 hs]
      simp [inL]
    | inr s' =>
      have hs' := (after_r z hs e).1
      have hlt := code_400 (n := n) (m := m) z hs'
      simp only [codeS]
      rw [show Nat.blt (code s') 400 = true by simpa using hlt, cond_true]
      by_cases hq : s' = s0
      · subst hq
        rw [if_pos rfl, show Nat.beq (code s') (code s') = true by simp, cond_true, setB_test, setB_test, ← full_rev h1 hs]
        simp [inL]
      · rw [if_neg hq, show Nat.beq (code s') (code s0) = false by
            cases hb : Nat.beq (code s') (code s0) with
            | false => rfl
            | true => exact absurd (code_inj hs' h0 (Nat.eq_of_beq_eq_true hb)) hq, cond_false, closeB_ok h0 f s' _ hs' y]
        simp only [List.map_cons, inL_cons, setB_test, ← full_rev h1 hs]
        cases Nat.testBit M y <;> cases (code s == y) <;> cases (code (rev (full n m bits) s) == y) <;> simp
theorem wayB_ok : ∀ (f : Nat) (s : Nat × Nat) (M : Nat), Ok (full n m bits) s → ∀ y,
    Nat.testBit (wayB n m bits f (code s) M) y = (Nat.testBit M y || inL (wayF (full n m bits) f s).1 y)
  | 0, s, M, _, y => by simp [wayB, wayF, inL]
  | f + 1, s, M, hs, y => by
    have z := full_sz (bits := bits) h1 h2 h3 h4
    unfold wayB wayF
    rw [force_eq, force_eq, full_next h1 h2 h4 hs]
    cases e : afterN (full n m bits) s with
    | inl p =>
      simp only [codeS, show Nat.blt 400 400 = false from rfl, cond_false]
      rw [setB_test]
      simp [inL]
    | inr s' =>
      have hs' := (after_r z hs e).1
      have hlt := code_400 (n := n) (m := m) z hs'
      simp only [codeS]
      rw [show Nat.blt (code s') 400 = true by simpa using hlt, cond_true, wayB_ok f s' _ hs' y, setB_test, inL_cons, Bool.or_assoc]
theorem beamsB_ok : ∀ (p M : Nat), p ≤ 2 * n + 2 * m → ∀ y, Nat.testBit (beamsB n m bits p M) y = (Nat.testBit M y || (List.range p).any fun p => inL (way (full n m bits) p).1 y)
  | 0, M, _, y => by simp [beamsB]
  | p + 1, M, hp, y => by
    have z := full_sz (bits := bits) h1 h2 h3 h4
    have hpp : p < ports (full n m bits) := by
      have : ports (full n m bits) = 2 * n + 2 * m := gridOf_ports m _ h1
      omega
    have he := enter_ok z hpp
    have hw := wayB_ok h1 h2 h3 h4 (4 * (n * m)) (enterN (nR (full n m bits)) (nC (full n m bits)) p) M he y
    unfold beamsB
    rw [force_eq, beamsB_ok p _ (by omega) y, List.range_succ, List.any_append]
    rw [full_nR, full_nC h1] at hw
    rw [hw]
    unfold way
    rw [full_nR, full_nC h1]
    simp only [List.any_cons, List.any_nil, Bool.or_false]
    cases Nat.testBit M y <;> simp [Bool.or_comm]
theorem sweepB_ok : ∀ (k x M : Nat) (F : Nat → Bool), x + k ≤ 4 * (n * m) → (∀ y, Nat.testBit M y = F y) → sweepB n m bits k x M = (sweep (full n m bits) (List.range' x k) F).length
  | 0, x, M, F, _, _ => by simp [sweepB, sweep]
  | k + 1, x, M, F, hx, hM => by
    have z := full_sz (bits := bits) h1 h2 h3 h4
    unfold sweepB
    rw [List.range'_succ, hM x]
    unfold sweep
    cases e : F x with
    | true =>
      rw [cond_true, if_pos rfl]
      exact sweepB_ok k (x + 1) M F (by omega) hM
    | false =>
      have hok : Ok (full n m bits) (stepOf x) := stepOf_ok (by rw [full_nR, full_nC h1]; omega)
      rw [cond_false, if_neg (by decide), force_eq, List.length_cons]
      congr 1
      refine sweepB_ok k (x + 1) _ _ (by omega) (fun y => ?_)
      have := closeB_ok h1 h2 h3 h4 hok (4 * (n * m)) (stepOf x) M hok y
      rw [code_stepOf] at this
      rw [this, hM y]
      unfold markL close
      rw [full_nR, full_nC h1]
theorem rcB_ok : rcB n m bits = (rounds (full n m bits)).length := by
  unfold rcB rounds
  rw [full_nR, full_nC h1, List.range_eq_range']
  refine sweepB_ok h1 h2 h3 h4 _ _ _ _ (by omega) (fun y => ?_)
  rw [beamsB_ok h1 h2 h3 h4 _ _ (Nat.le_refl _) y]
  unfold beamMark
  rw [show ports (full n m bits) = 2 * n + 2 * m from gridOf_ports m _ h1]
  simp
end
end Go.Proofs.Ytmlkabddhdkpaaa
