/- The program's start order, word by word: that it may be entered, what it lifts, what it is made of. -/
import Derived.Test.YtmlkabddhdkpaaaFacts
import Derived.ProofKit
namespace Go.Proofs.Ytmlkabddhdkpaaa
set_option maxRecDepth 100000
set_option linter.unusedSimpArgs false
set_option linter.unusedVariables false
open Go Go.RowKit

def joinW : List (List Char) → List Char
  | [] => []
  | [w] => w
  | w :: v :: ws => w ++ Char.ofNat 32 :: joinW (v :: ws)
theorem words_space (r : List Char) : wordsSigns (Char.ofNat 32 :: r) = [] :: wordsSigns r := rfl
theorem words_sign {c : Char} (h : c ≠ Char.ofNat 32) (r : List Char) : wordsSigns (c :: r) = match wordsSigns r with
    | w :: ws => (c :: w) :: ws
    | [] => [[c]] := by
  rw [wordsSigns] <;> first | exact h | rfl | (split <;> rfl)
theorem words_word : ∀ (w : List Char), (∀ c ∈ w, c ≠ Char.ofNat 32) → ∀ (r v : List Char) (vs : List (List Char)), wordsSigns r = v :: vs → wordsSigns (w ++ r) = (w ++ v) :: vs
  | [], _, r, v, vs, e => e
  | c :: w, h, r, v, vs, e => by
    rw [List.cons_append, words_sign (h c (by simp)), words_word w (fun d hd => h d (List.mem_cons_of_mem _ hd)) r v vs e]; rfl
theorem words_join : ∀ (ws : List (List Char)), ws ≠ [] → (∀ w ∈ ws, ∀ c ∈ w, c ≠ Char.ofNat 32) → wordsSigns (joinW ws) = ws
  | [], h, _ => absurd rfl h
  | [w], _, h => by
    have := words_word w (h w (by simp)) [] [] [] rfl
    rw [List.append_nil] at this
    show wordsSigns w = [w]
    rw [this]
  | w :: v :: ws, _, h => by
    have ih := words_join (v :: ws) (by simp) (fun x hx => h x (List.mem_cons_of_mem _ hx))
    have := words_word w (h w (by simp)) (Char.ofNat 32 :: joinW (v :: ws)) [] (v :: ws) (by rw [words_space, ih])
    rw [List.append_nil] at this
    exact this
def ordW : List (List Nat) := [[104, 97, 114, 110, 101, 115, 115], [98, 100, 48, 49, 49, 97, 52, 97, 55, 57, 99, 97, 100, 99, 53, 55, 55, 55, 56, 50, 55, 99, 55, 99, 55, 98, 48, 51, 52, 97, 48, 53, 52, 49, 55, 55, 99, 55, 55, 54, 52, 99, 57, 53, 100, 55, 102, 99, 102, 50, 102, 99, 98, 50, 56, 98, 97, 102, 55, 50, 52, 48, 101, 51], [99, 117, 116], [97, 116], [108, 111, 111, 112, 46, 101, 120, 97, 109, 112, 108, 101, 47, 109, 105, 114, 114, 111, 114, 103, 114, 105, 100, 115, 47, 108, 97, 119, 115, 46, 70, 110, 69, 120, 97, 99, 116, 67, 111, 117, 110, 116, 74, 111, 105, 110, 101, 100], [108, 111, 111, 112, 46, 101, 120, 97, 109, 112, 108, 101, 47, 109, 105, 114, 114, 111, 114, 103, 114, 105, 100, 115, 47, 108, 97, 119, 115, 46, 70, 110, 67, 111, 117, 110, 116, 74, 111, 105, 110, 101, 100]]
def sgn (w : List Nat) : List Char := w.map Char.ofNat
def w0C : List Char := sgn (ordW.getD 0 [])
def w1C : List Char := sgn (ordW.getD 1 [])
def cutC : List Char := [Char.ofNat 99, Char.ofNat 117, Char.ofNat 116]
def restC : List (List Char) := (ordW.drop 3).map sgn
def ordC : List (List Char) := w0C :: w1C :: cutC :: restC
theorem ord_eq : Try.prog.initOrder = String.ofList (joinW ordC) := by kernel_rfl
theorem ord_noSpace : (ordC.all fun w => w.all fun c => c.toNat != 32) = true := by decide +kernel
theorem ord_words : wordsSigns Try.prog.initOrder.toList = ordC := by
  rw [ord_eq, String.toList_ofList]
  refine words_join _ (by unfold ordC; simp) fun w hw c hc e => ?_
  have h1 := List.all_eq_true.1 (List.all_eq_true.1 ord_noSpace w hw) c hc
  rw [e] at h1
  exact absurd h1 (by decide)
theorem behind : behindMainWord (wordsSigns Try.prog.initOrder.toList) = cutC :: restC := by
  rw [ord_words]
  unfold ordC behindMainWord
  kernel_rfl
theorem strip_cut (rest : List (List Char)) : stripLifts liftWords (cutC :: rest) = ([], cutC :: rest) := by kernel_rfl
theorem mayEnter_of (P : Program) (rest : List (List Char)) (h : behindMainWord (wordsSigns P.initOrder.toList) = cutC :: rest) (h1 : P.laysLater = false) (h2 : P.bearsReflect = false) (h3 : P.doorFits [] = true) : P.mayEnter = true := by
  unfold Program.mayEnter
  rw [h]
  simp only [strip_cut, h1, h2, h3]
  kernel_rfl
theorem liftsFinal_of (P : Program) (rest : List (List Char)) (h : behindMainWord (wordsSigns P.initOrder.toList) = cutC :: rest) : P.liftsFinal = false := by
  unfold Program.liftsFinal Program.headLifts
  rw [h]
  simp only [strip_cut]
  kernel_rfl
theorem make_of (P : Program) (rest : List (List Char)) (h : behindMainWord (wordsSigns P.initOrder.toList) = cutC :: rest) : P.make = some .cut := by
  unfold Program.make
  rw [h]
  kernel_rfl
theorem lays_not : Try.prog.laysLater = false := by kernel_rfl
theorem reflect_not : Try.prog.bearsReflect = false := by kernel_rfl
theorem door_fits : Try.prog.doorFits [] = true := by kernel_rfl
theorem mayEnter : Try.prog.mayEnter = true := mayEnter_of _ _ behind lays_not reflect_not door_fits
theorem liftsFinal : Try.prog.liftsFinal = false := liftsFinal_of _ _ behind
theorem makeCut : Try.prog.make = some .cut := make_of _ _ behind
theorem andI {a b : Bool} (h : a = true) (k : b = true) : (a && b) = true := by rw [h, k]; rfl
end Go.Proofs.Ytmlkabddhdkpaaa
