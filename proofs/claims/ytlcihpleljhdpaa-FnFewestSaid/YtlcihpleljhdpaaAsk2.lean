/- The grids that fit: the program's list and the reference's. -/
import Derived.Test.YtlcihpleljhdpaaAsk
namespace Go.Proofs.Ytlcihpleljhdpaa
set_option maxRecDepth 100000
set_option linter.unusedSimpArgs false
set_option linter.unusedVariables false
open Go Go.RowKit
def askFit (n m : Int) (ans : List Int) : Int × Bool := if ansB n m ans = true then (((fits n.toNat m.toNat ans).length : Int), true) else (0, false)
theorem askFit_at {n m : Nat} {ans : List Int} (h : AnsOk n m ans) : askFit n m ans = (((fits n m ans).length : Int), true) := by rw [askFit, if_pos h.b]; rfl
theorem askFit_not {n m : Int} {ans : List Int} (h : ansB n m ans = false) : askFit n m ans = (0, false) := by rw [askFit, if_neg (by rw [h]; decide)]
theorem Gs.move {lo b b' : Nat} {w w' : World} {hs : List Hd} {L : List Grid} (a : Gs lo [b] w hs L) (hb : b' = b ∨ w.heap.size ≤ b') (k : Keep [b] w w') : Gs lo [b'] w' hs L :=
  ((a.reX (X' := [b', b]) (fun x hx => by
    rcases List.mem_cons.1 hx with rfl | hx
    · rcases hb with rfl | hb
      · exact .inl (by simp)
      · exact .inr hb
    · exact .inl hx)).keep k (fun x hx => .inl (by simp at hx; simp [hx]))).reX (fun x hx => .inl (by simp at hx; simp [hx]))
theorem Gs.move2 {lo b b' c : Nat} {w w' : World} {hs : List Hd} {L : List Grid} (a : Gs lo [b, c] w hs L) (hb : b' = b ∨ w.heap.size ≤ b') (k : Keep [b, c] w w') : Gs lo [b', c] w' hs L :=
  ((a.reX (X' := [b', b, c]) (fun x hx => by
    rcases List.mem_cons.1 hx with rfl | hx
    · rcases hb with rfl | hb
      · exact .inl (by simp)
      · exact .inr hb
    · exact .inl hx)).keep k (fun x hx => .inl (by simp at hx; rcases hx with rfl | rfl <;> simp))).reX (fun x hx => .inl (by simp at hx; rcases hx with rfl | rfl <;> simp))

end Go.Proofs.Ytlcihpleljhdpaa
