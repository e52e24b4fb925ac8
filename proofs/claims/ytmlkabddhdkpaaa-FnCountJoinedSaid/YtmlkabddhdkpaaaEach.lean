/- A function value that is called for each of many grids; blocks that it turns. -/
import Derived.Test.YtmlkabddhdkpaaaJnCn
import Derived.Test.YtmlkabddhdkpaaaInts
namespace Go.Proofs.Ytmlkabddhdkpaaa
set_option maxRecDepth 100000
set_option linter.unusedSimpArgs false
set_option linter.unusedVariables false
open Go Go.RowKit

/-- F, with what it has caught, is called for G 0, G 1 .. G (N - 1); J i U: what holds before the i-th call, U: the blocks that it may turn; in the beginning these are T -/
structure Each (P : Program) (F : Nat) (cs : List Value) (G : Nat → Grid) (N : Nat) (T : List Nat) (J : Nat → List Nat → World → Prop) (w : World) : Prop where
  fn : Callable P F
  lt : ∀ k ∈ T, k < w.heap.size
  keep : ∀ i U w2 w3, J i U w2 → Keep [] w2 w3 → J i U w3
  start : J 0 T w
  call : ∀ (w2 : World) (i b cap : Nat) (cur : Array Value) (U : List Nat), Keep T w w2 → i < N → J i U w2 → (∀ k ∈ U, k < w2.heap.size) → b ∉ U → w.heap.size ≤ b → w2.heap[b]? = some (.cells cur 9 (0, 0)) → Own rStr cur cap (G i) →
    Fn P F ([vsl b (G i).length cap] ++ cs) w2 (fun _ w3 => ∃ U', J (i + 1) U' w3 ∧ Keep U w2 w3 ∧ ∀ k ∈ U', k ∈ U ∨ (w2.heap.size ≤ k ∧ k < w3.heap.size))

theorem Own.sl0 {α : Type} {r : Rep α} {w : World} {b cap : Nat} {cur : Array Value} {e : TypeId} {fr : Nat × Nat} {l : List α} (o : Own r cur cap l) (h : w.heap[b]? = some (.cells cur e fr)) : Sl r w (some ⟨b, 0, none⟩) l := o.rw.sl h (by have := o.le; have := o.max; omega)
theorem Hp.callU {T U : List Nat} {w0 w w1 : World} {L : List (Nat × Obj)} (h : Hp T w0 w L) (hU : ∀ k ∈ U, k ∈ T ∨ w0.heap.size ≤ k) (hL : ∀ p ∈ L, p.1 ∉ U) (k : Keep U w w1) : Hp T w0 w1 L :=
  ⟨⟨k.os.trans h.keep.os, k.tape.trans h.keep.tape, k.output.trans h.keep.output, Nat.le_trans h.keep.size k.size, fun i hi hs => (k.block i (Nat.lt_of_lt_of_le hi h.keep.size) (fun hm => by
      rcases hU i hm with h1 | h1
      · exact hs h1
      · omega)).trans (h.keep.block i hi hs)⟩,
    fun p hp => k.heap (h.mem p hp) (hL p hp), h.own, h.nodup⟩
/-- what is left of the own blocks when a callee has turned some of them -/
theorem Hp.rest {S U : List Nat} {w0 w w1 : World} {L L1 L2 : List (Nat × Obj)} (h : Hp S w0 w L) (hs : L = L1 ++ L2) (hU : ∀ k ∈ U, k ∈ L1.map (·.1)) (k : Keep U w w1) : Hp S w0 w1 L2 := by
  subst hs
  refine (Hp.sub (L := L1 ++ L2) h (List.sublist_append_right L1 L2)).callU (fun u hu => ?_) (fun p hp hm => ?_) k
  · obtain ⟨q, hq, e⟩ := List.mem_map.1 (hU u hu)
    have := h.own q (List.mem_append_left _ hq)
    rw [← e]; exact this.symm
  · have hn := h.nodup
    rw [List.map_append, List.nodup_append] at hn
    exact hn.2.2 p.1 (hU p.1 hm) p.1 (List.mem_map_of_mem hp) rfl
/-- one more block of the call's own -/
theorem Hp.add {S : List Nat} {w0 w : World} {L : List (Nat × Obj)} (h : Hp S w0 w L) {b : Nat} {o : Obj} (hb : w0.heap.size ≤ b) (ho : w.heap[b]? = some o) (hn : b ∉ L.map (·.1)) : Hp S w0 w ((b, o) :: L) := by
  refine ⟨h.keep, ?_, ?_, ?_⟩
  · intro p hp
    rcases List.mem_cons.1 hp with rfl | hp
    · exact ho
    · exact h.mem p hp
  · intro p hp
    rcases List.mem_cons.1 hp with rfl | hp
    · exact .inl hb
    · exact h.own p hp
  · rw [List.map_cons, List.nodup_cons]
    exact ⟨hn, h.nodup⟩
theorem Hp.cellAt {S : List Nat} {w0 w : World} {L : List (Nat × Obj)} (h : Hp S w0 w L) (i : Nat) {b : Nat} {cs : Array Value} {e : TypeId} {fr : Nat × Nat} (hi : L[i]? = some (b, .cells cs e fr)) (off : Nat) {v : Value} (hv : cs[off]? = some v) : w.cell? ⟨b, off, none⟩ = some v :=
  (cell_of_row w b off cs e fr (h.at i hi)).trans hv
section
variable {S : List Nat} {w0 w : World} {L : List (Nat × Obj)}
theorem Hp.f5 {a b c d e f : Nat × Obj} (hyp : Hp S w0 w (a :: b :: c :: d :: e :: f :: L)) : Hp S w0 w (f :: a :: b :: c :: d :: e :: L) := hyp.front 5 rfl
theorem Hp.f6 {a b c d e f g : Nat × Obj} (hyp : Hp S w0 w (a :: b :: c :: d :: e :: f :: g :: L)) : Hp S w0 w (g :: a :: b :: c :: d :: e :: f :: L) := hyp.front 6 rfl
theorem Hp.f7 {a b c d e f g h : Nat × Obj} (hyp : Hp S w0 w (a :: b :: c :: d :: e :: f :: g :: h :: L)) : Hp S w0 w (h :: a :: b :: c :: d :: e :: f :: g :: L) := hyp.front 7 rfl
theorem Hp.f8 {a b c d e f g h i : Nat × Obj} (hyp : Hp S w0 w (a :: b :: c :: d :: e :: f :: g :: h :: i :: L)) : Hp S w0 w (i :: a :: b :: c :: d :: e :: f :: g :: h :: L) := hyp.front 8 rfl
theorem Hp.nin2 (h : Hp S w0 w L) (i j k : Nat) (hij : Nat.beq i j = false) (hik : Nat.beq i k = false) {p q r : Nat × Obj} (hi : L[i]? = some p) (hj : L[j]? = some q) (hk : L[k]? = some r) : p.1 ∉ [q.1, r.1] := by
  intro hm
  rcases List.mem_cons.1 hm with h1 | h1
  · exact h.nin i j hij hi hj (by rw [h1]; simp)
  · exact h.nin i k hik hi hk h1
end
theorem Keep.shrink {S : List Nat} {a b c : World} (h : Keep [] a b) (k : Keep S b c) (hs : ∀ x ∈ S, a.heap.size ≤ x) : Keep [] a c :=
  ⟨k.os.trans h.os, k.tape.trans h.tape, k.output.trans h.output, Nat.le_trans h.size k.size, fun i hi _ => (k.block i (Nat.lt_of_lt_of_le hi h.size) (fun hm => by have := hs i hm; omega)).trans (h.block i hi (by simp))⟩
end Go.Proofs.Ytmlkabddhdkpaaa
