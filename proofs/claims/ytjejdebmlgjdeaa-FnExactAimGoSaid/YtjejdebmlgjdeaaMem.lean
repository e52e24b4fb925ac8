/- Memory: what a call keeps, the blocks of its own, slices that are read. -/
import Derived.Test.YtjejdebmlgjdeaaEx
namespace Go.Proofs.Ytjejdebmlgjdeaa
set_option maxRecDepth 100000
set_option linter.unusedSimpArgs false
set_option linter.unusedVariables false
open Go Go.RowKit

/-- from w to w' nothing has turned but the blocks in S; blocks may have come -/
structure Keep (S : List Nat) (w w' : World) : Prop where
  os : w'.os = w.os
  tape : w'.tape = w.tape
  output : w'.output = w.output
  size : w.heap.size ≤ w'.heap.size
  block : ∀ k, k < w.heap.size → k ∉ S → w'.heap[k]? = w.heap[k]?

theorem Keep.refl (S : List Nat) (w : World) : Keep S w w := ⟨rfl, rfl, rfl, Nat.le_refl _, fun _ _ _ => rfl⟩
theorem Keep.trans {S : List Nat} {a b c : World} (h : Keep S a b) (k : Keep S b c) : Keep S a c :=
  ⟨k.os.trans h.os, k.tape.trans h.tape, k.output.trans h.output, Nat.le_trans h.size k.size, fun i hi hs => (k.block i (Nat.lt_of_lt_of_le hi h.size) hs).trans (h.block i hi hs)⟩
theorem Keep.mono {S T : List Nat} {a b : World} (h : Keep S a b) (hs : ∀ k, k ∈ S → k ∈ T) : Keep T a b := ⟨h.os, h.tape, h.output, h.size, fun k hk hn => h.block k hk fun hm => hn (hs k hm)⟩
theorem Keep.nil {T : List Nat} {a b : World} (h : Keep [] a b) : Keep T a b := h.mono (by simp)
theorem Keep.drew (S : List Nat) (w : World) : Keep S w w.drew := ⟨rfl, rfl, rfl, Nat.le_refl _, fun _ _ _ => rfl⟩
theorem Keep.alloc (S : List Nat) (w : World) (o : Obj) : Keep S w (w.alloc o) := ⟨rfl, rfl, rfl, by simp, fun k hk _ => Below.heap_alloc w o k hk⟩
theorem Keep.below {a b : World} (h : Keep [] a b) : Below a.heap.size a b := ⟨h.os, h.tape, h.output, h.size, fun k hk => h.block k hk (by simp)⟩
theorem Keep.cell {S : List Nat} {w w' : World} (h : Keep S w w') {a : Addr} {v : Value} (hc : w.cell? a = some v) (hs : a.block ∉ S) : w'.cell? a = some v :=
  (World.cell?_of_block (h.block a.block (World.block_lt_of_cell? w a hc) hs)).trans hc
theorem Keep.heap {S : List Nat} {w w' : World} (h : Keep S w w') {b : Nat} {o : Obj} (hc : w.heap[b]? = some o) (hs : b ∉ S) : w'.heap[b]? = some o :=
  (h.block b (Array.getElem?_eq_some_iff.1 hc).1 hs).trans hc

/-- THE STATE OF A CALL THAT BEGAN IN w0: it may turn the blocks in S; the blocks in L, its own or in S, hold these objects -/
structure Hp (S : List Nat) (w0 w : World) (L : List (Nat × Obj)) : Prop where
  keep : Keep S w0 w
  mem : ∀ p ∈ L, w.heap[p.1]? = some p.2
  own : ∀ p ∈ L, w0.heap.size ≤ p.1 ∨ p.1 ∈ S
  nodup : (L.map (·.1)).Nodup

section
variable {S : List Nat} {w0 w : World} {L : List (Nat × Obj)}
theorem Hp.start (S : List Nat) (w : World) : Hp S w w [] := ⟨Keep.refl S w, by simp, by simp, by simp⟩
theorem Hp.at (h : Hp S w0 w L) (i : Nat) {p : Nat × Obj} (hi : L[i]? = some p) : w.heap[p.1]? = some p.2 := h.mem p (List.mem_of_getElem? hi)
theorem Hp.lt (h : Hp S w0 w L) (i : Nat) {p : Nat × Obj} (hi : L[i]? = some p) : p.1 < w.heap.size := (Array.getElem?_eq_some_iff.1 (h.at i hi)).1
theorem Hp.drew (h : Hp S w0 w L) : Hp S w0 w.drew L := ⟨h.keep.trans (Keep.drew S w), h.mem, h.own, h.nodup⟩
/-- a new block -/
theorem Hp.alloc (h : Hp S w0 w L) (o : Obj) : Hp S w0 (w.alloc o) ((w.heap.size, o) :: L) := by
  refine ⟨h.keep.trans (Keep.alloc S w o), ?_, ?_, ?_⟩
  · intro p hp
    rcases List.mem_cons.1 hp with rfl | hp
    · exact heap_alloc_new w o
    · exact (Below.heap_alloc w o _ (Array.getElem?_eq_some_iff.1 (h.mem p hp)).1).trans (h.mem p hp)
  · intro p hp
    rcases List.mem_cons.1 hp with rfl | hp
    · exact .inl h.keep.size
    · exact h.own p hp
  · simp only [List.map_cons, List.nodup_cons]
    refine ⟨fun hm => ?_, h.nodup⟩
    obtain ⟨p, hp, e⟩ := List.mem_map.1 hm
    have := (Array.getElem?_eq_some_iff.1 (h.mem p hp)).1
    omega
/-- two blocks of a call's own are two -/
theorem Hp.nin (h : Hp S w0 w L) (i j : Nat) (hij : Nat.beq i j = false) {p q : Nat × Obj} (hi : L[i]? = some p) (hj : L[j]? = some q) : p.1 ∉ [q.1] := by
  intro hm
  have e := List.mem_singleton.1 hm
  have hi' : (L.map (·.1))[i]? = some p.1 := by simp [hi]
  have hj' : (L.map (·.1))[j]? = some p.1 := by simp [hj, e]
  have hlt : i < (L.map (·.1)).length := (List.getElem?_eq_some_iff.1 hi').1
  exact Nat.ne_of_beq_eq_false hij ((List.getElem?_inj hlt h.nodup).1 (hi'.trans hj'.symm))
/-- a callee that turns nothing that was -/
theorem Hp.call {w1 : World} (h : Hp S w0 w L) (k : Keep [] w w1) : Hp S w0 w1 L :=
  ⟨h.keep.trans k.nil, fun p hp => k.heap (h.mem p hp) (by simp), h.own, h.nodup⟩
/-- a callee that has made a block and hands it over -/
theorem Hp.push {w1 : World} (h : Hp S w0 w L) (k : Keep [] w w1) {b : Nat} {o : Obj} (hb : w.heap.size ≤ b) (ho : w1.heap[b]? = some o) : Hp S w0 w1 ((b, o) :: L) := by
  have h1 := h.call k
  refine ⟨h1.keep, ?_, ?_, ?_⟩
  · intro p hp
    rcases List.mem_cons.1 hp with rfl | hp
    · exact ho
    · exact h1.mem p hp
  · intro p hp
    rcases List.mem_cons.1 hp with rfl | hp
    · exact .inl (Nat.le_trans h.keep.size hb)
    · exact h1.own p hp
  · simp only [List.map_cons, List.nodup_cons]
    refine ⟨fun hm => ?_, h.nodup⟩
    obtain ⟨p, hp, e⟩ := List.mem_map.1 hm
    have := (Array.getElem?_eq_some_iff.1 (h.mem p hp)).1
    omega
theorem Hp.tail {p : Nat × Obj} (h : Hp S w0 w (p :: L)) : Hp S w0 w L :=
  ⟨h.keep, fun q hq => h.mem q (List.mem_cons_of_mem _ hq), fun q hq => h.own q (List.mem_cons_of_mem _ hq), (List.nodup_cons.1 (by simpa using h.nodup)).2⟩
/-- drop the i-th -/
theorem Hp.drop (h : Hp S w0 w L) (i : Nat) : Hp S w0 w (L.eraseIdx i) :=
  ⟨h.keep, fun q hq => h.mem q (List.mem_of_mem_eraseIdx hq), fun q hq => h.own q (List.mem_of_mem_eraseIdx hq), by
    exact h.nodup.sublist ((List.eraseIdx_sublist L i).map _)⟩
theorem Hp.sub {M : List (Nat × Obj)} (h : Hp S w0 w L) (hs : M.Sublist L) : Hp S w0 w M :=
  ⟨h.keep, fun q hq => h.mem q (hs.subset hq), fun q hq => h.own q (hs.subset hq), h.nodup.sublist (hs.map _)⟩
theorem Hp.first0 (h : Hp S w0 w L) : Hp S w0 w [] := h.sub (List.nil_sublist _)
theorem Hp.first1 {a : Nat × Obj} (h : Hp S w0 w (a :: L)) : Hp S w0 w [a] := h.sub (by simp)
theorem Hp.first2 {a b : Nat × Obj} (h : Hp S w0 w (a :: b :: L)) : Hp S w0 w [a, b] := h.sub (by simp)
theorem Hp.first3 {a b c : Nat × Obj} (h : Hp S w0 w (a :: b :: c :: L)) : Hp S w0 w [a, b, c] := h.sub (by simp)
theorem Hp.first4 {a b c d : Nat × Obj} (h : Hp S w0 w (a :: b :: c :: d :: L)) : Hp S w0 w [a, b, c, d] := h.sub (by simp)
/-- the i-th to the front -/
theorem Hp.front (h : Hp S w0 w L) (i : Nat) {p : Nat × Obj} (hi : L[i]? = some p) : Hp S w0 w (p :: L.eraseIdx i) := by
  have hlt : i < L.length := (List.getElem?_eq_some_iff.1 hi).1
  have hp : L.Perm (p :: L.eraseIdx i) := by
    rw [List.eraseIdx_eq_take_drop_succ]
    have e : L = L.take i ++ p :: L.drop (i + 1) := by
      conv => lhs; rw [← List.take_append_drop i L, List.drop_eq_getElem_cons hlt, (List.getElem?_eq_some_iff.1 hi).2]
    exact (List.Perm.of_eq e).trans List.perm_middle
  exact ⟨h.keep, fun q hq => h.mem q (hp.mem_iff.2 hq), fun q hq => h.own q (hp.mem_iff.2 hq), (hp.map _).nodup_iff.1 h.nodup⟩

/-- a step that turns the first block alone (and may make more) -/
theorem Hp.turn {w1 : World} {b : Nat} {o o' : Obj} (h : Hp S w0 w ((b, o) :: L)) (k : Keep [b] w w1) (ho : w1.heap[b]? = some o') : Hp S w0 w1 ((b, o') :: L) := by
  have hn := List.nodup_cons.1 (show (b :: L.map (·.1)).Nodup from h.nodup)
  have hne : ∀ q ∈ L, q.1 ∉ [b] := fun q hq e => hn.1 (by rw [← List.mem_singleton.1 e]; exact List.mem_map_of_mem hq)
  refine ⟨⟨k.os.trans h.keep.os, k.tape.trans h.keep.tape, k.output.trans h.keep.output, Nat.le_trans h.keep.size k.size, fun i hi hs => ?_⟩, ?_, ?_, h.nodup⟩
  · have hib : i ∉ [b] := fun e => by
      have e := List.mem_singleton.1 e
      subst e
      rcases h.own (i, o) (by simp) with h1 | h1
      · dsimp only at h1; omega
      · exact hs h1
    exact (k.block i (Nat.lt_of_lt_of_le hi h.keep.size) hib).trans (h.keep.block i hi hs)
  · intro p hp
    rcases List.mem_cons.1 hp with rfl | hp
    · exact ho
    · exact k.heap (h.mem p (List.mem_cons_of_mem _ hp)) (hne p hp)
  · intro p hp
    rcases List.mem_cons.1 hp with rfl | hp
    · exact h.own (b, o) (by simp)
    · exact h.own p (List.mem_cons_of_mem _ hp)
/-- a step that gives up the first block for a new one -/
theorem Hp.move {w1 : World} {b b' : Nat} {o o' : Obj} (h : Hp S w0 w ((b, o) :: L)) (k : Keep [] w w1) (hb : w.heap.size ≤ b') (ho : w1.heap[b']? = some o') : Hp S w0 w1 ((b', o') :: L) :=
  h.tail.push k hb ho

theorem keep_setCell (w : World) (b i : Nat) (v : Value) : Keep [b] w (w.setCell ⟨b, i, none⟩ v) :=
  ⟨rfl, rfl, rfl, by simp, fun k hk hs => heap_setCell_other w _ k v (by simpa using hs)⟩
theorem heap_setCell_at (w : World) (g i : Nat) (cs : Array Value) (t : TypeId) (fr : Nat × Nat) (v : Value) (hg : w.heap[g]? = some (.cells cs t fr)) :
    (w.setCell ⟨g, i, none⟩ v).heap[g]? = some (.cells (cs.setIfInBounds i v) t fr) := by
  simp [World.setCell, Array.getElem?_modify, hg]
theorem Hp.setCell {b : Nat} {cs : Array Value} {t : TypeId} {fr : Nat × Nat} (h : Hp S w0 w ((b, .cells cs t fr) :: L)) (i : Nat) (v : Value) :
    Hp S w0 (w.setCell ⟨b, i, none⟩ v) ((b, .cells (cs.setIfInBounds i v) t fr) :: L) :=
  h.turn (keep_setCell w b i v) (heap_setCell_at w b i cs t fr v (h.at 0 rfl))
end

/-! ### slices that are read -/
structure Rep (α : Type) where
  sz : Nat
  cells : α → List Value
  val : α → Value
  len : ∀ x, (cells x).length = sz
  pos : 0 < sz
  one : ∀ x, ∀ u ∈ cells x, u.oneCell' = true
  vc : ∀ x, (val x).cells = (cells x).toArray
  v1 : sz = 1 → ∀ x, cells x = [val x]

theorem length_flat {α : Type} (r : Rep α) (l : List α) : (l.flatMap r.cells).length = l.length * r.sz := by
  induction l with
  | nil => simp
  | cons x l ih => simp [ih, r.len, Nat.add_mul, Nat.add_comm]
theorem flat_get {α : Type} (r : Rep α) (l : List α) (j k : Nat) (x : α) (hx : l[j]? = some x) (hk : k < r.sz) : (l.flatMap r.cells)[j * r.sz + k]? = (r.cells x)[k]? := by
  induction l generalizing j with
  | nil => simp at hx
  | cons y l ih =>
    cases j with
    | zero =>
      simp at hx; subst hx
      simp only [List.flatMap_cons, Nat.zero_mul, Nat.zero_add]
      rw [List.getElem?_append_left (by rw [r.len]; exact hk)]
    | succ j =>
      simp only [List.flatMap_cons]
      rw [List.getElem?_append_right (by rw [r.len, Nat.add_mul]; omega), r.len]
      have : (j + 1) * r.sz + k - r.sz = j * r.sz + k := by rw [Nat.add_mul]; omega
      rw [this]
      exact ih j (by simpa using hx)

/-- the slice over 'a' reads as l -/
def Sl {α : Type} (r : Rep α) (w : World) (a : Option Addr) (l : List α) : Prop :=
  (l.length : Int) ≤ 9223372036854775807 ∧ (l = [] ∨ ∃ b off, a = some ⟨b, off, none⟩ ∧ ∀ j u, (l.flatMap r.cells)[j]? = some u → w.cell? ⟨b, off + j, none⟩ = some u)

/-- its block is none of these -/
def Apart (S : List Nat) (a : Option Addr) : Prop := ∀ p, a = some p → p.block ∉ S

theorem Sl.keep {α : Type} {r : Rep α} {S : List Nat} {w w' : World} {a : Option Addr} {l : List α} (h : Sl r w a l) (k : Keep S w w') (hs : Apart S a) : Sl r w' a l :=
  ⟨h.1, h.2.imp id fun ⟨b, off, e, hc⟩ => ⟨b, off, e, fun j u hu => k.cell (hc j u hu) (hs ⟨b, off, none⟩ e)⟩⟩
theorem Sl.kept {α : Type} {r : Rep α} {w w' : World} {a : Option Addr} {l : List α} (h : Sl r w a l) (k : Keep [] w w') : Sl r w' a l := h.keep k fun _ _ => by simp
theorem Sl.nil {α : Type} (r : Rep α) (w : World) (a : Option Addr) : Sl r w a [] := ⟨by simp, .inl rfl⟩
theorem Sl.addr {α : Type} {r : Rep α} {w : World} {a : Option Addr} {l : List α} (h : Sl r w a l) (hl : 0 < l.length) : ∃ b off, a = some ⟨b, off, none⟩ := by
  rcases h.2 with rfl | ⟨b, off, e, _⟩
  · simp at hl
  · exact ⟨b, off, e⟩
theorem Sl.cell {α : Type} {r : Rep α} {w : World} {b off : Nat} {l : List α} (h : Sl r w (some ⟨b, off, none⟩) l) {j k : Nat} {x : α} {u : Value} (hx : l[j]? = some x) (hu : (r.cells x)[k]? = some u) : w.cell? ⟨b, off + (j * r.sz + k), none⟩ = some u := by
  rcases h.2 with rfl | ⟨b', off', e, hc⟩
  · simp at hx
  · cases e
    have hk : k < r.sz := by rw [← r.len x]; exact (List.getElem?_eq_some_iff.1 hu).1
    exact hc _ _ ((flat_get r l j k x hx hk).trans hu)

/-- a row of cells begins with l -/
def Rw {α : Type} (r : Rep α) (cur : Array Value) (l : List α) : Prop := cur.toList.take (l.length * r.sz) = l.flatMap r.cells

theorem Rw.sl {α : Type} {r : Rep α} {w : World} {b : Nat} {cur : Array Value} {e : TypeId} {fr : Nat × Nat} {l : List α} (h : Rw r cur l) (hb : w.heap[b]? = some (.cells cur e fr)) (hm : (l.length : Int) ≤ 9223372036854775807) : Sl r w (some ⟨b, 0, none⟩) l := by
  refine ⟨hm, .inr ⟨b, 0, rfl, fun j u hu => ?_⟩⟩
  rw [cell_of_row w b (0 + j) cur e fr hb, Nat.zero_add]
  rw [← h, List.getElem?_take] at hu
  split at hu
  · simpa using hu
  · cases hu

/-- a slice that the call has made: the caller may write to it -/
def New {α : Type} (r : Rep α) (e : TypeId) (w0 w : World) (v : Value) (l : List α) : Prop :=
  ∃ b cap cur, v = .slice (some ⟨b, 0, none⟩) l.length cap ∧ w0.heap.size ≤ b ∧ w.heap[b]? = some (.cells cur e (0, 0)) ∧ cur.size = cap * r.sz ∧ l.length ≤ cap ∧ cap ≤ maxLen ∧ Rw r cur l

end Go.Proofs.Ytjejdebmlgjdeaa
