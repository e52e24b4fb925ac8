/- The reader of a code: its object; slices of slices; blocks that a callee turns. -/
import Derived.Test.YtmlkabddhdkpaaaFacts
namespace Go.Proofs.Ytmlkabddhdkpaaa
set_option maxRecDepth 100000
set_option linter.unusedSimpArgs false
set_option linter.unusedVariables false
open Go Go.RowKit

section
variable {P : Program} {n : Nat} {σ : Env} {w w0 : World} {S : List Nat} {L : List (Nat × Obj)}
variable {d : Option Nat} {ty : TypeId} {pos : String} {af : Array Edge} {g : Option (Nat × Bool)} {x y z : Operand} {t e t' : TypeId}

theorem Ex.nilCheck {b o : Nat} (hx : ev σ x = some (vptr b o)) : Ex P n ⟨d, .nilCheck x, ty, pos, af, g⟩ σ w (vptr b o) w := fun a ha => by
  simp [execOp, ha.evl hx]
theorem i64_xor_nat (a b : Nat) (ha : a < 9223372036854775808) (hb : b < 9223372036854775808) : bits .xor .i64 (a : Int) (b : Int) = ((a ^^^ b : Nat) : Int) ∧ a ^^^ b < 9223372036854775808 := by
  have hx : a ^^^ b < 2 ^ 63 := Nat.xor_lt_two_pow (by omega) (by omega)
  have h1 : (BitVec.ofInt 64 (a : Int)).toNat = a := by
    rw [BitVec.ofInt_natCast, BitVec.toNat_ofNat]; exact Nat.mod_eq_of_lt (by omega)
  have h2 : (BitVec.ofInt 64 (b : Int)).toNat = b := by
    rw [BitVec.ofInt_natCast, BitVec.toNat_ofNat]; exact Nat.mod_eq_of_lt (by omega)
  refine ⟨?_, by omega⟩
  show IntKind.i64.wrap ((BitVec.ofInt 64 (a : Int) ^^^ BitVec.ofInt 64 (b : Int)).toNat : Int) = _
  rw [BitVec.toNat_xor, h1, h2]
  exact wrap_in ⟨by omega, by omega⟩
theorem Ex.xorN {a b : Int} (hx : ev σ x = some (.int .i64 a)) (hy : ev σ y = some (.int .i64 b)) (ha : 0 ≤ a ∧ a < 9223372036854775808) (hb : 0 ≤ b ∧ b < 9223372036854775808) :
    Ex P n ⟨d, .binOp .xor t x y t', ty, pos, af, g⟩ σ w (.int .i64 ((a.toNat ^^^ b.toNat : Nat) : Int)) w := fun ac hac => by
  obtain ⟨a', rfl⟩ := Int.eq_ofNat_of_zero_le ha.1
  obtain ⟨b', rfl⟩ := Int.eq_ofNat_of_zero_le hb.1
  have h := (i64_xor_nat a' b' (by omega) (by omega)).1
  simp [execOp, hac.evl hx, hac.evl hy, eqGuard, binOp, intBits_xor, h]
theorem elem_of (ht : P.underlying t = some (.slice e)) : P.elem t = e := by simp [Program.elem, ht]
/-- s[:j] -/
theorem Ex.sliceTo {zz : Value} {sz by' len cap : Nat} {a : Option Addr} {k : IntKind} {j : Nat} (ht : P.underlying t = some (.slice e)) (he : Ty P e zz sz by') (hx : ev σ x = some (.slice a len cap)) (hz : ev σ z = some (.int k j)) (hb : 0 < j ∧ j ≤ cap) :
    Ex P n ⟨d, .slice t x none (some z) none, ty, pos, af, g⟩ σ w (.slice a j cap) w := fun ac hac => by
  obtain ⟨i, h1, h2, h3, h4⟩ := he
  have ht' : P.underlying t = some (.slice (P.elem t)) := by rw [elem_of ht, ht]
  have := run_slice_h (P := P) (w := w) t a len cap ht' k (j : Int) (by omega) (by omega)
  rw [elem_of ht] at this
  simp [execOp, hac.evl hx, hac.evl hz, run_sliceAt_slice (h := ht'), this, sizeOf, typeInfo, h1, sliced]
  intro _
  cases a with
  | none => rfl
  | some q => simp [Addr.add]
/-- s[i:] -/
theorem Ex.sliceFrom {zz : Value} {sz by' len cap b off : Nat} {k : IntKind} {i : Nat} (ht : P.underlying t = some (.slice e)) (he : Ty P e zz sz by') (hx : ev σ x = some (.slice (some ⟨b, off, none⟩) len cap)) (hy : ev σ y = some (.int k i)) (hb : i ≤ len) (hc : i < cap) :
    Ex P n ⟨d, .slice t x (some y) none none, ty, pos, af, g⟩ σ w (.slice (some ⟨b, off + i * sz, none⟩) (len - i) (cap - i)) w := fun ac hac => by
  obtain ⟨i', h1, h2, h3, h4⟩ := he
  have ht' : P.underlying t = some (.slice (P.elem t)) := by rw [elem_of ht, ht]
  have := run_slice_l (P := P) (w := w) t (some ⟨b, off, none⟩) len cap ht' k (i : Int) (by omega) (by omega)
  rw [elem_of ht] at this
  have hne : ¬ cap = i := by omega
  simp [execOp, hac.evl hx, hac.evl hy, run_sliceAt_slice (h := ht'), this, sizeOf, typeInfo, h1, sliced, hne, h3, Addr.add_lit]
end

theorem Sl.take {α : Type} {r : Rep α} {w : World} {a : Option Addr} {l : List α} (h : Sl r w a l) (k : Nat) : Sl r w a (l.take k) := by
  refine ⟨by have := h.1; rw [List.length_take]; omega, ?_⟩
  rcases h.2 with rfl | ⟨b, off, e, hc⟩
  · left; simp
  · refine .inr ⟨b, off, e, fun j u hu => hc j u ?_⟩
    have : l.flatMap r.cells = (l.take k).flatMap r.cells ++ (l.drop k).flatMap r.cells := by rw [← List.flatMap_append, List.take_append_drop]
    rw [this, List.getElem?_append_left (List.getElem?_eq_some_iff.1 hu).1]; exact hu
/-- string(b) -/
theorem Ex.bytesStr {P : Program} {n : Nat} {σ : Env} {w : World} {d : Option Nat} {ty : TypeId} {pos : String} {af : Array Edge} {g : Option (Nat × Bool)} {x : Operand} {t e t' : TypeId} {b off cap : Nat} {l : List UInt8} (hs : P.underlying t = some (.slice e)) (he : P.underlying e = some (.int .u8)) (hd : P.underlying t' = some .string) (hx : ev σ x = some (.slice (some ⟨b, off, none⟩) l.length cap)) (hl : Sl rByte w (some ⟨b, off, none⟩) l) :
    Ex P n ⟨d, .convert t t' x, ty, pos, af, g⟩ σ w (vstr l) w := fun ac hac => by
  have hh := run_convert_bytes_back w t t' e ⟨b, off, none⟩ cap l hs he hd (fun j hj => by
    rw [Addr.add_lit]
    have h := hl.cell (j := j) (k := 0) (x := l[j]) (u := .int .u8 (l[j].toNat : Int)) (by simp) rfl
    simpa [show rByte.sz = 1 from rfl] using h)
  simp [execOp, hac.evl hx, hh]
/-- its block is none of these, or nothing is read -/
def Off {α : Type} (S : List Nat) (a : Option Addr) (l : List α) : Prop := l = [] ∨ Apart S a
theorem Sl.keepO {α : Type} {r : Rep α} {S : List Nat} {w w' : World} {a : Option Addr} {l : List α} (h : Sl r w a l) (k : Keep S w w') (hs : Off S a l) : Sl r w' a l := by
  rcases hs with rfl | hs
  · exact Sl.nil r w' a
  · exact h.keep k hs
theorem Sl.offNew {α : Type} {r : Rep α} {w : World} {a : Option Addr} {l : List α} (h : Sl r w a l) {b : Nat} (hb : w.heap.size ≤ b) : Off [b] a l := by
  rcases h.2 with rfl | ⟨b', off, e, hc⟩
  · exact .inl rfl
  · cases l with
    | nil => exact .inl rfl
    | cons y l =>
      refine .inr fun p hp => ?_
      rw [e] at hp; cases hp
      have hl : (r.cells y).length = r.sz := r.len y
      have hpos := r.pos
      have hj : ∃ u, ((y :: l).flatMap r.cells)[0]? = some u := by
        have : 0 < ((y :: l).flatMap r.cells).length := by simp; omega
        exact ⟨_, List.getElem?_eq_getElem this⟩
      obtain ⟨u, hu⟩ := hj
      have := World.block_lt_of_cell? w _ (hc 0 u hu)
      simp only [List.mem_singleton]
      dsimp only at this ⊢
      omega
/-- the object of a reader at place p -/
abbrev rdo (a : Option Addr) (len cap p : Nat) : Obj := .cells #[.slice a len cap, vint p] 84 (0, 0)
/-- a callee that turns blocks that were there at the start, and none of the call's own -/
theorem Hp.callT {T : List Nat} {w0 w w1 : World} {L : List (Nat × Obj)} (h : Hp T w0 w L) (hT : ∀ k ∈ T, k < w0.heap.size) (hL : ∀ p ∈ L, w0.heap.size ≤ p.1) (k : Keep T w w1) : Hp T w0 w1 L :=
  ⟨h.keep.trans k, fun p hp => k.heap (h.mem p hp) (fun hm => by have := hT _ hm; have := hL p hp; omega), h.own, h.nodup⟩
theorem Hp.at61 {S : List Nat} {w0 w : World} {L : List (Nat × Obj)} {r : Nat} {a : Option Addr} {len cap p : Nat} (h : Hp S w0 w ((r, .cells (#[.slice a len cap, vint p].setIfInBounds (0 + 1) (vint 61)) 84 (0, 0)) :: L)) : Hp S w0 w ((r, rdo a len cap 61) :: L) := h
theorem Hp.turnPush {S : List Nat} {w0 w w1 : World} {L : List (Nat × Obj)} {r b : Nat} {o o' ob : Obj} (h : Hp S w0 w ((r, o) :: L)) (k : Keep [r] w w1) (ho : w1.heap[r]? = some o') (hb : w.heap.size ≤ b) (hob : w1.heap[b]? = some ob) :
    Hp S w0 w1 ((b, ob) :: (r, o') :: L) := by
  have h1 := h.turn k ho
  have hlt := fun (q : Nat × Obj) (hq : q ∈ (r, o) :: L) => (Array.getElem?_eq_some_iff.1 (h.mem q hq)).1
  refine ⟨h1.keep, ?_, ?_, ?_⟩
  · intro p hp
    rcases List.mem_cons.1 hp with rfl | hp
    · exact hob
    · exact h1.mem p hp
  · intro p hp
    rcases List.mem_cons.1 hp with rfl | hp
    · exact .inl (Nat.le_trans h.keep.size hb)
    · exact h1.own p hp
  · have hn := h1.nodup
    rw [List.map_cons, List.nodup_cons]
    refine ⟨fun hm => ?_, hn⟩
    obtain ⟨p, hp, e⟩ := List.mem_map.1 hm
    have : ∃ q ∈ (r, o) :: L, q.1 = p.1 := by
      rcases List.mem_cons.1 hp with rfl | hp
      · exact ⟨(r, o), by simp, rfl⟩
      · exact ⟨p, List.mem_cons_of_mem _ hp, rfl⟩
    obtain ⟨q, hq, e2⟩ := this
    have := hlt q hq
    dsimp only at e
    omega
/-- a call that may turn one block that was -/
theorem Hp.at1 {w : World} {r : Nat} {o : Obj} (hr : w.heap[r]? = some o) : Hp [r] w w [(r, o)] :=
  ⟨Keep.refl _ w, by intro p hp; rw [List.mem_singleton.1 hp]; exact hr, by intro p hp; rw [List.mem_singleton.1 hp]; exact .inr (by simp), by simp⟩
theorem Hp.base1 {r : Nat} {w0 w : World} {L : List (Nat × Obj)} (h : Hp [r] w0 w L) (i j : Nat) (hij : Nat.beq i j = false) {p q : Nat × Obj} (hi : L[i]? = some p) (hj : L[j]? = some q) (hq : q.1 = r) : w0.heap.size ≤ p.1 :=
  (h.own p (List.mem_of_getElem? hi)).resolve_right (by rw [← hq]; exact h.nin i j hij hi hj)
theorem wrap_byte (c : UInt8) : IntKind.i64.wrap (c.toNat : Int) = (c.toNat : Int) := wrap_in (by have := UInt8.toNat_lt c; constructor <;> omega)
theorem remN (x : Int) (n : Nat) (h : 1 ≤ n) : ∃ k : Nat, x % (n : Int) = k ∧ k < n := by
  have h1 := Int.emod_nonneg x (b := (n : Int)) (by omega)
  have h2 := Int.emod_lt_of_pos x (b := (n : Int)) (by omega)
  exact ⟨(x % (n : Int)).toNat, by omega, by omega⟩
end Go.Proofs.Ytmlkabddhdkpaaa
