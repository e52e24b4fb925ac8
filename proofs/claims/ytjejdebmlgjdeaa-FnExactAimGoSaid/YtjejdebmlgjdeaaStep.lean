/- Steps over memory. -/
import Derived.Test.YtjejdebmlgjdeaaMem
namespace Go.Proofs.Ytjejdebmlgjdeaa
set_option maxRecDepth 100000
set_option linter.unusedSimpArgs false
set_option linter.unusedVariables false
open Go Go.RowKit

abbrev bs (l : List UInt8) : ByteArray := ByteArray.mk l.toArray
abbrev vstr (l : List UInt8) : Value := .string (ByteArray.mk l.toArray)
abbrev vint (x : Int) : Value := .int .i64 x
abbrev vsl (b n cap : Nat) : Value := .slice (some ⟨b, 0, none⟩) n cap
abbrev vptr (b off : Nat) : Value := .pointer (some ⟨b, off, none⟩)

def rStr : Rep (List UInt8) := ⟨1, fun s => [vstr s], vstr, fun _ => rfl, by decide, fun _ u h => by rw [List.mem_singleton.1 h]; rfl, fun _ => rfl, fun _ _ => rfl⟩
def rInt : Rep Int := ⟨1, fun x => [vint x], vint, fun _ => rfl, by decide, fun _ u h => by rw [List.mem_singleton.1 h]; rfl, fun _ => rfl, fun _ _ => rfl⟩
def rByte : Rep UInt8 := ⟨1, fun x => [.int .u8 x.toNat], fun x => .int .u8 x.toNat, fun _ => rfl, by decide, fun _ u h => by rw [List.mem_singleton.1 h]; rfl, fun _ => rfl, fun _ _ => rfl⟩
def rBool : Rep Bool := ⟨1, fun x => [.bool x], .bool, fun _ => rfl, by decide, fun _ u h => by rw [List.mem_singleton.1 h]; rfl, fun _ => rfl, fun _ _ => rfl⟩
def rNat : Rep Nat := ⟨1, fun x => [vint x], fun x => vint x, fun _ => rfl, by decide, fun _ u h => by rw [List.mem_singleton.1 h]; rfl, fun _ => rfl, fun _ _ => rfl⟩
def rStep : Rep (Nat × Nat) := ⟨2, fun x => [vint x.1, vint x.2], fun x => .agg #[vint x.1, vint x.2], fun _ => rfl, by decide, fun _ u h => by
  rcases List.mem_cons.1 h with h | h
  · rw [h]; rfl
  · rw [List.mem_singleton.1 h]; rfl, fun _ => rfl, fun h => absurd h (by decide)⟩
def rPair : Rep (Int × Int) := ⟨2, fun x => [vint x.1, vint x.2], fun x => .agg #[vint x.1, vint x.2], fun _ => rfl, by decide, fun _ u h => by
  rcases List.mem_cons.1 h with h | h
  · rw [h]; rfl
  · rw [List.mem_singleton.1 h]; rfl, fun _ => rfl, fun h => absurd h (by decide)⟩

/-- a type's zero, cells, bytes -/
def Ty (P : Program) (t : TypeId) (z : Value) (sz by' : Nat) : Prop := ∃ i, P.info? t = some i ∧ i.zero = some z ∧ i.size = sz ∧ i.bytes = by'
theorem Ty.mk' {P : Program} {t : TypeId} {z : Value} {sz by' : Nat} (h : (P.info? t).map (fun i => (i.zero, i.size, i.bytes)) = some (some z, sz, by')) : Ty P t z sz by' := by
  cases e : P.info? t with
  | none => rw [e] at h; simp at h
  | some i => rw [e] at h; simp at h; exact ⟨i, e, h.1, h.2.1, h.2.2⟩

section
variable {P : Program} {n : Nat} {σ : Env} {w : World} {d : Option Nat} {ty : TypeId} {pos : String} {af : Array Edge} {g : Option (Nat × Bool)} {x y z : Operand} {t t' : TypeId}

theorem Ex.lenStr {l : List UInt8} (ht : P.underlying t = some .string) (hx : ev σ x = some (vstr l)) : Ex P n ⟨d, .call { callee := .builtin .len, args := #[x], argTypes := #[t] }, ty, pos, af, g⟩ σ w (vint l.length) w := fun a ha => by
  simp [execOp, resolve, invoke, builtin, ha.evl hx, Builtin.len_, run_underlying ht, goInt]
  rfl
theorem Ex.lenSl {e : TypeId} {ad : Option Addr} {k cap : Nat} (ht : P.underlying t = some (.slice e)) (hx : ev σ x = some (.slice ad k cap)) : Ex P n ⟨d, .call { callee := .builtin .len, args := #[x], argTypes := #[t] }, ty, pos, af, g⟩ σ w (vint k) w := fun a ha => by
  simp [execOp, resolve, invoke, builtin, ha.evl hx, Builtin.len_, run_underlying ht, goInt]
theorem bs_size (l : List UInt8) : (ByteArray.mk l.toArray).size = l.length := by show l.toArray.size = _; simp
theorem bs_get (l : List UInt8) (i : Nat) : (ByteArray.mk l.toArray)[i]? = l[i]? := by
  by_cases h : i < l.length
  · rw [ByteArray.getElem?_lt' _ _ (show i < l.toArray.size by simpa using h), List.getElem?_eq_getElem h]; rfl
  · rw [ByteArray.getElem?_ge' _ _ (show ¬ i < l.toArray.size by simpa using h), List.getElem?_eq_none (by omega)]
theorem Ex.indexStr {l : List UInt8} {k : IntKind} {i : Int} (ht : P.underlying t = some .string) (hx : ev σ x = some (vstr l)) (hy : ev σ y = some (.int k i)) (hi : 0 ≤ i ∧ i < l.length) :
    Ex P n ⟨d, .index t x y, ty, pos, af, g⟩ σ w (.int .u8 (l.getD i.toNat 0).toNat) w := fun a ha => by
  have h1 : i.toNat < l.length := by omega
  simp [execOp, ha.evl hx, ha.evl hy, Instr.index, asIntOf, run_underlying ht, hi.1, bs_get, List.getElem?_eq_getElem h1]
theorem Ex.indexAddr {e : TypeId} {b off k cap : Nat} {kd : IntKind} {i : Int} {zz : Value} {sz by' : Nat} (ht : P.underlying t = some (.slice e)) (he : Ty P e zz sz by') (hx : ev σ x = some (.slice (some ⟨b, off, none⟩) k cap)) (hy : ev σ y = some (.int kd i)) (hi : 0 ≤ i ∧ i < k) :
    Ex P n ⟨d, .indexAddr t x y, ty, pos, af, g⟩ σ w (vptr b (off + i.toNat * sz)) w := fun a ha => by
  obtain ⟨inf, h1, h2, h3, h4⟩ := he
  simp [execOp, ha.evl hx, ha.evl hy, Instr.indexAt, asIntOf, run_underlying ht, hi.1, hi.2, sizeOf, typeInfo, h1, h3, Addr.add_lit]
/-- not a struct, not an array -/
def Flat (P : Program) (t : TypeId) : Prop := ∃ dsc, P.underlying t = some dsc ∧ (match dsc with | .struct _ | .array _ _ => false | _ => true) = true
theorem run_isAgg_flat {t : TypeId} (h : Flat P t) (w : World) : (isAgg t).run P w = .ok false w := by
  obtain ⟨dsc, h1, h2⟩ := h
  unfold isAgg
  rw [Sem.run_bind, run_underlying h1]
  cases dsc <;> first | rfl | (simp at h2)
theorem Ex.load {b off : Nat} {v : Value} (ht : Flat P t) (hx : ev σ x = some (vptr b off)) (hc : w.cell? ⟨b, off, none⟩ = some v) : Ex P n ⟨d, .load t x, ty, pos, af, g⟩ σ w v w := fun a ha => by
  simp [execOp, ha.evl hx, Instr.loadAt, Instr.sureAddr, loadVar, run_isAgg_flat ht, hc]
theorem Ex.loadSl {α : Type} {r : Rep α} {b off : Nat} {l : List α} {j : Nat} {u : α} (ht : Flat P t) (hl : Sl r w (some ⟨b, off, none⟩) l) (hs : r.sz = 1) (hx : ev σ x = some (vptr b (off + j * r.sz))) (hu : l[j]? = some u) : Ex P n ⟨d, .load t x, ty, pos, af, g⟩ σ w (r.val u) w := by
  refine Ex.load ht hx ?_
  have h1 : (r.cells u)[0]? = some (r.val u) := by rw [r.v1 hs u]; rfl
  have := hl.cell hu h1
  simpa using this
theorem bs_extract (l : List UInt8) (i j : Nat) : (ByteArray.mk l.toArray).extract i j = ByteArray.mk ((l.drop i).take (j - i)).toArray := ByteArray.extract_mk l i j
theorem Ex.sliceStr {l : List UInt8} {k k' : IntKind} {i j : Int} (ht : P.underlying t = some .string) (hx : ev σ x = some (vstr l)) (hy : ev σ y = some (.int k i)) (hz : ev σ z = some (.int k' j)) (hb : 0 ≤ i ∧ i ≤ j ∧ j ≤ l.length) :
    Ex P n ⟨d, .slice t x (some y) (some z) none, ty, pos, af, g⟩ σ w (vstr ((l.drop i.toNat).take (j.toNat - i.toNat))) w := fun a ha => by
  have h1 : 0 ≤ j := by omega
  have h2 : i ≤ max j 0 := by omega
  simp [execOp, ha.evl hx, ha.evl hy, ha.evl hz, Instr.sliceAt, run_underlying ht, Instr.slice, Instr.sliceBounds, Instr.sliceBound, asIntOf, hb.1, h1, h2, hb.2.2, bs_extract, bs_size]
theorem Ex.sliceStrFrom {l : List UInt8} {k : IntKind} {i : Int} (ht : P.underlying t = some .string) (hx : ev σ x = some (vstr l)) (hy : ev σ y = some (.int k i)) (hb : 0 ≤ i ∧ i ≤ l.length) :
    Ex P n ⟨d, .slice t x (some y) none none, ty, pos, af, g⟩ σ w (vstr (l.drop i.toNat)) w := fun a ha => by
  have h3 : List.take (l.length - i.toNat) (List.drop i.toNat l) = List.drop i.toNat l := List.take_of_length_le (by simp)
  simp [h3, execOp, ha.evl hx, ha.evl hy, Instr.sliceAt, run_underlying ht, Instr.slice, Instr.sliceBounds, Instr.sliceBound, asIntOf, hb.1, hb.2, bs_extract, bs_size]
theorem Ex.sliceStrTo {l : List UInt8} {k' : IntKind} {j : Int} (ht : P.underlying t = some .string) (hx : ev σ x = some (vstr l)) (hz : ev σ z = some (.int k' j)) (hb : 0 ≤ j ∧ j ≤ l.length) :
    Ex P n ⟨d, .slice t x none (some z) none, ty, pos, af, g⟩ σ w (vstr (l.take j.toNat)) w := fun a ha => by
  simp [execOp, ha.evl hx, ha.evl hz, Instr.sliceAt, run_underlying ht, Instr.slice, Instr.sliceBounds, Instr.sliceBound, asIntOf, hb.1, hb.2, bs_extract, bs_size]
theorem Ex.concat {l m : List UInt8} (hx : ev σ x = some (vstr l)) (hy : ev σ y = some (vstr m)) (hb : l.length + m.length ≤ 9223372036854775807) : Ex P n ⟨d, .binOp .add t x y t', ty, pos, af, g⟩ σ w (vstr (l ++ m)) w := fun a ha => by
  have h := run_string_add_sum (P := P) (w := w) (bs l) (bs m) (by simpa [go_sem] using hb)
  simp only [execOp, ha.evl hx, ha.evl hy]
  simp [eqGuard, binOp_string_add, h, ByteArray.mk_append_mk]
theorem Ex.eqlStr {l m : List UInt8} (hx : ev σ x = some (vstr l)) (hy : ev σ y = some (vstr m)) : Ex P n ⟨d, .binOp .eql t x y t', ty, pos, af, g⟩ σ w (.bool (decide (l = m))) w := fun a ha => by
  simp [execOp, ha.evl hx, ha.evl hy, eqGuard, binOp_string_eql]
  by_cases h : l = m <;> simp [h]
theorem Ex.neqStr {l m : List UInt8} (hx : ev σ x = some (vstr l)) (hy : ev σ y = some (vstr m)) : Ex P n ⟨d, .binOp .neq t x y t', ty, pos, af, g⟩ σ w (.bool (!decide (l = m))) w := fun a ha => by
  simp [execOp, ha.evl hx, ha.evl hy, eqGuard, binOp_string_neq]
  by_cases h : l = m <;> simp [h]
theorem run_equal_bool {b c : Bool} (ht : P.underlying t = some .bool) : (Op.equal t (.bool b) (.bool c)).run P w = .ok (b == c) w := run_equalIn_bool' w 9999 t b c ht
theorem Ex.eqlB {b c : Bool} (ht : P.underlying t = some .bool) (hx : ev σ x = some (.bool b)) (hy : ev σ y = some (.bool c)) : Ex P n ⟨d, .binOp .eql t x y t', ty, pos, af, g⟩ σ w (.bool (b == c)) w := fun a ha => by
  have e : binOp .eql t (.bool b) (.bool c) = (do pure (.bool (← Op.equal t (.bool b) (.bool c)))) := rfl
  simp only [execOp, ha.evl hx, ha.evl hy, e]
  simp [eqGuard, run_equal_bool ht]
theorem Ex.neqB {b c : Bool} (ht : P.underlying t = some .bool) (hx : ev σ x = some (.bool b)) (hy : ev σ y = some (.bool c)) : Ex P n ⟨d, .binOp .neq t x y t', ty, pos, af, g⟩ σ w (.bool (!(b == c))) w := fun a ha => by
  have e : binOp .neq t (.bool b) (.bool c) = (do pure (.bool (!(← Op.equal t (.bool b) (.bool c))))) := rfl
  simp only [execOp, ha.evl hx, ha.evl hy, e]
  simp [eqGuard, run_equal_bool ht]
theorem Ex.makeFunc {f : Nat} {cs : List Operand} {vs : List Value} (hv : evs σ cs = some vs) : Ex P n ⟨d, .makeFunc (.func f) #[] cs.toArray, ty, pos, af, g⟩ σ w (.func (.func f) #[] vs.toArray) w := fun a ha => by
  have h := ha.evsl hv
  simp [execOp, Instr.makeFunc, h]
theorem Ex.conv {k k' : IntKind} {i : Int} (hd : P.underlying t' = some (.int k')) (ht : P.underlying t = some (.int k)) (hx : ev σ x = some (.int k i)) : Ex P n ⟨d, .convert t t' x, ty, pos, af, g⟩ σ w (.int k' (k'.wrap i)) w := fun a ha => by
  simp [execOp, ha.evl hx, convert, run_underlying hd, run_underlying ht, Conv.intToInt]
/-- a wider kind -/
theorem Ex.conv' {k k' : IntKind} {i : Int} (hd : P.underlying t' = some (.int k')) (ht : P.underlying t = some (.int k)) (hx : ev σ x = some (.int k i)) (hw : k'.wrap i = i) : Ex P n ⟨d, .convert t t' x, ty, pos, af, g⟩ σ w (.int k' i) w := by
  have := Ex.conv (P := P) (n := n) (σ := σ) (w := w) (d := d) (ty := ty) (pos := pos) (af := af) (g := g) hd ht hx
  rwa [hw] at this
end
end Go.Proofs.Ytjejdebmlgjdeaa
