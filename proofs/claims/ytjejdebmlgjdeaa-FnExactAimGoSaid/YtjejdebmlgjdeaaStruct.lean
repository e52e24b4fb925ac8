/- Structs: fields, literals, results that lie in memory; fresh rows. -/
import Derived.Test.YtjejdebmlgjdeaaPlan
namespace Go.Proofs.Ytjejdebmlgjdeaa
set_option maxRecDepth 100000
set_option linter.unusedSimpArgs false
set_option linter.unusedVariables false
open Go Go.RowKit

/-- field i of struct s lies at off, and is one cell -/
def Fd (P : Program) (s : TypeId) (i off : Nat) : Prop := ∃ fs f, P.underlying s = some (.struct fs) ∧ fs[i]? = some f ∧ f.offset = off ∧ (∃ inf, P.info? f.type = some inf ∧ inf.size ≠ 0) ∧ Flat P f.type
/-- struct t has its fields so -/
def Bd (P : Program) (t : TypeId) (z : Array Value) (pl : Array (Nat × Nat)) : Prop := ∃ fs inf zv, P.underlying t = some (.struct fs) ∧ P.info? t = some inf ∧ inf.zero = some zv ∧ zv.cells = z ∧ ∀ w, (fs.mapM fun f => (do pure (f.offset, ← sizeOf f.type) : Sem (Nat × Nat))).run P w = .ok pl w

section
variable {P : Program} {n : Nat} {Q : Exit → Act → World → Prop} {σ : Env} {w w0 : World} {S : List Nat} {L : List (Nat × Obj)}
variable {d : Option Nat} {ty : TypeId} {pos : String} {af : Array Edge} {g : Option (Nat × Bool)} {x y : Operand} {t e : TypeId}

theorem Ex.fieldAddr {i off b o : Nat} (hf : Fd P t i off) (hx : ev σ x = some (vptr b o)) : Ex P n ⟨d, .fieldAddr t x i, ty, pos, af, g⟩ σ w (vptr b (o + off)) w := fun a ha => by
  obtain ⟨fs, f, h1, h2, h3, ⟨inf, h4, h5⟩, _⟩ := hf
  simp [execOp, ha.evl hx, Instr.fieldAt, run_underlying h1, h2, Instr.sureAddr, fieldPlace, sizeOf, typeInfo, h4, h5, Addr.add_lit, h3]
theorem Ex.field {i off : Nat} {cs : Array Value} {v : Value} (hf : Fd P t i off) (hx : ev σ x = some (.agg cs)) (hv : cs[off]? = some v) : Ex P n ⟨d, .field t x i, ty, pos, af, g⟩ σ w v w := fun a ha => by
  obtain ⟨fs, f, h1, h2, h3, _, h6⟩ := hf
  simp [execOp, ha.evl hx, Instr.field, run_underlying h1, h2, asAgg, part, run_isAgg_flat h6, h3, hv]
theorem Ex.build {z cs : Array Value} {pl : Array (Nat × Nat)} {parts : List (Nat × Operand)} {pv : List (Nat × Value)} (hb : Bd P t z pl) (hp : parts.map (·.1) = pv.map (·.1)) (hv : evs σ (parts.map (·.2)) = some (pv.map (·.2))) (hf : Instr.fill (pl[·]?) z pv = some cs) :
    Ex P n ⟨d, .build t parts.toArray, ty, pos, af, g⟩ σ w (.agg cs) w := fun a ha => by
  obtain ⟨fs, inf, zv, h1, h2, h3, h4, h5⟩ := hb
  have hpv : parts.map (fun p => (p.1, a.eval p.2)) = pv := by
    have h5 := ha.evsl hv
    rw [List.map_map] at h5
    have h6 : (parts.map (fun p => (p.1, a.eval p.2))).map (·.1) = pv.map (·.1) := by rw [List.map_map, ← hp]; rfl
    have h7 : (parts.map (fun p => (p.1, a.eval p.2))).map (·.2) = pv.map (·.2) := by rw [List.map_map, ← h5]; rfl
    have key : ∀ (l m : List (Nat × Value)), l.map (·.1) = m.map (·.1) → l.map (·.2) = m.map (·.2) → l = m := by
      intro l
      induction l with
      | nil => intro m h _; cases m with
        | nil => rfl
        | cons _ _ => simp at h
      | cons p l ih => intro m ha hb; cases m with
        | nil => simp at ha
        | cons q m =>
          simp only [List.map_cons, List.cons.injEq] at ha hb
          rw [ih m ha.2 hb.2, show p = q from Prod.ext ha.1 hb.1]
    exact key _ _ h6 h7
  have h6 : ∀ w', (Instr.build t (parts.map (fun p => (p.1, a.eval p.2))).toArray).run P w' = .ok (.agg cs) w' := fun w' => by
    have h5' := h5 w'
    simp only [Instr.build, zeroValue, typeInfo, Sem.run_bind, run_program, Result.andThen_ok, h2, h3, Sem.run_pure, run_underlying h1, h4]
    rw [h5']
    simp [hpv, hf]
  have h7 : (parts.toArray.map fun (p : Nat × Operand) => (p.1, a.eval p.2)) = (parts.map (fun p => (p.1, a.eval p.2))).toArray := by simp
  simp only [execOp]
  rw [h7]
  simp [h6]

theorem fill_oneP (pl : Nat → Option (Nat × Nat)) (m : Nat) (hpl : ∀ i, i < m → pl i = some (i, 1)) : ∀ (vs pre zs : List Value), vs.all Value.oneCell' = true → vs.length = zs.length → pre.length + vs.length = m →
    Instr.fill pl (pre ++ zs).toArray ((List.range' pre.length vs.length).zip vs) = some (pre ++ vs).toArray
  | [], pre, zs, _, hl, _ => by
    have : zs = [] := List.eq_nil_of_length_eq_zero hl.symm
    simp [Instr.fill, this]
  | v :: vs, pre, zs, h, hl, hm => by
    simp only [List.all_cons, Bool.and_eq_true] at h
    have hc : v.cells = #[v] := by cases v <;> first | rfl | (simp [Value.oneCell'] at h)
    cases zs with
    | nil => simp at hl
    | cons z zs =>
      simp only [List.length_cons, Nat.add_right_cancel_iff] at hl hm
      have ih := fill_oneP pl m hpl vs (pre ++ [v]) zs h.2 hl (by simp; omega)
      simp only [List.length_append, List.length_singleton] at ih
      simp only [List.length_cons, List.range'_succ, List.zip_cons_cons]
      rw [Instr.fill, hpl pre.length (by omega)]
      simp only [hc, List.size_toArray, List.length_singleton, ne_eq, not_true_eq_false, decide_false, Bool.false_or]
      simpa using ih
/-- a struct literal with all its fields, each of one cell -/
theorem Ex.buildS {z : Array Value} {pl : Array (Nat × Nat)} {parts : List (Nat × Operand)} {vs : List Value} (hb : Bd P t z pl) (hv : evs σ (parts.map (·.2)) = some vs) (hpl : pl = ((List.range vs.length).map fun i => (i, 1)).toArray) (hz : z.size = vs.length) (hp : parts.map (·.1) = List.range' 0 vs.length) (h1 : vs.all Value.oneCell' = true) :
    Ex P n ⟨d, .build t parts.toArray, ty, pos, af, g⟩ σ w (.agg vs.toArray) w := by
  refine Ex.build (pv := (List.range' 0 vs.length).zip vs) hb ?_ ?_ ?_
  · rw [hp, List.map_fst_zip]; simp
  · rw [hv, List.map_snd_zip]; simp
  · subst hpl
    have := fill_oneP (fun i => ((List.range vs.length).map fun i => (i, 1)).toArray[i]?) vs.length (fun i hi => by simp [hi]) vs [] z.toList h1 (by simp [hz]) (by simp)
    simpa using this

/-- an element that is a struct -/
theorem Ex.loadSlS {α : Type} {r : Rep α} {b off : Nat} {l : List α} {j : Nat} {u : α} {z : Value} {by' : Nat} {fs : Array Field} (ht : P.underlying t = some (.struct fs)) (hz : Ty P t z r.sz by') (hl : Sl r w (some ⟨b, off, none⟩) l) (hx : ev σ x = some (vptr b (off + j * r.sz))) (hu : l[j]? = some u) (hv : r.val u = .agg (r.cells u).toArray) : Ex P n ⟨d, .load t x, ty, pos, af, g⟩ σ w (r.val u) w := fun a ha => by
  obtain ⟨i, h1, h2, h3, h4⟩ := hz
  have hc : (loadCells ⟨b, off + j * r.sz, none⟩ r.sz).run P w = .ok (r.cells u).toArray w := by
    have := run_loadCells_list (P := P) (w := w) ⟨b, off + j * r.sz, none⟩ (r.cells u) (fun k y hy => by
      rw [Addr.add_lit, Nat.add_assoc]
      exact hl.cell hu hy)
    rwa [r.len] at this
  rw [hv]
  simp [execOp, ha.evl hx, Instr.loadAt, Instr.sureAddr, loadVar, isAgg, run_underlying ht, sizeOf, typeInfo, h1, h3, hc]
/-- make([]T, n) -/
theorem WL.makeSlice {z : Value} {sz by' k : Nat} {Q : Exit → Act → World → Prop} {ops : Array Oper} {rest : List Oper} {d : Nat} (ht : P.underlying t = some (.slice e)) (he : Ty P e z sz by') (hx : ev σ x = some (vint k)) (hy : ev σ y = some (vint k)) (hb : by' * k ≤ 281474976710656) (hk : k ≤ 9223372036854775807)
    (hn : Nat.blt d n = true) (hw : Wt ops ⟨some d, .makeSlice t x y, ty, pos, af, g⟩ σ true) (hH : Hp S w0 w L)
    (h : ∀ b w', w.heap.size ≤ b → Keep [] w w' → Hp S w0 w' ((b, .cells (madeCells z.cells (k * sz)) e (0, 0)) :: L) → WL P n ops Q rest ((d, vsl b k k) :: σ) w') : WL P n ops Q (⟨some d, .makeSlice t x y, ty, pos, af, g⟩ :: rest) σ w := by
  obtain ⟨i, h1, h2, h3, h4⟩ := he
  have hb' : (i.bytes : Int) * (k : Int) ≤ 281474976710656 := by
    have h : ((i.bytes * k : Nat) : Int) ≤ 281474976710656 := by rw [h4]; omega
    rwa [Int.natCast_mul] at h
  have hr := run_make (P := P) w t e i z ht h1 h2 .i64 .i64 k k (by omega) (Int.le_refl _) hb' (by omega)
  simp only [Int.toNat_natCast, h3] at hr
  exact WL.u rfl hn hw (fun a ha => by simp only [execOp, ha.evl hx, ha.evl hy, Sem.run_bind, hr, Result.andThen_ok, Sem.run_pure]) (h _ _ (Nat.le_refl _) (Keep.alloc [] w _) (hH.alloc _))
theorem Own.made {α : Type} (r : Rep α) {z : Value} (x0 : α) (hz : z = r.val x0) (h1 : r.sz = 1) {k : Nat} (hk : k ≤ 9223372036854775807) : Own r (madeCells z.cells (k * 1)) k (List.replicate k x0) := by
  have hc : z.cells = #[r.val x0] := by rw [hz, r.vc, r.v1 h1]
  refine ⟨by rw [size_madeCells, h1], by simp, hk, ?_⟩
  unfold Rw
  rw [hc, Nat.mul_one, toList_madeCells_one, h1, Nat.mul_one, List.length_replicate, List.take_of_length_le (by simp)]
  clear hc hk hz
  induction k with
  | zero => rfl
  | succ k ih => rw [List.replicate_succ, List.replicate_succ, List.flatMap_cons, r.v1 h1, ih]; rfl
theorem Own.idx {α : Type} {r : Rep α} {cur : Array Value} {cap : Nat} {l : List α} (o : Own r cur cap l) (h1 : r.sz = 1) {i : Nat} (hi : i < l.length) : 0 + (i : Int).toNat * 1 < cur.size := by
  have := o.size; have := o.le
  rw [h1] at *
  rw [Int.toNat_natCast]; omega
theorem flat_one {α : Type} {r : Rep α} (h1 : r.sz = 1) (l : List α) : l.flatMap r.cells = l.map r.val := by
  induction l with
  | nil => rfl
  | cons x l ih => rw [List.flatMap_cons, List.map_cons, r.v1 h1, ih]; rfl
theorem Own.set {α : Type} {r : Rep α} {cur : Array Value} {cap : Nat} {l : List α} (o : Own r cur cap l) (h1 : r.sz = 1) (i : Nat) (x : α) : Own r (cur.setIfInBounds (0 + (i : Int).toNat * 1) (r.val x)) cap (l.set i x) := by
  refine ⟨by simp [o.size], by simp [o.le], o.max, ?_⟩
  have h := o.rw
  unfold Rw at *
  rw [flat_one h1] at *
  rw [h1, Nat.mul_one] at *
  rw [Int.toNat_natCast, Nat.zero_add, Nat.mul_one, Array.toList_setIfInBounds, List.length_set, List.take_set, h, List.map_set]
/-- what a row holds at i -/
theorem Own.get {α : Type} {r : Rep α} {cur : Array Value} {cap : Nat} {l : List α} (o : Own r cur cap l) (h1 : r.sz = 1) {i : Nat} {x : α} (hx : l[i]? = some x) : cur[0 + (i : Int).toNat * 1]? = some (r.val x) := by
  have h := o.rw
  unfold Rw at h
  rw [flat_one h1, h1, Nat.mul_one] at h
  have hi : i < l.length := (List.getElem?_eq_some_iff.1 hx).1
  have h2 : (cur.toList.take l.length)[i]? = some (r.val x) := by rw [h]; simp [hx]
  rw [List.getElem?_take_of_lt hi] at h2
  simpa using h2

/-! results that lie in memory: a pair -/
theorem run_loadVar2 {b : Nat} {u v : Value} {e : TypeId} {fr : Nat × Nat} {z : Value} {by' : Nat} {fs : Array Field} (ht : P.underlying t = some (.struct fs)) (hz : Ty P t z 2 by') (hb : w.heap[b]? = some (.cells #[u, v] e fr)) : (loadVar t ⟨b, 0, none⟩).run P w = .ok (.agg #[u, v]) w := by
  obtain ⟨i, h1, h2, h3, h4⟩ := hz
  have c0 : w.cell? ⟨b, 0, none⟩ = some u := by rw [cell_of_row w b 0 _ e fr hb]; rfl
  have c1 : w.cell? ⟨b, 1, none⟩ = some v := by rw [cell_of_row w b 1 _ e fr hb]; rfl
  have hl : (loadCells ⟨b, 0, none⟩ 2).run P w = .ok #[u, v] w := by
    have := run_loadCells_list (P := P) (w := w) ⟨b, 0, none⟩ [u, v] (fun j y hy => by
      rw [Addr.add_lit]
      match j, hy with
      | 0, hy => simp at hy; subst hy; exact c0
      | 1, hy => simp at hy; subst hy; exact c1
      | j + 2, hy => simp at hy)
    exact this
  simp [loadVar, isAgg, run_underlying ht, sizeOf, typeInfo, h1, h3, hl]
theorem WN.cell1 {fn : Func} {R : Value → World → Prop} {q b : Nat} {u v : Value} {z : Value} {by' : Nat} {fs : Array Field} {fr : Nat × Nat} (hr : fn.results = #[.cell q t]) (hv : look σ q = some (vptr b 0)) (ht : P.underlying t = some (.struct fs)) (hz : Ty P t z 2 by') (hH : Hp S w0 w ((b, .cells #[u, v] e fr) :: L)) (h : R (.agg #[u, v]) w) : WN n (bodyPost P fn (Ret R) .ret) σ w :=
  fun a ha => ⟨ha.defers, _, by
    have e1 := ha.val q _ hv
    rw [Array.getD_eq_getD_getElem?] at e1
    simp [results, hr, e1, asAddr, run_loadVar2 ht hz (hH.at 0 rfl)], h⟩
theorem WN.cell2 {fn : Func} {R : Value → World → Prop} {q q' b : Nat} {u v v' : Value} {z : Value} {by' : Nat} {fs : Array Field} {fr : Nat × Nat} (hr : fn.results = #[.cell q t, .tmp q']) (hv : look σ q = some (vptr b 0)) (hv' : look σ q' = some v') (ht : P.underlying t = some (.struct fs)) (hz : Ty P t z 2 by') (hH : Hp S w0 w ((b, .cells #[u, v] e fr) :: L)) (h : R (.tuple #[.agg #[u, v], v']) w) : WN n (bodyPost P fn (Ret R) .ret) σ w :=
  fun a ha => ⟨ha.defers, _, by
    have e1 := ha.val q _ hv
    have e2 := ha.val q' _ hv'
    rw [Array.getD_eq_getD_getElem?] at e1 e2
    simp [results, hr, e1, e2, asAddr, run_loadVar2 ht hz (hH.at 0 rfl)], h⟩
end
end Go.Proofs.Ytjejdebmlgjdeaa
