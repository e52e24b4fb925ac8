/- Steps that write or make memory. -/
import Derived.Test.YtjejdebmlgjdeaaStep
namespace Go.Proofs.Ytjejdebmlgjdeaa
set_option maxRecDepth 100000
set_option linter.unusedSimpArgs false
set_option linter.unusedVariables false
open Go Go.RowKit

/-- what a row that the call owns holds: l, with room for cap -/
structure Own {α : Type} (r : Rep α) (cur : Array Value) (cap : Nat) (l : List α) : Prop where
  size : cur.size = cap * r.sz
  le : l.length ≤ cap
  max : cap ≤ 9223372036854775807
  rw : Rw r cur l

theorem Own.slAt {α : Type} {r : Rep α} {S : List Nat} {w0 w : World} {L : List (Nat × Obj)} {b cap : Nat} {cur : Array Value} {e : TypeId} {fr : Nat × Nat} {l : List α} (o : Own r cur cap l) (h : Hp S w0 w L) (i : Nat) (hi : L[i]? = some (b, .cells cur e fr)) : Sl r w (some ⟨b, 0, none⟩) l :=
  o.rw.sl (h.at i hi) (by have := o.le; have := o.max; omega)
theorem New.of {α : Type} {r : Rep α} {e : TypeId} {S : List Nat} {w0 w : World} {L : List (Nat × Obj)} {b cap : Nat} {cur : Array Value} {l : List α} (h : Hp S w0 w ((b, .cells cur e (0, 0)) :: L)) (o : Own r cur cap l) (hb : w0.heap.size ≤ b) : New r e w0 w (vsl b l.length cap) l :=
  ⟨b, cap, cur, rfl, hb, h.at 0 rfl, o.size, o.le, by simpa [maxLen] using o.max, o.rw⟩

theorem Hp.f1 {S : List Nat} {w0 w : World} {L : List (Nat × Obj)} {a b : Nat × Obj} (h : Hp S w0 w (a :: b :: L)) : Hp S w0 w (b :: a :: L) := h.front 1 rfl
theorem Hp.f2 {S : List Nat} {w0 w : World} {L : List (Nat × Obj)} {a b c : Nat × Obj} (h : Hp S w0 w (a :: b :: c :: L)) : Hp S w0 w (c :: a :: b :: L) := h.front 2 rfl
theorem Hp.f3 {S : List Nat} {w0 w : World} {L : List (Nat × Obj)} {a b c d : Nat × Obj} (h : Hp S w0 w (a :: b :: c :: d :: L)) : Hp S w0 w (d :: a :: b :: c :: L) := h.front 3 rfl
theorem Hp.f4 {S : List Nat} {w0 w : World} {L : List (Nat × Obj)} {a b c d e : Nat × Obj} (h : Hp S w0 w (a :: b :: c :: d :: e :: L)) : Hp S w0 w (e :: a :: b :: c :: d :: L) := h.front 4 rfl

section
variable {P : Program} {n : Nat} {Q : Exit → Act → World → Prop} {σ : Env} {w w0 : World} {ops : Array Oper} {rest : List Oper} {S : List Nat} {L : List (Nat × Obj)}
variable {d : Nat} {ty : TypeId} {pos : String} {af : Array Edge} {g : Option (Nat × Bool)} {x y : Operand} {t e : TypeId}

theorem WL.alloc {z : Value} {sz by' : Nat} {cs : Array Value} (he : Ty P e z sz by') (hz : z.cells = cs) (hn : Nat.blt d n = true) (hw : Wt ops ⟨some d, .alloc e, ty, pos, af, g⟩ σ true) (hH : Hp S w0 w L)
    (h : ∀ b w', w.heap.size ≤ b → Keep [] w w' → Hp S w0 w' ((b, .cells cs e (0, 0)) :: L) → WL P n ops Q rest ((d, vptr b 0) :: σ) w') : WL P n ops Q (⟨some d, .alloc e, ty, pos, af, g⟩ :: rest) σ w := by
  obtain ⟨i, h1, h2, h3, h4⟩ := he
  refine WL.u rfl hn hw (v := vptr w.heap.size 0) (w' := w.alloc (.cells cs e (0, 0))) (fun a _ => ?_) (h _ _ (Nat.le_refl _) (Keep.alloc [] w _) (hH.alloc _))
  simp [execOp, Instr.alloc, zeroValue, typeInfo, h1, h2, newVar, newRow, hz]

theorem WL.box {v : Value} {cs : Array Value} (hx : ev σ x = some v) (hz : v.cells = cs) (hn : Nat.blt d n = true) (hw : Wt ops ⟨some d, .box e x, ty, pos, af, g⟩ σ true) (hH : Hp S w0 w L)
    (h : ∀ b w', w.heap.size ≤ b → Keep [] w w' → Hp S w0 w' ((b, .cells cs e (0, 0)) :: L) → WL P n ops Q rest ((d, vptr b 0) :: σ) w') : WL P n ops Q (⟨some d, .box e x, ty, pos, af, g⟩ :: rest) σ w := by
  refine WL.u rfl hn hw (v := vptr w.heap.size 0) (w' := w.alloc (.cells cs e (0, 0))) (fun a ha => ?_) (h _ _ (Nat.le_refl _) (Keep.alloc [] w _) (hH.alloc _))
  simp [execOp, ha.evl hx, Instr.box, newVar, newRow, hz]

theorem frozen_at {b off : Nat} {cs : Array Value} {t : TypeId} {fr : Nat × Nat} (h : w.heap[b]? = some (.cells cs t fr)) : w.frozen? ⟨b, off, none⟩ = (decide (fr.1 ≤ off) && decide (off < fr.2)) := by
  simp [World.frozen?, h]

/-- a store of one cell -/
theorem WL.store1 {b off : Nat} {v : Value} {cs : Array Value} {te : TypeId} {fr : Nat × Nat} {z : Value} {by' : Nat} (ht : Ty P t z 1 by') (hx : ev σ x = some (vptr b off)) (hy : ev σ y = some v) (hv : v.oneCell' = true) (hw : Wt ops ⟨none, .store t x y, ty, pos, af, g⟩ σ true)
    (hH : Hp S w0 w ((b, .cells cs te fr) :: L)) (ho : off < cs.size) (hf : (decide (fr.1 ≤ off) && decide (off < fr.2)) = false)
    (h : ∀ w', Keep [b] w w' → Hp S w0 w' ((b, .cells (cs.setIfInBounds off v) te fr) :: L) → WL P n ops Q rest σ w') : WL P n ops Q (⟨none, .store t x y, ty, pos, af, g⟩ :: rest) σ w := by
  obtain ⟨i, h1, h2, h3, h4⟩ := ht
  have hb := hH.at 0 rfl
  refine WL.s rfl hw (w' := w.setCell ⟨b, off, none⟩ v) (fun a ha => ?_) (h _ (keep_setCell w b off v) (hH.setCell off v))
  have hc : w.cell? ⟨b, off, none⟩ = some cs[off] := by rw [cell_of_row w b off cs te fr hb]; simp [ho]
  have hfr : w.frozen? ⟨b, off, none⟩ = false := (frozen_at hb).trans hf
  have h5 : v.cells = #[v] := by cases v <;> first | rfl | (simp [Value.oneCell'] at hv)
  have h6 := run_store P w ⟨b, off, none⟩ v .plain hv
  simp only [hc, hfr] at h6
  simp [execOp, ha.evl hx, ha.evl hy, Instr.storeAt, Instr.sureAddr, storeVar, sizeOf, typeInfo, h1, h3, h5, storeCells, Addr.add_lit, h6]
/-- a store of a pair -/
theorem WL.store2 {b : Nat} {v v' u u' : Value} {te : TypeId} {z : Value} {by' : Nat} (ht : Ty P t z 2 by') (hx : ev σ x = some (vptr b 0)) (hy : ev σ y = some (.agg #[v, v'])) (hv : v.oneCell' = true) (hv' : v'.oneCell' = true) (hw : Wt ops ⟨none, .store t x y, ty, pos, af, g⟩ σ true)
    (hH : Hp S w0 w ((b, .cells #[u, u'] te (0, 0)) :: L))
    (h : ∀ w', Keep [b] w w' → Hp S w0 w' ((b, .cells #[v, v'] te (0, 0)) :: L) → WL P n ops Q rest σ w') : WL P n ops Q (⟨none, .store t x y, ty, pos, af, g⟩ :: rest) σ w := by
  obtain ⟨i, h1, h2, h3, h4⟩ := ht
  have hb := hH.at 0 rfl
  have hH1 := hH.setCell 0 v
  have hb1 := hH1.at 0 rfl
  have hH2 := hH1.setCell 1 v'
  refine WL.s rfl hw (w' := (w.setCell ⟨b, 0, none⟩ v).setCell ⟨b, 1, none⟩ v') (fun a ha => ?_) (h _ ((keep_setCell w b 0 v).trans (keep_setCell _ b 1 v')) hH2)
  have hc : w.cell? ⟨b, 0, none⟩ = some u := by rw [cell_of_row w b 0 _ te _ hb]; rfl
  have hc1 : (w.setCell ⟨b, 0, none⟩ v).cell? ⟨b, 1, none⟩ = some u' := by rw [cell_of_row _ b 1 _ te _ hb1]; rfl
  have hfr : w.frozen? ⟨b, 0, none⟩ = false := (frozen_at hb).trans (by simp)
  have hfr1 : (w.setCell ⟨b, 0, none⟩ v).frozen? ⟨b, 1, none⟩ = false := (frozen_at hb1).trans (by simp)
  have h6 := run_store P w ⟨b, 0, none⟩ v .plain hv
  have h7 := run_store P (w.setCell ⟨b, 0, none⟩ v) ⟨b, 1, none⟩ v' .plain hv'
  simp only [hc, hfr] at h6
  simp only [hc1, hfr1] at h7
  simp [execOp, ha.evl hx, ha.evl hy, Instr.storeAt, Instr.sureAddr, storeVar, sizeOf, typeInfo, h1, h3, Value.cells, storeCells, Addr.add_lit, h6, h7]

/-- a slice literal -/
theorem WL.buildSlice {z : Value} {sz by' k : Nat} {parts : List (Nat × Operand)} {pv : List (Nat × Value)} {cs : Array Value} (ht : P.underlying t = some (.slice e)) (he : Ty P e z sz by') (hp : parts.map (·.1) = pv.map (·.1)) (hv : evs σ (parts.map (·.2)) = some (pv.map (·.2)))
    (hk : decide (k * sz ≤ 1000) = true) (hf : Instr.fill (fun i => some (i * sz, sz)) ((Array.range (k * sz)).map (fun i => z.cells[i % z.cells.size]!)) pv = some cs)
    (hn : Nat.blt d n = true) (hw : Wt ops ⟨some d, .buildSlice t k parts.toArray, ty, pos, af, g⟩ σ true) (hH : Hp S w0 w L)
    (h : ∀ b w', w.heap.size ≤ b → Keep [] w w' → Hp S w0 w' ((b, .cells cs e (0, 0)) :: L) → WL P n ops Q rest ((d, vsl b k k) :: σ) w') : WL P n ops Q (⟨some d, .buildSlice t k parts.toArray, ty, pos, af, g⟩ :: rest) σ w := by
  obtain ⟨i, h1, h2, h3, h4⟩ := he
  have hk' : ¬ (16777216 < k * sz) := by have := of_decide_eq_true hk; omega
  refine WL.u rfl hn hw (v := vsl w.heap.size k k) (w' := w.alloc (.cells cs e (0, 0))) (fun a ha => ?_) (h _ _ (Nat.le_refl _) (Keep.alloc [] w _) (hH.alloc _))
  have hpv : parts.map (fun p => (p.1, a.eval p.2)) = pv := by
    have h5 := ha.evsl hv
    rw [List.map_map] at h5
    have h6 : (parts.map (fun p => (p.1, a.eval p.2))).map (·.1) = pv.map (·.1) := by rw [List.map_map, ← hp]; rfl
    have h7 : (parts.map (fun p => (p.1, a.eval p.2))).map (·.2) = pv.map (·.2) := by rw [List.map_map, ← h5]; rfl
    have key : ∀ (l m : List (Nat × Value)), l.map (·.1) = m.map (·.1) → l.map (·.2) = m.map (·.2) → l = m := by
      intro l
      induction l with
      | nil => intro m h _; cases m with
        | nil => rfl
        | cons _ _ => simp at h
      | cons p l ih => intro m ha hb; cases m with
        | nil => simp at ha
        | cons q m =>
          simp only [List.map_cons, List.cons.injEq] at ha hb
          rw [ih m ha.2 hb.2, show p = q from Prod.ext ha.1 hb.1]
    exact key _ _ h6 h7
  by_cases h0 : k * sz = 0
  · have hf' : Instr.fill (fun i => some (i * sz, sz)) #[] pv = some cs := by
      rw [h0] at hf
      simpa [Array.range_zero'] using hf
    simp [execOp, Instr.buildSlice, run_underlying ht, sizeOf, typeInfo, h1, h3, h0, hpv, hf', newRow, Array.range_zero']
  · simp [execOp, Instr.buildSlice, run_underlying ht, sizeOf, typeInfo, zeroValue, h1, h2, h3, h0, hk', hpv, hf, newRow]

theorem fill_one : ∀ (vs pre zs : List Value), vs.all Value.oneCell' = true → vs.length ≤ zs.length →
    Instr.fill (fun i => some (i * 1, 1)) (pre ++ zs).toArray ((List.range' pre.length vs.length).zip vs) = some (pre ++ vs ++ zs.drop vs.length).toArray
  | [], pre, zs, _, _ => by simp [Instr.fill]
  | v :: vs, pre, zs, h, hl => by
    simp only [List.all_cons, Bool.and_eq_true] at h
    have hc : v.cells = #[v] := by cases v <;> first | rfl | (simp [Value.oneCell'] at h)
    cases zs with
    | nil => simp at hl
    | cons z zs =>
      simp only [List.length_cons, Nat.add_le_add_iff_right] at hl
      have ih := fill_one vs (pre ++ [v]) zs h.2 hl
      simp only [List.length_append, List.length_singleton] at ih
      simp only [List.length_cons, List.range'_succ, List.zip_cons_cons]
      rw [Instr.fill]
      simp only [hc, List.size_toArray, List.length_singleton, ne_eq, not_true_eq_false, decide_false, Bool.false_or]
      have e : (pre ++ z :: zs).toArray.setIfInBounds (pre.length * 1) v = (pre ++ [v] ++ zs).toArray := by
        simp
      simpa using ih
/-- a slice literal of one-cell elements, all written out -/
theorem WL.lit {z : Value} {by' k : Nat} {parts : List (Nat × Operand)} {vs : List Value} (ht : P.underlying t = some (.slice e)) (he : Ty P e z 1 by') (hz : z.cells.size = 1) (hv : evs σ (parts.map (·.2)) = some vs) (hp : parts.map (·.1) = List.range' 0 vs.length) (hk : k = vs.length) (h1 : vs.all Value.oneCell' = true) (hs : decide (k * 1 ≤ 1000) = true)
    (hn : Nat.blt d n = true) (hw : Wt ops ⟨some d, .buildSlice t k parts.toArray, ty, pos, af, g⟩ σ true) (hH : Hp S w0 w L)
    (h : ∀ b w', w.heap.size ≤ b → Keep [] w w' → Hp S w0 w' ((b, .cells vs.toArray e (0, 0)) :: L) → WL P n ops Q rest ((d, vsl b k k) :: σ) w') : WL P n ops Q (⟨some d, .buildSlice t k parts.toArray, ty, pos, af, g⟩ :: rest) σ w := by
  subst hk
  refine WL.buildSlice (pv := (List.range' 0 vs.length).zip vs) ht he ?_ ?_ hs ?_ hn hw hH h
  · rw [hp, List.map_fst_zip]; simp
  · rw [hv, List.map_snd_zip]; simp
  · have := fill_one vs [] ((Array.range (vs.length * 1)).map (fun i => z.cells[i % z.cells.size]!)).toList h1 (by simp)
    simp only [List.nil_append, List.length_nil] at this
    rw [Array.toArray_toList] at this
    rw [this]
    simp

/-- an empty slice literal -/
theorem WL.lit0 {z : Value} {sz by' : Nat} (ht : P.underlying t = some (.slice e)) (he : Ty P e z sz by')
    (hn : Nat.blt d n = true) (hw : Wt ops ⟨some d, .buildSlice t 0 #[], ty, pos, af, g⟩ σ true) (hH : Hp S w0 w L)
    (h : ∀ b w', w.heap.size ≤ b → Keep [] w w' → Hp S w0 w' ((b, .cells #[] e (0, 0)) :: L) → WL P n ops Q rest ((d, vsl b 0 0) :: σ) w') : WL P n ops Q (⟨some d, .buildSlice t 0 #[], ty, pos, af, g⟩ :: rest) σ w :=
  WL.buildSlice (parts := []) (pv := []) (k := 0) ht he rfl rfl (by simp) (by simp [Instr.fill, Array.range_zero']) hn hw hH h

theorem rw_append {α : Type} {r : Rep α} {cur : Array Value} {l : List α} (u : α) (h : Rw r cur l) (more : List Value) : Rw r (cur.toList.take (l.length * r.sz) ++ r.cells u ++ more).toArray (l ++ [u]) := by
  unfold Rw at *
  have h2 : (l.flatMap r.cells ++ r.cells u).length = (l ++ [u]).length * r.sz := by rw [List.length_append, length_flat, r.len, List.length_append, List.length_singleton, Nat.add_mul, Nat.one_mul]
  rw [h, List.flatMap_append, List.flatMap_singleton, ← h2]
  exact List.take_left

theorem exec_append {s y : Operand} {ty2 : TypeId} {pos2 : String} {af2 : Array Edge} {g2 : Option (Nat × Bool)} {d2 : Option Nat} {a : Act} {u v : Value} {t' : TypeId} (ha : Fits n σ a) (hs : ev σ s = some u) (hy : ev σ y = some v) {v' : Value} {w' : World} (h : (Builtin.append_ #[t, t'] ty2 #[u, v]).run P w = .ok v' w') :
    (execOp a.eval ⟨d2, .call { callee := .builtin .append, args := #[s, y], argTypes := #[t, t'] }, ty2, pos2, af2, g2⟩).run P w = .ok (.value v') w' := by
  simp [execOp, resolve, invoke, builtin, ha.evl hs, ha.evl hy, h]

/-- appending to a row of the call's own a slice that reads so -/
theorem run_append_hp {α : Type} {r : Rep α} {z : Value} {by' b cap : Nat} {cur : Array Value} {l m : List α} {c b2 off2 : Nat} {ty2 : TypeId}
    (ht : P.underlying t = some (.slice e)) (he : Ty P e z r.sz by') (hzs : z.cells.size = r.sz)
    (hH : Hp S w0 w ((b, .cells cur e (0, 0)) :: L)) (ho : Own r cur cap l) (hsl : ∀ j v, (m.flatMap r.cells)[j]? = some v → w.cell? ⟨b2, off2 + j, none⟩ = some v) (hb : (l.length + m.length) * by' ≤ 140737488355328) (hm : l.length + m.length ≤ 9223372036854775807) :
    ∃ b' cap' cur' w', (Builtin.append_ #[t, t] ty2 #[vsl b l.length cap, .slice (some ⟨b2, off2, none⟩) m.length c]).run P w = .ok (vsl b' (l ++ m).length cap') w' ∧ (b' = b ∨ w.heap.size ≤ b') ∧ Keep [b] w w' ∧ Hp S w0 w' ((b', .cells cur' e (0, 0)) :: L) ∧ Own r cur' cap' (l ++ m) := by
  obtain ⟨i, h1, h2, h3, h4⟩ := he
  have hbk := hH.at 0 rfl
  dsimp only at hbk
  have hlen : (l ++ m).length = l.length + m.length := List.length_append
  have hflat : ((l ++ m).flatMap r.cells).length = (l ++ m).length * r.sz := length_flat r _
  have htake : cur.toList.take (l.length * r.sz) = l.flatMap r.cells := ho.rw
  have hnews : ∀ j v, (m.flatMap r.cells)[j]? = some v → w.cell? ((⟨b2, off2, none⟩ : Addr).add j) = some v := fun j v hv => by rw [Addr.add_lit]; exact hsl j v hv
  have h1' : ∀ u ∈ m.flatMap r.cells, u.oneCell' = true := fun u hu => by
    obtain ⟨y, _, hy⟩ := List.mem_flatMap.1 hu
    exact r.one y u hy
  by_cases hroom : l.length + m.length ≤ cap
  · have hr := run_append_room (P := P) w t ty2 e i ht h1 b l.length cap cur hbk ⟨b2, off2, none⟩ m.length c (m.flatMap r.cells) (by rw [length_flat, h3]) hnews h1' hroom (by rw [h3, length_flat, ho.size, ← Nat.add_mul]; exact Nat.mul_le_mul_right _ hroom)
    have hset := setRow_heap w b cur (cur.toList.take (l.length * i.size) ++ m.flatMap r.cells ++ cur.toList.drop (l.length * i.size + (m.flatMap r.cells).length)).toArray e (0, 0) hbk
    rw [← hlen] at hr
    have hk : Keep [b] w (w.setRow b (cur.toList.take (l.length * i.size) ++ m.flatMap r.cells ++ cur.toList.drop (l.length * i.size + (m.flatMap r.cells).length)).toArray) :=
      ⟨rfl, rfl, rfl, by simp, fun k hk hs => setRow_other w b k _ (by simpa using hs)⟩
    refine ⟨b, cap, _, _, hr, .inl rfl, hk, hH.turn hk hset, ⟨?_, by omega, ho.max, ?_⟩⟩
    · rw [h3]
      simp only [List.size_toArray, List.length_append, List.length_take, List.length_drop, Array.length_toList, length_flat]
      have := ho.size
      have h6 : l.length * r.sz + m.length * r.sz ≤ cap * r.sz := by rw [← Nat.add_mul]; exact Nat.mul_le_mul_right _ hroom
      omega
    · unfold Rw
      rw [h3, htake, ← List.flatMap_append, ← hflat]
      exact List.take_left
  · have hr := run_append_grow (P := P) w t ty2 e i z ht h1 h2 ⟨b, 0, none⟩ l.length cap (l.flatMap r.cells) (by rw [length_flat, h3])
      (fun j v hv => by
        rw [Addr.add_lit, cell_of_row w b _ cur e (0, 0) hbk, Nat.zero_add]
        rw [← htake, List.getElem?_take] at hv
        split at hv
        · simpa using hv
        · cases hv)
      ⟨b2, off2, none⟩ m.length c (m.flatMap r.cells) (by rw [length_flat, h3]) hnews (by omega) (by omega) (growslice_fits (by omega) (by rw [h4]; exact hb))
    have hge := grownCap_ge w (l.length + m.length) cap e
    have hcm : grownCap w (l.length + m.length) cap e ≤ maxLen := grownCap_le_maxLen w _ cap e (by simp [maxLen]; omega)
    simp only [maxLen] at hcm
    have hH' := hH.drew.tail.alloc (.cells ((l.flatMap r.cells).toArray ++ (m.flatMap r.cells).toArray ++ Builtin.zeroCells z.cells (grownCap w (l.length + m.length) cap e - (l.length + m.length))) e)
    rw [← hlen] at hr hH' hge hcm
    refine ⟨w.heap.size, _, _, _, hr, .inr (Nat.le_refl _), (Keep.drew [b] w).trans (Keep.alloc [b] w.drew _), hH', ⟨?_, hge, by omega, ?_⟩⟩
    · rw [hlen]
      rw [hlen] at hge
      simp only [Array.size_append, List.size_toArray, size_zeroCells, hzs, length_flat, ← Nat.add_mul]
      congr 1
      omega
    · unfold Rw
      simp only [Array.toList_append]
      rw [← List.flatMap_append, ← hflat]
      exact List.take_left

theorem fold_set : ∀ (l pre zs : List Value), l.length ≤ zs.length → (l.zipIdx pre.length).foldl (fun (cs : Array Value) p => cs.setIfInBounds p.2 p.1) (pre ++ zs).toArray = (pre ++ l ++ zs.drop l.length).toArray
  | [], pre, zs, _ => by simp
  | x :: l, pre, [], h => by simp at h
  | x :: l, pre, z :: zs, h => by
    simp only [List.length_cons, Nat.add_le_add_iff_right] at h
    have ih := fold_set l (pre ++ [x]) zs h
    simp only [List.length_append, List.length_singleton] at ih
    simp only [List.zipIdx_cons, List.foldl_cons]
    have e : (pre ++ z :: zs).toArray.setIfInBounds pre.length x = (pre ++ [x] ++ zs).toArray := by simp
    rw [e, ih]
    simp
theorem fill_rep {α : Type} (r : Rep α) {z : Value} (hzs : z.cells.size = r.sz) (u : α) : Instr.fill (fun i => some (i * r.sz, r.sz)) ((Array.range (1 * r.sz)).map (fun i => z.cells[i % z.cells.size]!)) [(0, r.val u)] = some (r.cells u).toArray := by
  have hsz := r.len u
  have hf := fold_set (r.cells u) [] ((Array.range (1 * r.sz)).map (fun i => z.cells[i % z.cells.size]!)).toList (by simp [hsz])
  simp only [List.nil_append, List.length_nil, Array.toArray_toList] at hf
  have hd : (((Array.range (1 * r.sz)).map (fun i => z.cells[i % z.cells.size]!)).toList.drop (r.cells u).length) = [] := by simp [hsz]
  rw [hd, List.append_nil] at hf
  simp only [Instr.fill, r.vc u]
  rw [if_neg (by simp [hsz])]
  refine congrArg some (Eq.trans ?_ hf)
  simp

/-- append(s, x) onto a row of the call's own: the literal and the append -/
theorem WL.append1 {α : Type} {r : Rep α} {z : Value} {by' : Nat} {b cap d1 d2 : Nat} {cur : Array Value} {l : List α} {u : α} {s : Operand} {ty1 ty2 : TypeId} {pos1 pos2 : String} {af1 af2 : Array Edge} {g1 g2 : Option (Nat × Bool)}
    (ht : P.underlying t = some (.slice e)) (he : Ty P e z r.sz by') (hzs : z.cells.size = r.sz)
    (hx : ev σ x = some (r.val u)) (hs : ∀ v, ev ((d1, v) :: σ) s = some (vsl b l.length cap)) (hd : ∀ v, ev ((d1, v) :: σ) (.tmp d1) = some v)
    (hn1 : Nat.blt d1 n = true) (hn2 : Nat.blt d2 n = true)
    (hw1 : Wt ops ⟨some d1, .buildSlice t 1 [(0, x)].toArray, ty1, pos1, af1, g1⟩ σ true) (hw2 : ∀ v, Wt ops ⟨some d2, .call { callee := .builtin .append, args := #[s, .tmp d1], argTypes := #[t, t] }, ty2, pos2, af2, g2⟩ ((d1, v) :: σ) true)
    (hH : Hp S w0 w ((b, .cells cur e (0, 0)) :: L)) (ho : Own r cur cap l) (hk : decide (1 * r.sz ≤ 1000) = true) (hb : (l.length + 1) * by' ≤ 140737488355328) (hm : l.length + 1 ≤ 9223372036854775807)
    (h : ∀ b' cap' cur' w' v1, (b' = b ∨ w.heap.size ≤ b') → Keep [b] w w' → Hp S w0 w' ((b', .cells cur' e (0, 0)) :: L) → Own r cur' cap' (l ++ [u]) → WL P n ops Q rest ((d2, vsl b' (l ++ [u]).length cap') :: (d1, v1) :: σ) w') :
    WL P n ops Q (⟨some d1, .buildSlice t 1 [(0, x)].toArray, ty1, pos1, af1, g1⟩ :: ⟨some d2, .call { callee := .builtin .append, args := #[s, .tmp d1], argTypes := #[t, t] }, ty2, pos2, af2, g2⟩ :: rest) σ w := by
  have hx' : evs σ ([(0, x)].map (·.2)) = some ([(0, r.val u)].map (·.2)) := by simp [evs, hx]
  refine WL.buildSlice (parts := [(0, x)]) (pv := [(0, r.val u)]) ht he rfl hx' hk (fill_rep r hzs u) hn1 hw1 hH fun b1 w1 hb1 hk1 hH1 => ?_
  have hcell := hH1.at 0 rfl
  obtain ⟨b', cap', cur', w', hr, h5, h6, h7, h8⟩ := run_append_hp (P := P) (ty2 := ty2) (c := 1) (b2 := b1) (off2 := 0) (m := [u]) ht he hzs hH1.f1 ho (fun j v hv => by
    rw [cell_of_row w1 b1 (0 + j) _ e (0, 0) hcell, Nat.zero_add]
    simpa using hv) hb hm
  refine WL.u rfl hn2 (hw2 _) (fun a ha => exec_append ha (hs _) (hd _) hr) (h b' cap' cur' w' _ ?_ (hk1.nil.trans h6) (Hp.tail (Hp.f1 h7)) h8)
  rcases h5 with h5 | h5
  · exact .inl h5
  · exact .inr (Nat.le_trans hk1.size h5)
end
end Go.Proofs.Ytjejdebmlgjdeaa
