/- Maps from ints to truth values: sets of numbers. -/
import Derived.Test.YtmlkabddhdkpaaaEach
namespace Go.Proofs.Ytmlkabddhdkpaaa
set_option maxRecDepth 100000
set_option linter.unusedSimpArgs false
set_option linter.unusedVariables false
open Go Go.RowKit

/-- the entries have these keys, in this order -/
def MapI (es : Array MapEntry) (M : List Nat) : Prop := es.toList.map (fun e => (e.key, e.val)) = M.map fun c : Nat => (vint c, Value.bool true)
theorem MapI.nil : MapI #[] [] := rfl

theorem findNow_at : ∀ (L : List MapEntry) (M : List Nat) (c i : Nat), L.map (fun e => (e.key, e.val)) = M.map (fun c : Nat => (vint c, Value.bool true)) →
    Instr.findNow (.int .i64) (vint c) L i = some (if c ∈ M then some (i + M.idxOf c, .bool true) else none)
  | [], M, c, i, h => by
    cases M with
    | nil => simp [Instr.findNow]
    | cons x M => simp at h
  | e :: L, M, c, i, h => by
    cases M with
    | nil => simp at h
    | cons x M =>
      simp only [List.map_cons, List.cons.injEq, Prod.mk.injEq] at h
      obtain ⟨⟨h1, h2⟩, h3⟩ := h
      have ih := findNow_at L M c (i + 1) h3
      rw [Instr.findNow, h1, h2]
      simp only [Instr.sameNow, if_true]
      by_cases hx : c = x
      · subst hx
        simp
      · have : ((c : Int) == (x : Int)) = false := by
          rw [beq_eq_false_iff_ne]; omega
        rw [this]
        simp only
        rw [ih, List.idxOf_cons]
        have h4 : (x == c) = false := by simpa using fun h => hx h.symm
        simp only [List.mem_cons, hx, false_or, h4, cond_false]
        split <;> simp <;> omega
section
variable {P : Program} {n : Nat} {Q : Exit → Act → World → Prop} {σ : Env} {w w0 : World} {ops : Array Oper} {rest : List Oper} {S : List Nat} {L : List (Nat × Obj)}
variable {d : Option Nat} {ty : TypeId} {pos : String} {af : Array Edge} {g : Option (Nat × Bool)} {x y z : Operand} {t k e : TypeId}
/-- map t has int keys and truth values -/
structure MapTy (P : Program) (t k e : TypeId) : Prop where
  m : P.underlying t = some (.map k e)
  k : P.underlying k = some (.int .i64)
  z : Ty P e (.bool false) 1 1
theorem run_checkKey_int {b : Bool} {c : Int} (hk : P.underlying k = some (.int .i64)) : (Instr.checkKey b 10000 k (vint c)).run P w = .ok () w := by
  unfold Instr.checkKey
  simp [run_underlying hk]
theorem run_findKey_int {es : Array MapEntry} {M : List Nat} {c : Nat} (hk : P.underlying k = some (.int .i64)) (hM : MapI es M) : (Instr.findKey k (vint c) es.toList).run P w = .ok (if c ∈ M then some (M.idxOf c, .bool true) else none) w := by
  unfold Instr.findKey
  simp only [Sem.run_bind, run_underlying hk, Result.andThen_ok]
  rw [findNow_at es.toList M c 0 hM]
  simp
theorem run_getObj_at {b : Nat} {es : Array MapEntry} {clock : Nat} (h : w.heap[b]? = some (.map es clock)) : (getObj b).run P w = .ok (.map es clock) w := MapKept.run_getObj_map h
theorem Ex.lookupI {es : Array MapEntry} {clock b c : Nat} {M : List Nat} (ht : MapTy P t k e) (hb : w.heap[b]? = some (.map es clock)) (hM : MapI es M) (hx : ev σ x = some (.map (some b))) (hy : ev σ y = some (vint c)) :
    Ex P n ⟨d, .lookup t x y false, ty, pos, af, g⟩ σ w (.bool (decide (c ∈ M))) w := fun a ha => by
  obtain ⟨i, h1, h2, _, _⟩ := ht.z
  have hr : (Instr.lookup t (.map (some b)) (vint c) false).run P w = .ok (.bool (decide (c ∈ M))) w := by
    unfold Instr.lookup
    simp only [Sem.run_bind, run_underlying ht.m, Result.andThen_ok, run_getObj_at hb, Sem.run_pure, run_checkKey_int ht.k, run_findKey_int ht.k hM]
    by_cases hc : c ∈ M
    · simp [hc]
    · simp [hc, zeroValue, typeInfo, h1, h2]
  simp only [execOp, ha.evl hx, ha.evl hy]
  simp [hr]
theorem run_setObj_at' {b : Nat} {es : Array MapEntry} {clock : Nat} (o : Obj) (h : w.heap[b]? = some (.map es clock)) : ∃ w', (setObj b o).run P w = .ok () w' ∧ Keep [b] w w' ∧ w'.heap[b]? = some o := by
  have hlt := (Array.getElem?_eq_some_iff.1 h).1
  refine ⟨_, MapKept.run_setObj_map o h, ⟨rfl, rfl, rfl, by simp, fun k hk hs => ?_⟩, by simp [hlt]⟩
  have : b ≠ k := fun q => hs (by rw [q]; simp)
  simp [Array.getElem?_setIfInBounds, this]
/-- m[c] = true, of a new key -/
theorem WL.mapAddI {es : Array MapEntry} {clock b c : Nat} {M : List Nat} (ht : MapTy P t k e) (hM : MapI es M) (hc : c ∉ M) (hx : ev σ x = some (.map (some b))) (hy : ev σ y = some (vint c)) (hz : ev σ z = some (.bool true)) (hw : Wt ops ⟨none, .mapUpdate t x y z, ty, pos, af, g⟩ σ true) (hH : Hp S w0 w ((b, .map es clock) :: L))
    (h : ∀ es' clock' w', Keep [b] w w' → Hp S w0 w' ((b, .map es' clock') :: L) → MapI es' (M ++ [c]) → WL P n ops Q rest σ w') : WL P n ops Q (⟨none, .mapUpdate t x y z, ty, pos, af, g⟩ :: rest) σ w := by
  have hb := hH.at 0 rfl
  dsimp only at hb
  obtain ⟨w', hs, hk, ho⟩ := run_setObj_at' (P := P) (.map (es.push { key := vint c, val := .bool true, born := clock }) (clock + 1)) hb
  have hr : (Instr.mapUpdate t (.map (some b)) (vint c) (.bool true)).run P w = .ok () w' := by
    unfold Instr.mapUpdate
    simp only [Sem.run_bind, run_underlying ht.m, Result.andThen_ok, run_getObj_at hb, run_checkKey_int ht.k, run_findKey_int ht.k hM, if_neg hc, hs]
  refine WL.s rfl hw (w' := w') (fun a ha => ?_) (h _ _ w' hk (hH.turn hk ho) ?_)
  · simp only [execOp, ha.evl hx, ha.evl hy, ha.evl hz]
    simp [hr]
  · unfold MapI at *
    simp [hM]
/-- make(map) -/
theorem WL.makeMap {d : Nat} (hn : Nat.blt d n = true) (hw : Wt ops ⟨some d, .makeMap t none, ty, pos, af, g⟩ σ true) (hH : Hp S w0 w L)
    (h : ∀ b w', w.heap.size ≤ b → Keep [] w w' → Hp S w0 w' ((b, .map #[] 0) :: L) → WL P n ops Q rest ((d, .map (some b)) :: σ) w') : WL P n ops Q (⟨some d, .makeMap t none, ty, pos, af, g⟩ :: rest) σ w := by
  refine WL.u rfl hn hw (v := .map (some w.heap.size)) (w' := w.alloc (.map #[] 0)) (fun a _ => ?_) (h _ _ (Nat.le_refl _) (Keep.alloc [] w _) (hH.alloc _))
  simp [execOp, Instr.makeMap]
/-- delete(m, c), of the last key -/
theorem WL.mapDelI {es : Array MapEntry} {clock b c : Nat} {M : List Nat} {ts : Array TypeId} (ht : MapTy P t k e) (hts : ts[0]? = some t) (hM : MapI es (M ++ [c])) (hc : c ∉ M) (hx : ev σ x = some (.map (some b))) (hy : ev σ y = some (vint c)) (hw : Wt ops ⟨none, .call { callee := .builtin .delete, args := #[x, y], argTypes := ts }, ty, pos, af, g⟩ σ true) (hH : Hp S w0 w ((b, .map es clock) :: L))
    (h : ∀ es' clock' w', Keep [b] w w' → Hp S w0 w' ((b, .map es' clock') :: L) → MapI es' M → WL P n ops Q rest σ w') : WL P n ops Q (⟨none, .call { callee := .builtin .delete, args := #[x, y], argTypes := ts }, ty, pos, af, g⟩ :: rest) σ w := by
  have hb := hH.at 0 rfl
  dsimp only at hb
  have hidx : (M ++ [c]).idxOf c = M.length := by
    rw [List.idxOf_append, if_neg hc]; simp
  obtain ⟨w', hs, hk, ho⟩ := run_setObj_at' (P := P) (.map (es.eraseIdxIfInBounds M.length) clock) hb
  have hr : (Builtin.delete_ ts ty #[.map (some b), vint c]).run P w = .ok (.tuple #[]) w' := by
    unfold Builtin.delete_
    rw [hts, show (#[Value.map (some b), vint c] : Array Value)[0]? = some (.map (some b)) from rfl, show (#[Value.map (some b), vint c] : Array Value)[1]? = some (vint c) from rfl]
    simp only [Sem.run_bind, run_underlying ht.m, Result.andThen_ok, run_getObj_at hb, run_checkKey_int ht.k, run_findKey_int ht.k hM]
    rw [if_pos (by simp)]
    simp only [hidx, Sem.run_bind, hs, Result.andThen_ok, Sem.run_pure]
  refine WL.un rfl hw (v := .tuple #[]) (w' := w') (fun a ha => ?_) (h _ _ w' hk (hH.turn hk ho) ?_)
  · simp [execOp, resolve, invoke, builtin, ha.evl hx, ha.evl hy, hr]
  · unfold MapI at *
    have hlen : es.size = M.length + 1 := by
      have := congrArg List.length hM
      simpa using this
    rw [Array.eraseIdxIfInBounds, dif_pos (by omega)]
    rw [Array.toList_eraseIdx, List.eraseIdx_eq_take_drop_succ, List.map_append, List.map_take, List.map_drop, hM]
    simp
end
end Go.Proofs.Ytmlkabddhdkpaaa
