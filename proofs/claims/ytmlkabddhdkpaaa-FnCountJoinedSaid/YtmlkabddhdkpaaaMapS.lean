/- Maps whose keys are steps (structs of two ints): which keys there are. Equality of such structs. -/
import Derived.Test.YtmlkabddhdkpaaaMapI
namespace Go.Proofs.Ytmlkabddhdkpaaa
set_option maxRecDepth 100000
set_option linter.unusedSimpArgs false
set_option linter.unusedVariables false
open Go Go.RowKit

abbrev stepV (s : Nat × Nat) : Value := .agg #[vint s.1, vint s.2]
/-- a struct of two ints -/
structure StepTy (P : Program) (t ti : TypeId) : Prop where
  fs : ∃ f0 f1 : Field, P.underlying t = some (.struct #[f0, f1]) ∧ f0.name ≠ "_" ∧ f1.name ≠ "_" ∧ f0.type = ti ∧ f1.type = ti ∧ f0.offset = 0 ∧ f1.offset = 1
  held : P.stoodInHeld t = false
  guard : P.eqGuardType P.depth t = false
  int : P.underlying ti = some (.int .i64)
  flat : Flat P ti

theorem run_equalIn_int {P : Program} {ti : TypeId} (h : P.underlying ti = some (.int .i64)) (w : World) (n : Nat) (x y : Int) : (Op.equalIn (n + 1) ti (vint x) (vint y)).run P w = .ok (x == y) w := by
  simp [Op.equalIn, run_underlying h]
theorem run_equalIn_step {P : Program} {t ti : TypeId} (h : StepTy P t ti) (w : World) (n : Nat) (a b c d : Int) : (Op.equalIn (n + 1 + 1) t (.agg #[vint a, vint b]) (.agg #[vint c, vint d])).run P w = .ok (a == c && b == d) w := by
  obtain ⟨f0, f1, h1, h2, h3, h4, h5, h6, h7⟩ := h.fs
  have hint := fun x y => run_equalIn_int h.int w n x y
  have hp0 : ∀ x y : Int, (part ti #[vint x, vint y] 0).run P w = .ok (vint x) w := fun x y => by simp [part, run_isAgg_flat h.flat]
  have hp1 : ∀ x y : Int, (part ti #[vint x, vint y] 1).run P w = .ok (vint y) w := fun x y => by simp [part, run_isAgg_flat h.flat]
  rw [Op.equalIn]
  by_cases hac : a = c <;> by_cases hbd : b = d <;> simp [run_underlying h1, h.held, h2, h3, h4, h5, h6, h7, hint, hp0, hp1, hac, hbd]
theorem run_equal_step {P : Program} {t ti : TypeId} (h : StepTy P t ti) (w : World) (a b c d : Int) : (Op.equal t (.agg #[vint a, vint b]) (.agg #[vint c, vint d])).run P w = .ok (a == c && b == d) w := run_equalIn_step h w 9998 a b c d

/-- the map's keys are the steps for which F is true -/
def KeysS (es : Array MapEntry) (F : Nat × Nat → Bool) : Prop := ∃ M : List (Nat × Nat), es.toList.map (fun e => e.key) = M.map stepV ∧ ∀ x, x ∈ M ↔ F x = true
theorem KeysS.nil : KeysS #[] (fun _ => false) := ⟨[], rfl, by simp⟩
theorem KeysS.congr {es : Array MapEntry} {F G : Nat × Nat → Bool} (h : KeysS es F) (e : ∀ x, F x = G x) : KeysS es G := by
  obtain ⟨M, h1, h2⟩ := h
  exact ⟨M, h1, fun x => by rw [h2, e]⟩

section
variable {P : Program} {n : Nat} {Q : Exit → Act → World → Prop} {σ : Env} {w w0 : World} {ops : Array Oper} {rest : List Oper} {S : List Nat} {L : List (Nat × Obj)}
variable {d : Nat} {ty : TypeId} {pos : String} {af : Array Edge} {g : Option (Nat × Bool)} {x y z : Operand} {t k e ti : TypeId}
/-- map t has steps for keys and ints for values -/
structure MapSTy (P : Program) (t k e ti : TypeId) : Prop where
  m : P.underlying t = some (.map k e)
  s : StepTy P k ti
  z : Ty P e (vint 0) 1 8
theorem run_findAsking_step (h : StepTy P k ti) (s : Nat × Nat) : ∀ (L : List MapEntry) (M : List (Nat × Nat)) (i : Nat), L.map (fun e => e.key) = M.map stepV →
    (s ∉ M ∧ (Instr.findAsking k (stepV s) L i).run P w = .ok none w) ∨ (s ∈ M ∧ ∃ j e, (Instr.findAsking k (stepV s) L i).run P w = .ok (some (i + j, e.val)) w ∧ L[j]? = some e ∧ e.key = stepV s)
  | [], M, i, hL => by
    cases M with
    | nil => exact .inl ⟨by simp, by simp [Instr.findAsking]⟩
    | cons x M => simp at hL
  | e :: L, M, i, hL => by
    cases M with
    | nil => simp at hL
    | cons x M =>
      simp only [List.map_cons, List.cons.injEq] at hL
      obtain ⟨h1, h2⟩ := hL
      have hq := run_equal_step h w s.1 s.2 x.1 x.2
      by_cases hx : s = x
      · subst hx
        refine .inr ⟨by simp, 0, e, ?_, rfl, h1⟩
        rw [Instr.findAsking, h1]
        simp only [beq_self_eq_true, Bool.and_self] at hq
        simp [hq]
      · have hne : ((s.1 : Int) == (x.1 : Int) && (s.2 : Int) == (x.2 : Int)) = false := by
          rw [Bool.eq_false_iff]
          intro hh
          simp only [Bool.and_eq_true, beq_iff_eq] at hh
          exact hx (Prod.ext (by omega) (by omega))
        rw [hne] at hq
        rcases run_findAsking_step h s L M (i + 1) h2 with ⟨h3, h4⟩ | ⟨h3, j, e', h4, h5, h6⟩
        · refine .inl ⟨by simp [hx, h3], ?_⟩
          rw [Instr.findAsking, h1]
          simp [hq, h4]
        · refine .inr ⟨by simp [h3], j + 1, e', ?_, by simpa using h5, h6⟩
          rw [Instr.findAsking, h1]
          simp [hq, h4]
          omega
theorem run_findKey_step (h : StepTy P k ti) {es : Array MapEntry} {F : Nat × Nat → Bool} (hK : KeysS es F) (s : Nat × Nat) :
    (F s = false ∧ (Instr.findKey k (stepV s) es.toList).run P w = .ok none w) ∨ (F s = true ∧ ∃ j e, (Instr.findKey k (stepV s) es.toList).run P w = .ok (some (j, e.val)) w ∧ es[j]? = some e ∧ e.key = stepV s) := by
  obtain ⟨M, hM, hF⟩ := hK
  obtain ⟨f0, f1, h1, _⟩ := h.fs
  have key : (Instr.findKey k (stepV s) es.toList).run P w = (Instr.findAsking k (stepV s) es.toList 0).run P w := by
    unfold Instr.findKey
    simp only [Sem.run_bind, run_underlying h1, Result.andThen_ok]
    cases hl : es.toList with
    | nil => simp [Instr.findNow, Instr.findAsking]
    | cons e L => simp [Instr.findNow, Instr.sameNow]
  rcases run_findAsking_step (w := w) h s es.toList M 0 hM with ⟨h3, h4⟩ | ⟨h3, j, e', h4, h5, h6⟩
  · refine .inl ⟨?_, key.trans h4⟩
    rw [Bool.eq_false_iff]; exact fun hh => h3 ((hF s).2 hh)
  · refine .inr ⟨(hF s).1 h3, j, e', ?_, by simpa using h5, h6⟩
    rw [key, h4, Nat.zero_add]
theorem run_checkKeyN_int (h : P.underlying ti = some (.int .i64)) (b : Bool) (q : Nat) (x : Int) : (Instr.checkKey b (q + 1) ti (vint x)).run P w = .ok () w := by
  unfold Instr.checkKey
  simp [run_underlying h]
theorem run_checkKeyN_step (h : StepTy P k ti) (b : Bool) (q : Nat) (s : Nat × Nat) : (Instr.checkKey b (q + 1 + 1) k (stepV s)).run P w = .ok () w := by
  obtain ⟨f0, f1, h1, h2, h3, h4, h5, h6, h7⟩ := h.fs
  have hint := fun x : Int => run_checkKeyN_int (w := w) h.int b q x
  have hp0 : ∀ x y : Int, (part ti #[vint x, vint y] 0).run P w = .ok (vint x) w := fun x y => by simp [part, run_isAgg_flat h.flat]
  have hp1 : ∀ x y : Int, (part ti #[vint x, vint y] 1).run P w = .ok (vint y) w := fun x y => by simp [part, run_isAgg_flat h.flat]
  unfold Instr.checkKey
  simp [run_underlying h1, h2, h3, h4, h5, h6, h7, hint, hp0, hp1]
theorem run_checkKey_step (h : StepTy P k ti) (b : Bool) (s : Nat × Nat) : (Instr.checkKey b 10000 k (stepV s)).run P w = .ok () w := run_checkKeyN_step h b 9998 s
theorem Ex.neqStep {s u : Nat × Nat} {d : Option Nat} {t' : TypeId} (h : StepTy P t ti) (hx : ev σ x = some (stepV s)) (hy : ev σ y = some (stepV u)) : Ex P n ⟨d, .binOp .neq t x y t', ty, pos, af, g⟩ σ w (.bool (decide (s ≠ u))) w := fun a ha => by
  have hq := run_equal_step h w s.1 s.2 u.1 u.2
  have hb : ((s.1 : Int) == (u.1 : Int) && (s.2 : Int) == (u.2 : Int)) = decide (s = u) := by
    rw [Bool.eq_iff_iff]
    simp only [Bool.and_eq_true, beq_iff_eq, decide_eq_true_eq]
    constructor
    · rintro ⟨h1, h2⟩; exact Prod.ext (by omega) (by omega)
    · rintro rfl; exact ⟨rfl, rfl⟩
  rw [hb] at hq
  simp [execOp, ha.evl hx, ha.evl hy, eqGuard, binOp, h.guard, hq]
theorem WL.lookupS {es : Array MapEntry} {clock b : Nat} {F : Nat × Nat → Bool} (s : Nat × Nat) (ht : MapSTy P t k e ti) (hK : KeysS es F) (hx : ev σ x = some (.map (some b))) (hy : ev σ y = some (stepV s)) (hn : Nat.blt d n = true) (hw : Wt ops ⟨some d, .lookup t x y true, ty, pos, af, g⟩ σ true) (hb : w.heap[b]? = some (.map es clock))
    (h : ∀ u, WL P n ops Q rest ((d, .tuple #[u, .bool (F s)]) :: σ) w) : WL P n ops Q (⟨some d, .lookup t x y true, ty, pos, af, g⟩ :: rest) σ w := by
  obtain ⟨i, h1, h2, _, _⟩ := ht.z
  rcases run_findKey_step (w := w) ht.s hK s with ⟨h3, h4⟩ | ⟨h3, j, e', h4, h5, h6⟩
  · refine WL.u rfl hn hw (v := .tuple #[vint 0, .bool (F s)]) (fun a ha => ?_) (h _)
    have hr : (Instr.lookup t (.map (some b)) (stepV s) true).run P w = .ok (.tuple #[vint 0, .bool (F s)]) w := by
      unfold Instr.lookup
      simp only [Sem.run_bind, run_underlying ht.m, Result.andThen_ok, run_getObj_at hb, Sem.run_pure, run_checkKey_step ht.s, h4]
      simp [zeroValue, typeInfo, h1, h2, h3]
    simp only [execOp, ha.evl hx, ha.evl hy]
    simp [hr]
  · refine WL.u rfl hn hw (v := .tuple #[e'.val, .bool (F s)]) (fun a ha => ?_) (h _)
    have hr : (Instr.lookup t (.map (some b)) (stepV s) true).run P w = .ok (.tuple #[e'.val, .bool (F s)]) w := by
      unfold Instr.lookup
      simp only [Sem.run_bind, run_underlying ht.m, Result.andThen_ok, run_getObj_at hb, Sem.run_pure, run_checkKey_step ht.s, h4]
      simp [h3]
    simp only [execOp, ha.evl hx, ha.evl hy]
    simp [hr]
/-- m[s] = u -/
theorem WL.mapSetS {es : Array MapEntry} {clock b : Nat} {F : Nat × Nat → Bool} (s : Nat × Nat) {u : Value} (ht : MapSTy P t k e ti) (hK : KeysS es F) (hx : ev σ x = some (.map (some b))) (hy : ev σ y = some (stepV s)) (hz : ev σ z = some u) (hw : Wt ops ⟨none, .mapUpdate t x y z, ty, pos, af, g⟩ σ true) (hH : Hp S w0 w ((b, .map es clock) :: L))
    (h : ∀ es' clock' w', Keep [b] w w' → Hp S w0 w' ((b, .map es' clock') :: L) → KeysS es' (fun x => F x || x == s) → WL P n ops Q rest σ w') : WL P n ops Q (⟨none, .mapUpdate t x y z, ty, pos, af, g⟩ :: rest) σ w := by
  have hb := hH.at 0 rfl
  dsimp only at hb
  obtain ⟨M, hM, hF⟩ := hK
  rcases run_findKey_step (w := w) ht.s ⟨M, hM, hF⟩ s with ⟨h3, h4⟩ | ⟨h3, j, e', h4, h5, h6⟩
  · obtain ⟨w', hs, hk, ho⟩ := run_setObj_at' (P := P) (.map (es.push { key := stepV s, val := u, born := clock }) (clock + 1)) hb
    have hr : (Instr.mapUpdate t (.map (some b)) (stepV s) u).run P w = .ok () w' := by
      unfold Instr.mapUpdate
      simp only [Sem.run_bind, run_underlying ht.m, Result.andThen_ok, run_getObj_at hb, run_checkKey_step ht.s, h4, hs]
    refine WL.s rfl hw (w' := w') (fun a ha => ?_) (h _ _ w' hk (hH.turn hk ho) ⟨M ++ [s], by simp [hM], fun x => ?_⟩)
    · simp only [execOp, ha.evl hx, ha.evl hy, ha.evl hz]
      simp [hr]
    · simp [hF, Bool.or_eq_true]
  · obtain ⟨w', hs, hk, ho⟩ := run_setObj_at' (P := P) (.map (es.modify j fun e => { e with key := stepV s, val := u }) clock) hb
    have hks : (Instr.keyThatStays (((es[j]?).map (·.key)).getD (stepV s)) (stepV s)).run P w = .ok (stepV s) w := by
      unfold Instr.keyThatStays
      rw [h5]
      have : Instr.sameBits 10000 e'.key (stepV s) = true := by
        rw [h6, show (10000 : Nat) = 9998 + 1 + 1 from rfl]
        simp [Instr.sameBits]
      simp [this]
    have hr : (Instr.mapUpdate t (.map (some b)) (stepV s) u).run P w = .ok () w' := by
      unfold Instr.mapUpdate
      simp only [Sem.run_bind, run_underlying ht.m, Result.andThen_ok, run_getObj_at hb, run_checkKey_step ht.s, h4, hks, hs]
    refine WL.s rfl hw (w' := w') (fun a ha => ?_) (h _ _ w' hk (hH.turn hk ho) ⟨M, ?_, fun x => ?_⟩)
    · simp only [execOp, ha.evl hx, ha.evl hy, ha.evl hz]
      simp [hr]
    · rw [← hM]
      apply List.ext_getElem?
      intro q
      simp only [Array.toList_modify, List.getElem?_map, List.getElem?_modify]
      by_cases hq : j = q
      · subst hq
        have : es.toList[j]? = some e' := by simpa using h5
        rw [this]; simp [h6]
      · simp [hq]
    · rw [hF]
      show F x = true ↔ (F x || x == s) = true
      constructor
      · intro hx; rw [hx]; rfl
      · intro hx
        rw [Bool.or_eq_true] at hx
        rcases hx with h7 | h7
        · exact h7
        · rw [beq_iff_eq.1 h7]; exact h3
end
end Go.Proofs.Ytmlkabddhdkpaaa
