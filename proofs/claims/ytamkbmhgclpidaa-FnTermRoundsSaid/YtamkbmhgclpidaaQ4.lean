/- Structs of four cells: loads, stores, results; terms as such structs. -/
import Derived.Test.YtamkbmhgclpidaaHd
import Derived.Test.YtamkbmhgclpidaaTmA
namespace Go.Proofs.Ytamkbmhgclpidaa
set_option maxRecDepth 100000
set_option linter.unusedSimpArgs false
set_option linter.unusedVariables false
open Go Go.RowKit
theorem Keep.shr {S T : List Nat} {a b c : World} (h : Keep T a b) (k : Keep S b c) (hs : ∀ x ∈ S, a.heap.size ≤ x) : Keep T a c :=
  ⟨k.os.trans h.os, k.tape.trans h.tape, k.output.trans h.output, Nat.le_trans h.size k.size, fun i hi hn => (k.block i (Nat.lt_of_lt_of_le hi h.size) (fun hm => by have := hs i hm; omega)).trans (h.block i hi hn)⟩
section
variable {P : Program} {n : Nat} {Q : Exit → Act → World → Prop} {σ : Env} {w w0 : World} {S : List Nat} {L : List (Nat × Obj)} {ops rest : List Oper} {opsA : Array Oper}
variable {d : Option Nat} {ty : TypeId} {pos : String} {af : Array Edge} {g : Option (Nat × Bool)} {x y : Operand} {t e : TypeId}
theorem run_load4 {b : Nat} {u0 u1 u2 u3 : Value} {e : TypeId} {fr : Nat × Nat} (hb : w.heap[b]? = some (.cells #[u0, u1, u2, u3] e fr)) : (loadCells ⟨b, 0, none⟩ 4).run P w = .ok #[u0, u1, u2, u3] w := by
  have := run_loadCells_list (P := P) (w := w) ⟨b, 0, none⟩ [u0, u1, u2, u3] (fun j y hy => by
    rw [Addr.add_lit, cell_of_row w b _ _ e fr hb, Nat.zero_add]
    simpa using hy)
  exact this
theorem Ex.loadHp4 {b : Nat} {u0 u1 u2 u3 : Value} {e : TypeId} {fr : Nat × Nat} {z : Value} {by' : Nat} {fs : Array Field} (ht : P.underlying t = some (.struct fs)) (hz : Ty P t z 4 by') (hx : ev σ x = some (vptr b 0)) (hH : Hp S w0 w ((b, .cells #[u0, u1, u2, u3] e fr) :: L)) : Ex P n ⟨d, .load t x, ty, pos, af, g⟩ σ w (.agg #[u0, u1, u2, u3]) w := fun a ha => by
  obtain ⟨i, h1, h2, h3, h4⟩ := hz
  have hl := run_load4 (P := P) (hH.at 0 rfl)
  simp [execOp, ha.evl hx, Instr.loadAt, Instr.sureAddr, loadVar, isAgg, run_underlying ht, sizeOf, typeInfo, h1, h3, hl]
theorem Ex.loadK4 {b : Nat} {u0 u1 u2 u3 : Value} {e : TypeId} {fr : Nat × Nat} {z : Value} {by' : Nat} {fs : Array Field} {T : List Nat} {w' : World} (ht : P.underlying t = some (.struct fs)) (hz : Ty P t z 4 by') (hx : ev σ x = some (vptr b 0)) (hb : w.heap[b]? = some (.cells #[u0, u1, u2, u3] e fr)) (hk : Keep T w w') (hn : b ∉ T) : Ex P n ⟨d, .load t x, ty, pos, af, g⟩ σ w' (.agg #[u0, u1, u2, u3]) w' := fun a ha => by
  obtain ⟨i, h1, h2, h3, h4⟩ := hz
  have hl := run_load4 (P := P) (hk.heap hb hn)
  simp [execOp, ha.evl hx, Instr.loadAt, Instr.sureAddr, loadVar, isAgg, run_underlying ht, sizeOf, typeInfo, h1, h3, hl]
theorem run_loadVar4 {b : Nat} {u0 u1 u2 u3 : Value} {e : TypeId} {fr : Nat × Nat} {z : Value} {by' : Nat} {fs : Array Field} (ht : P.underlying t = some (.struct fs)) (hz : Ty P t z 4 by') (hb : w.heap[b]? = some (.cells #[u0, u1, u2, u3] e fr)) : (loadVar t ⟨b, 0, none⟩).run P w = .ok (.agg #[u0, u1, u2, u3]) w := by
  obtain ⟨i, h1, h2, h3, h4⟩ := hz
  have hl := run_load4 (P := P) hb
  simp [loadVar, isAgg, run_underlying ht, sizeOf, typeInfo, h1, h3, hl]
theorem WN.cell24 {fn : Func} {R : Value → World → Prop} {q q' b : Nat} {u0 u1 u2 u3 v' : Value} {z : Value} {by' : Nat} {fs : Array Field} {fr : Nat × Nat} (hr : fn.results = #[.cell q t, .tmp q']) (hv : look σ q = some (vptr b 0)) (hv' : look σ q' = some v') (ht : P.underlying t = some (.struct fs)) (hz : Ty P t z 4 by') (hH : Hp S w0 w ((b, .cells #[u0, u1, u2, u3] e fr) :: L)) (h : R (.tuple #[.agg #[u0, u1, u2, u3], v']) w) : WN n (bodyPost P fn (Ret R) .ret) σ w :=
  fun a ha => ⟨ha.defers, _, by
    have e1 := ha.val q _ hv
    have e2 := ha.val q' _ hv'
    rw [Array.getD_eq_getD_getElem?] at e1 e2
    simp [results, hr, e1, e2, asAddr, run_loadVar4 ht hz (hH.at 0 rfl)], h⟩
/-- a store of four -/
theorem WL.store4 {b : Nat} {v0 v1 v2 v3 u0 u1 u2 u3 : Value} {te : TypeId} {z : Value} {by' : Nat} (ht : Ty P t z 4 by') (hx : ev σ x = some (vptr b 0)) (hy : ev σ y = some (.agg #[v0, v1, v2, v3])) (hv0 : v0.oneCell' = true) (hv1 : v1.oneCell' = true) (hv2 : v2.oneCell' = true) (hv3 : v3.oneCell' = true) (hw : Wt opsA ⟨none, .store t x y, ty, pos, af, g⟩ σ true)
    (hH : Hp S w0 w ((b, .cells #[u0, u1, u2, u3] te (0, 0)) :: L))
    (h : ∀ w', Keep [b] w w' → Hp S w0 w' ((b, .cells #[v0, v1, v2, v3] te (0, 0)) :: L) → WL P n opsA Q rest σ w') : WL P n opsA Q (⟨none, .store t x y, ty, pos, af, g⟩ :: rest) σ w := by
  obtain ⟨i, h1, h2, h3, h4⟩ := ht
  have hb := hH.at 0 rfl
  have hH1 := hH.setCell 0 v0
  have hb1 := hH1.at 0 rfl
  have hH2 := hH1.setCell 1 v1
  have hb2 := hH2.at 0 rfl
  have hH3 := hH2.setCell 2 v2
  have hb3 := hH3.at 0 rfl
  have hH4 := hH3.setCell 3 v3
  refine WL.s rfl hw (w' := (((w.setCell ⟨b, 0, none⟩ v0).setCell ⟨b, 1, none⟩ v1).setCell ⟨b, 2, none⟩ v2).setCell ⟨b, 3, none⟩ v3) (fun a ha => ?_) (h _ ((((keep_setCell w b 0 v0).trans (keep_setCell _ b 1 v1)).trans (keep_setCell _ b 2 v2)).trans (keep_setCell _ b 3 v3)) hH4)
  have hc : w.cell? ⟨b, 0, none⟩ = some u0 := by rw [cell_of_row w b 0 _ te _ hb]; rfl
  have hc1 : (w.setCell ⟨b, 0, none⟩ v0).cell? ⟨b, 1, none⟩ = some u1 := by rw [cell_of_row _ b 1 _ te _ hb1]; rfl
  have hc2 : ((w.setCell ⟨b, 0, none⟩ v0).setCell ⟨b, 1, none⟩ v1).cell? ⟨b, 2, none⟩ = some u2 := by rw [cell_of_row _ b 2 _ te _ hb2]; rfl
  have hc3 : (((w.setCell ⟨b, 0, none⟩ v0).setCell ⟨b, 1, none⟩ v1).setCell ⟨b, 2, none⟩ v2).cell? ⟨b, 3, none⟩ = some u3 := by rw [cell_of_row _ b 3 _ te _ hb3]; rfl
  have hfr : w.frozen? ⟨b, 0, none⟩ = false := (frozen_at hb).trans (by simp)
  have hfr1 : (w.setCell ⟨b, 0, none⟩ v0).frozen? ⟨b, 1, none⟩ = false := (frozen_at hb1).trans (by simp)
  have hfr2 : ((w.setCell ⟨b, 0, none⟩ v0).setCell ⟨b, 1, none⟩ v1).frozen? ⟨b, 2, none⟩ = false := (frozen_at hb2).trans (by simp)
  have hfr3 : (((w.setCell ⟨b, 0, none⟩ v0).setCell ⟨b, 1, none⟩ v1).setCell ⟨b, 2, none⟩ v2).frozen? ⟨b, 3, none⟩ = false := (frozen_at hb3).trans (by simp)
  have h6 := run_store P w ⟨b, 0, none⟩ v0 .plain hv0
  have h7 := run_store P (w.setCell ⟨b, 0, none⟩ v0) ⟨b, 1, none⟩ v1 .plain hv1
  have h8 := run_store P ((w.setCell ⟨b, 0, none⟩ v0).setCell ⟨b, 1, none⟩ v1) ⟨b, 2, none⟩ v2 .plain hv2
  have h9 := run_store P (((w.setCell ⟨b, 0, none⟩ v0).setCell ⟨b, 1, none⟩ v1).setCell ⟨b, 2, none⟩ v2) ⟨b, 3, none⟩ v3 .plain hv3
  simp only [hc, hfr] at h6
  simp only [hc1, hfr1] at h7
  simp only [hc2, hfr2] at h8
  simp only [hc3, hfr3] at h9
  simp [execOp, ha.evl hx, ha.evl hy, Instr.storeAt, Instr.sureAddr, storeVar, sizeOf, typeInfo, h1, h3, Value.cells, storeCells, Addr.add_lit, h6, h7, h8, h9]
end
/-- a term as a struct: its sign, its rows and columns, the head of the terms in it -/
abbrev Qd := UInt8 × Nat × Nat × Hd
def rQd : Rep Qd := ⟨4, fun q => [.int .u8 q.1.toNat, vint q.2.1, vint q.2.2.1, .slice q.2.2.2.1 q.2.2.2.2.1 q.2.2.2.2.2], fun q => .agg #[.int .u8 q.1.toNat, vint q.2.1, vint q.2.2.1, .slice q.2.2.2.1 q.2.2.2.2.1 q.2.2.2.2.2], fun _ => rfl, by decide, fun q u h => by
  simp only [List.mem_cons, List.not_mem_nil, or_false] at h
  rcases h with rfl | rfl | rfl | rfl <;> rfl, fun _ => rfl, fun h => by cases h⟩
theorem fill_q2 {A : Array Value} (hA : A.size = 8) (u v : Qd) : Instr.fill (fun i => some (i * 4, 4)) A [(0, rQd.val u), (1, rQd.val v)] = some (rQd.cells u ++ rQd.cells v).toArray := by
  obtain ⟨l⟩ := A
  match l, hA with
  | [a0, a1, a2, a3, a4, a5, a6, a7], _ => simp [Instr.fill, rQd, Value.cells, Array.zipIdx]
def TQ (lo : Nat) (w : World) : Tm → Qd → Prop
  | .leaf c, q => ∃ h, q = (c, 1, 1, h)
  | .una s a, q => ∃ b cap qa, q = (s, (sz (.una s a)).1, (sz (.una s a)).2, (some ⟨b, 0, none⟩, 1, cap)) ∧ lo ≤ b ∧ Sl rQd w (some ⟨b, 0, none⟩) [qa] ∧ TQ lo w a qa
  | .bin s a c, q => ∃ b cap qa qc, q = (s, (sz (.bin s a c)).1, (sz (.bin s a c)).2, (some ⟨b, 0, none⟩, 2, cap)) ∧ lo ≤ b ∧ Sl rQd w (some ⟨b, 0, none⟩) [qa, qc] ∧ TQ lo w a qa ∧ TQ lo w c qc
theorem Sl.over {lo b : Nat} {S : List Nat} {w w' : World} {l : List Qd} (h : Sl rQd w (some ⟨b, 0, none⟩) l) (hb : lo ≤ b) (k : Keep S w w') (hS : ∀ x, x ∈ S → x < lo) : Sl rQd w' (some ⟨b, 0, none⟩) l :=
  h.keep k fun p hp hm => by
    cases hp
    have := hS _ hm
    dsimp only at this
    omega
theorem TQ.keep {lo : Nat} {S : List Nat} {w w' : World} (k : Keep S w w') (hS : ∀ x, x ∈ S → x < lo) : ∀ {t : Tm} {q : Qd}, TQ lo w t q → TQ lo w' t q
  | .leaf _, _, h => h
  | .una _ a, _, ⟨b, cap, qa, h, hl, hs, ha⟩ => ⟨b, cap, qa, h, hl, hs.over hl k hS, TQ.keep k hS ha⟩
  | .bin _ a c, _, ⟨b, cap, qa, qc, h, hl, hs, ha, hc⟩ => ⟨b, cap, qa, qc, h, hl, hs.over hl k hS, TQ.keep k hS ha, TQ.keep k hS hc⟩
theorem TQ.kept {lo : Nat} {w w' : World} {t : Tm} {q : Qd} (h : TQ lo w t q) (k : Keep [] w w') : TQ lo w' t q := TQ.keep k (by simp) h
theorem TQ.low {lo lo' : Nat} {w : World} (hl' : lo' ≤ lo) : ∀ {t : Tm} {q : Qd}, TQ lo w t q → TQ lo' w t q
  | .leaf _, _, h => h
  | .una _ a, _, ⟨b, cap, qa, h, hl, hs, ha⟩ => ⟨b, cap, qa, h, Nat.le_trans hl' hl, hs, TQ.low hl' ha⟩
  | .bin _ a c, _, ⟨b, cap, qa, qc, h, hl, hs, ha, hc⟩ => ⟨b, cap, qa, qc, h, Nat.le_trans hl' hl, hs, TQ.low hl' ha, TQ.low hl' hc⟩
/-- the size lies in the struct -/
theorem TQ.size {lo : Nat} {w : World} : ∀ {t : Tm} {q : Qd}, TQ lo w t q → q.2.1 = (sz t).1 ∧ q.2.2.1 = (sz t).2 ∧ q.1 = t.sign
  | .leaf _, _, ⟨h, e⟩ => by subst e; exact ⟨rfl, rfl, rfl⟩
  | .una _ a, _, ⟨b, cap, qa, e, _⟩ => by subst e; exact ⟨rfl, rfl, rfl⟩
  | .bin _ a c, _, ⟨b, cap, qa, qc, e, _⟩ => by subst e; exact ⟨rfl, rfl, rfl⟩
/-- what the reference reads -/
def rdV (s : Str) (f p : Nat) : Option (Tm × Nat) := match rdI s f p with
  | none => none
  | some (t, e) => if valid t = true then some (t, e) else none
def RdQ (lo : Nat) (w : World) (r : Option (Tm × Nat)) (q : Qd) (e : Nat) : Prop := match r with
  | none => e = 0
  | some (t, k) => e = k ∧ 0 < k ∧ TQ lo w t q
theorem RdQ.none {lo : Nat} {w : World} {r : Option (Tm × Nat)} {q : Qd} {e : Nat} (h : RdQ lo w r q e) (he : e = 0) : r = .none := by
  match r, h with
  | .none, _ => rfl
  | some (t, k), ⟨h1, h2, _⟩ => omega
theorem RdQ.some {lo : Nat} {w : World} {r : Option (Tm × Nat)} {q : Qd} {e : Nat} (h : RdQ lo w r q e) (he : e ≠ 0) : ∃ t, r = .some (t, e) ∧ TQ lo w t q := by
  match r, h with
  | .none, h => exact absurd h he
  | .some (t, k), ⟨h1, h2, h3⟩ => subst h1; exact ⟨t, rfl, h3⟩
theorem RdQ.keep {lo : Nat} {S : List Nat} {w w' : World} {r : Option (Tm × Nat)} {q : Qd} {e : Nat} (h : RdQ lo w r q e) (k : Keep S w w') (hS : ∀ x, x ∈ S → x < lo) : RdQ lo w' r q e := by
  match r, h with
  | .none, h => exact h
  | .some (t, j), ⟨h1, h2, h3⟩ => exact ⟨h1, h2, TQ.keep k hS h3⟩
theorem RdQ.una {lo lo' : Nat} {w : World} {r : Option (Tm × Nat)} {q : Qd} {e : Nat} (h : RdQ lo w r q e) (hl : lo' ≤ lo) {c : UInt8} {b cap : Nat} (hb : lo' ≤ b) (hs : Sl rQd w (.some ⟨b, 0, .none⟩) [q]) :
    RdQ lo' w (match (motive := Option (Tm × Nat) → Option (Tm × Nat)) r with
      | .none => .none
      | .some (a, e) => .some (.una c a, e)) (c, (if c = 62 then q.2.2.1 else q.2.1), (if c = 62 then q.2.1 else q.2.2.1), (.some ⟨b, 0, .none⟩, 1, cap)) e := by
  match r, h with
  | .none, h => exact h
  | .some (t, j), ⟨h1, h2, h3⟩ =>
    refine ⟨h1, h2, b, cap, q, ?_, hb, hs, TQ.low hl h3⟩
    obtain ⟨k1, k2, _⟩ := h3.size
    unfold sz
    by_cases hc : c = 62
    · rw [if_pos hc, if_pos hc, if_pos hc, k1, k2]
    · rw [if_neg hc, if_neg hc, if_neg hc, k1, k2]
theorem Own.q1 (q : Qd) : Own rQd (rQd.cells q).toArray 1 [q] := ⟨rfl, by simp, by decide, by unfold Rw; simp [rQd]⟩
theorem Own.q2 (q u : Qd) : Own rQd (rQd.cells q ++ rQd.cells u).toArray 2 [q, u] := ⟨rfl, by simp, by decide, by unfold Rw; simp [rQd]⟩
theorem rdV_some {s : Str} {f p e : Nat} {t : Tm} (h : rdV s f p = some (t, e)) : rdI s f p = some (t, e) ∧ valid t = true := by
  unfold rdV at h
  split at h
  · cases h
  · next t1 e1 hr =>
    split at h
    · next hv => cases h; exact ⟨hr, hv⟩
    · cases h
theorem rdV_at {s : Str} {f p e : Nat} {t : Tm} (h : rdI s f p = some (t, e)) (hv : valid t = true) : rdV s f p = some (t, e) := by unfold rdV; rw [h]; exact if_pos hv
theorem rdV_no {s : Str} {f p : Nat} (h : rdI s f p = none) : rdV s f p = none := by unfold rdV; rw [h]
theorem rdV_inv {s : Str} {f p e : Nat} {t : Tm} (h : rdI s f p = some (t, e)) (hv : valid t = false) : rdV s f p = none := by unfold rdV; rw [h]; exact if_neg (by rw [hv]; decide)
theorem rdV_noneI {s : Str} {f p : Nat} (h : rdV s f p = none) : rdI s f p = none ∨ ∃ t e, rdI s f p = some (t, e) ∧ valid t = false := by
  unfold rdV at h
  split at h
  · next hr => exact .inl hr
  · next t e hr =>
    split at h
    · cases h
    · next hv => exact .inr ⟨t, e, hr, by simpa using hv⟩
section
variable {s : Str} {f p : Nat}
theorem rdV_una (h : p < s.length) (hb : okL (s.getD p 0) = false) (hu : isU (s.getD p 0) = true) {r : Option (Tm × Nat)} (hr : rdV s f (p + 1) = r) : rdV s (f + 1) p = match (motive := Option (Tm × Nat) → Option (Tm × Nat)) r with
      | none => none
      | some (a, e) => some (.una (s.getD p 0) a, e) := by
  subst hr
  cases hi : rdI s f (p + 1) with
  | none => rw [rdV_no hi, rdV_no (by rw [rdI_una h hb hu, hi])]
  | some x =>
    obtain ⟨a, e⟩ := x
    have hx : rdI s (f + 1) p = some (.una (s.getD p 0) a, e) := by rw [rdI_una h hb hu, hi]
    cases hv : valid a with
    | true => rw [rdV_at hi hv, rdV_at hx hv]
    | false => rw [rdV_inv hi hv, rdV_inv hx hv]
/-- a bracket that does not end well -/
theorem rdV_bin0 (h : p < s.length) (h4 : s.getD p 0 = 40) (hr : rdV s f (p + 1) = none) : rdV s (f + 1) p = none := by
  rcases rdV_noneI hr with hi | ⟨a, q, hi, hv⟩
  · exact rdV_no (by rw [rdI_bin h h4, hi])
  · unfold rdV
    rw [rdI_bin h h4, hi]
    dsimp only
    split
    · next hx => rfl
    · next t e hx =>
      split at hx
      · cases hx
      · split at hx
        · cases hx
        · split at hx
          · cases hx
          · cases hx; rw [if_neg (by rw [valid, hv]; simp)]
theorem rdV_bin1 (h : p < s.length) (h4 : s.getD p 0 = 40) {a : Tm} {q : Nat} (hr : rdV s f (p + 1) = some (a, q)) (hq : s.length ≤ q ∨ isB (s.getD q 0) = false) : rdV s (f + 1) p = none := by
  obtain ⟨hi, hv⟩ := rdV_some hr
  exact rdV_no (by rw [rdI_bin h h4, hi]; exact if_pos hq)
theorem rdV_bin2 (h : p < s.length) (h4 : s.getD p 0 = 40) {a : Tm} {q : Nat} (hr : rdV s f (p + 1) = some (a, q)) (hq : ¬ (s.length ≤ q ∨ isB (s.getD q 0) = false)) (hc : rdV s f (q + 1) = none) : rdV s (f + 1) p = none := by
  obtain ⟨hi, hv⟩ := rdV_some hr
  rcases rdV_noneI hc with hj | ⟨c, e, hj, hv2⟩
  · exact rdV_no (by rw [rdI_bin h h4, hi]; dsimp only; rw [if_neg hq, hj])
  · unfold rdV
    rw [rdI_bin h h4, hi]
    dsimp only
    rw [if_neg hq, hj]
    dsimp only
    split
    · rfl
    · next t e2 hx =>
      split at hx
      · cases hx
      · cases hx; rw [if_neg (by rw [valid, hv2]; simp)]
theorem rdV_bin3 (h : p < s.length) (h4 : s.getD p 0 = 40) {a c : Tm} {q e : Nat} (hr : rdV s f (p + 1) = some (a, q)) (hq : ¬ (s.length ≤ q ∨ isB (s.getD q 0) = false)) (hc : rdV s f (q + 1) = some (c, e)) (he : s.length ≤ e ∨ s.getD e 0 ≠ 41) : rdV s (f + 1) p = none := by
  obtain ⟨hi, hv⟩ := rdV_some hr
  obtain ⟨hj, hv2⟩ := rdV_some hc
  exact rdV_no (by rw [rdI_bin h h4, hi]; dsimp only; rw [if_neg hq, hj]; exact if_pos he)
theorem rdV_bin4 (h : p < s.length) (h4 : s.getD p 0 = 40) {a c : Tm} {q e : Nat} (hr : rdV s f (p + 1) = some (a, q)) (hq : ¬ (s.length ≤ q ∨ isB (s.getD q 0) = false)) (hc : rdV s f (q + 1) = some (c, e)) (he : ¬ (s.length ≤ e ∨ s.getD e 0 ≠ 41)) :
    rdV s (f + 1) p = if (if s.getD q 0 = 124 then decide ((sz a).1 = (sz c).1 ∧ (sz a).2 + (sz c).2 ≤ 5) else decide ((sz a).2 = (sz c).2 ∧ (sz a).1 + (sz c).1 ≤ 5)) = true then some (.bin (s.getD q 0) a c, e + 1) else none := by
  obtain ⟨hi, hv⟩ := rdV_some hr
  obtain ⟨hj, hv2⟩ := rdV_some hc
  have hx : rdI s (f + 1) p = some (.bin (s.getD q 0) a c, e + 1) := by rw [rdI_bin h h4, hi]; dsimp only; rw [if_neg hq, hj]; exact if_neg he
  have hvv : valid (.bin (s.getD q 0) a c) = (if s.getD q 0 = 124 then decide ((sz a).1 = (sz c).1 ∧ (sz a).2 + (sz c).2 ≤ 5) else decide ((sz a).2 = (sz c).2 ∧ (sz a).1 + (sz c).1 ≤ 5)) := by rw [valid, hv, hv2]; rfl
  unfold rdV
  rw [hx]
  dsimp only
  rw [hvv]
end
end Go.Proofs.Ytamkbmhgclpidaa
