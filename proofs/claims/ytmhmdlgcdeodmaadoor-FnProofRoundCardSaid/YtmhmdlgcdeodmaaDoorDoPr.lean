/- Rounds as texts: the program's and the reference's proofs of a round, and how such a text is checked. -/
import Derived.Test.YtmhmdlgcdeodmaaDoorPrn
import Derived.Test.YtmhmdlgcdeodmaaDoorDoRn
import Derived.Test.YtmhmdlgcdeodmaaDoorPort
import Derived.Laws.Cover3
import Derived.Test.YtmhmdlgcdeodmaaDoorDrawIs
namespace Go.Proofs.YtmhmdlgcdeodmaaDoor
set_option maxRecDepth 100000
set_option linter.unusedSimpArgs false
set_option linter.unusedVariables false
open Go Go.RowKit
section
variable {P : Program} {n : Nat} {σ : Env} {w : World} {d : Option Nat} {ty : TypeId} {pos : String} {af : Array Edge} {g : Option (Nat × Bool)} {x : Operand} {t t' e : TypeId}
theorem Ex.eqlNilSl {q : Option Addr} {l c : Nat} (ht : P.underlying t = some (.slice e)) (hx : ev σ x = some (.slice q l c)) : Ex P n ⟨d, .binOp .eql t x (.const (.slice none 0 0)) t', ty, pos, af, g⟩ σ w (.bool q.isNone) w := fun a ha => by
  have h := run_equal_slice_nil (P := P) w t e q l c ht
  have hy : a.eval (.const (.slice none 0 0)) = .slice none 0 0 := rfl
  simp only [execOp, ha.evl hx, hy]
  simp [eqGuard, binOp, h]
end
theorem firstOff_of {g : Grid} : ∀ (k x y : Nat), x ≤ y → y < x + k → beamMark g y = false → (∀ j, x ≤ j → j < y → beamMark g j = true) → firstOff g k x = some y
  | 0, x, y, h1, h2, _, _ => by omega
  | k + 1, x, y, h1, h2, h3, h4 => by
    unfold firstOff
    by_cases e : x = y
    · subst e; rw [if_neg (by rw [h3]; decide)]
    · rw [if_pos (h4 x (Nat.le_refl _) (by omega))]
      exact firstOff_of k (x + 1) y (by omega) (by omega) h3 fun j hj => h4 j (by omega)
theorem firstOff_nn {g : Grid} : ∀ (k x : Nat), (∀ j, x ≤ j → j < x + k → beamMark g j = true) → firstOff g k x = none
  | 0, x, _ => rfl
  | k + 1, x, h => by
    unfold firstOff
    rw [if_pos (h x (Nat.le_refl _) (by omega))]
    exact firstOff_nn k (x + 1) fun j h1 h2 => h j (by omega) (by omega)
theorem off_some {g : Grid} {x : Nat} (h1 : x < 4 * (nR g * nC g)) (h2 : beamMark g x = false) (h3 : ∀ j, j < x → beamMark g j = true) : offAt g = some x := firstOff_of _ _ _ (by omega) (by omega) h2 fun j _ hj => h3 j hj
theorem off_nn {g : Grid} (h : ∀ j, j < 4 * (nR g * nC g) → beamMark g j = true) : offAt g = none := firstOff_nn _ _ fun j _ hj => h j (by omega)
/-- digits read so far -/
def numK (s : Str) (a : Nat) : Nat → Nat
  | 0 => 0
  | k + 1 => 10 * numK s a k + ((s.getD (a + k) 0).toNat - 48)
theorem digB_iff {c : UInt8} : digB c = true ↔ 48 ≤ c.toNat ∧ c.toNat ≤ 57 := by
  simp only [digB, Bool.and_eq_true, decide_eq_true_eq]
theorem dig_bd {c : UInt8} (h : digB c = true) : c.toNat - 48 ≤ 9 := by have := digB_iff.1 h; omega
theorem num_stop0 {s : Str} {a : Nat} (h : s.length ≤ a ∨ digB (s.getD a 0) = false) : numAt s a = (0, 0) := by
  unfold numAt; rw [if_pos h]
theorem num_stop1 {s : Str} {a : Nat} (h0 : a < s.length) (h1 : digB (s.getD a 0) = true) (h : s.length ≤ a + 1 ∨ digB (s.getD (a + 1) 0) = false) : numAt s a = (numK s a 1, a + 1) := by
  unfold numAt
  rw [if_neg (by rw [h1]; simp; omega), if_pos h]
  simp [numK]
theorem num_stop2 {s : Str} {a : Nat} (h0 : a + 1 < s.length) (h1 : digB (s.getD a 0) = true) (h2 : digB (s.getD (a + 1) 0) = true) : numAt s a = if s.getD a 0 = 48 then (0, 0) else (numK s a 2, a + 2) := by
  unfold numAt
  rw [if_neg (by rw [h1]; simp; omega), if_neg (by rw [h2]; simp; omega)]
  simp [numK]
/-- k digits have been read; what stands behind them ends the number -/
structure Dg (s : Str) (a k : Nat) : Prop where
  k2 : k ≤ 2
  len : k = 0 ∨ a + k ≤ s.length
  dig : ∀ j, j < k → digB (s.getD (a + j) 0) = true
theorem Dg.zero (s : Str) (a : Nat) : Dg s a 0 := ⟨by omega, .inl rfl, fun j h => by omega⟩
theorem Dg.next {s : Str} {a k : Nat} (h : Dg s a k) (h1 : a + k < s.length) (h2 : k < 2) (h3 : digB (s.getD (a + k) 0) = true) : Dg s a (k + 1) := ⟨by omega, .inr (by omega), fun j hj => by
  by_cases e : j = k
  · rw [e]; exact h3
  · exact h.dig j (by omega)⟩
theorem Dg.bd {s : Str} {a k : Nat} (h : Dg s a k) : numK s a k ≤ 99 := by
  have h2 := h.k2
  obtain rfl | rfl | rfl : k = 0 ∨ k = 1 ∨ k = 2 := by omega
  · simp [numK]
  · have := dig_bd (h.dig 0 (by omega))
    simp only [numK]; simp only [Nat.add_zero] at this ⊢; omega
  · have e1 := dig_bd (h.dig 0 (by omega))
    have e2 := dig_bd (h.dig 1 (by omega))
    simp only [numK]; simp only [Nat.add_zero] at e1 ⊢; omega
theorem Dg.bd1 {s : Str} {a k : Nat} (h : Dg s a k) (hk : k < 2) : numK s a k ≤ 9 := by
  obtain rfl | rfl : k = 0 ∨ k = 1 := by omega
  · simp [numK]
  · have := dig_bd (h.dig 0 (by omega))
    simp only [numK]; simp only [Nat.add_zero] at this ⊢; omega
def Stop (s : Str) (a k : Nat) : Prop := s.length ≤ a + k ∨ 2 ≤ k ∨ digB (s.getD (a + k) 0) = false
theorem Dg.none {s : Str} {a : Nat} (hs : Stop s a 0) : numAt s a = (0, 0) := num_stop0 (by rcases hs with h | h | h; exact .inl h; omega; exact .inr h)
theorem Dg.bad {s : Str} {a k : Nat} (h : Dg s a k) (hk : 1 < k) (h48 : s.getD a 0 = 48) : numAt s a = (0, 0) := by
  have h2 := h.k2
  obtain rfl : k = 2 := by omega
  have e1 : digB (s.getD a 0) = true := h.dig 0 (by omega)
  have e2 := h.dig 1 (by omega)
  have e3 := h.len
  rw [num_stop2 (by omega) e1 e2, if_pos h48]
theorem Dg.good {s : Str} {a k : Nat} (h : Dg s a k) (hs : Stop s a k) (hk : 0 < k) (hn : k = 1 ∨ s.getD a 0 ≠ 48) : numAt s a = (numK s a k, a + k) := by
  have h2 := h.k2
  have e1 : digB (s.getD a 0) = true := h.dig 0 (by omega)
  have e3 := h.len
  obtain rfl | rfl : k = 1 ∨ k = 2 := by omega
  · exact num_stop1 (by omega) e1 (by rcases hs with h | h | h; exact .inl h; omega; exact .inr h)
  · have e2 := h.dig 1 (by omega)
    rw [num_stop2 (by omega) e1 e2, if_neg (by rcases hn with h | h; omega; exact h)]
theorem num_end {s : Str} {a : Nat} : (numAt s a).2 = 0 ∨ ((numAt s a).2 ≤ s.length ∧ a < (numAt s a).2 ∧ (numAt s a).1 < 100 ∧ (numAt s a).2 ≤ a + 2) := by
  unfold numAt
  split
  · exact .inl rfl
  · next h1 =>
    have b1 : digB (s.getD a 0) = true := by simpa using fun e => h1 (.inr e)
    have b2 := dig_bd b1
    split
    · exact .inr ⟨by dsimp only; omega, by dsimp only; omega, by dsimp only; omega, by dsimp only; omega⟩
    · next h3 =>
      have b3 : digB (s.getD (a + 1) 0) = true := by simpa using fun e => h3 (.inr e)
      have b4 := dig_bd b3
      split
      · exact .inl rfl
      · exact .inr ⟨by dsimp only; omega, by dsimp only; omega, by dsimp only; omega, by dsimp only; omega⟩
theorem subDig {c : UInt8} (h : digB c = true) : IntKind.u8.wrap ((c.toNat : Int) - 48) = ((c.toNat - 48 : Nat) : Int) := by
  have := digB_iff.1 h
  unfold IntKind.wrap
  simp [IntKind.bits, IntKind.signed]
  omega
theorem wrapI64 {k : Nat} (h : k ≤ 1000000) : IntKind.i64.wrap (k : Int) = (k : Int) := by
  have h2 : I64 (k : Int) := by constructor <;> omega
  exact wrap_in h2
theorem parse_no6 {t : Str} (h : t.length < 6 ∨ t.take 6 ≠ rnd) : parseR t = none := by
  unfold parseR
  rw [if_pos]
  intro e
  rcases h with h | h
  · have := congrArg List.length e
    rw [List.length_take] at this
    simp only [rnd, List.length_cons, List.length_nil] at this
    omega
  · exact h e
theorem parse_noN {t : Str} (h : (numAt t 6).2 = 0 ∨ t.length ≤ (numAt t 6).2 + 1 ∨ t.getD (numAt t 6).2 0 ≠ 32) : parseR t = none := by
  unfold parseR
  split
  · rfl
  · first | rfl | rw [if_pos h]
theorem parse_yes {t : Str} (h6 : t.take 6 = rnd) (h : ¬ ((numAt t 6).2 = 0 ∨ t.length ≤ (numAt t 6).2 + 1 ∨ t.getD (numAt t 6).2 0 ≠ 32)) : parseR t = some ((numAt t 6).1, t.drop ((numAt t 6).2 + 1)) := by
  unfold parseR
  rw [if_neg (fun e => e h6), if_neg h]
theorem roundIs_big {g : Grid} {t : Str} (h : nR g * nC g ≤ (numAt t 6).1) : roundIs g t = (0, false) := by
  cases hp : parseR t with
  | none => exact roundIs_no hp
  | some x =>
    have : x.1 = (numAt t 6).1 := by
      unfold parseR at hp
      split at hp
      · cases hp
      · split at hp
        · cases hp
        · cases hp; rfl
    exact roundIs_cell (c := x.1) (u := x.2) hp (by omega)
theorem tells_lt {g : Grid} {c : Nat} {u : Str} {d : Nat} (h : ∀ e, e < d → tellsB g c u e = false) (hd : tellsB g c u d = false) : ∀ e, e < d + 1 → tellsB g c u e = false := fun e he => by
  by_cases x : e = d
  · rw [x]; exact hd
  · exact h e (by omega)
theorem tells_off {g : Grid} {c : Nat} {u : Str} {d : Nat} (h : (close g (c, d)).2 = false ∨ waysL (close g (c, d)).1 ≠ u) : tellsB g c u d = false := by
  unfold tellsB
  rcases h with h | h
  · rw [h]; rfl
  · rw [decide_eq_false h]; simp

theorem iroundOn (g : Grid) (a : Option Addr) (cap : Nat) (s0 : Nat × Nat) (w : World) (hg : Sl rStr w a g) (hG : GridOk g) (hok0 : Ok g s0) (hb0 : OnBeam g s0) : Fn Tryd.prog 51 [.slice a g.length cap, .agg #[vint s0.1, vint s0.2]] w (fun v w1 => v = .slice none 0 0 ∧ Keep [] w w1) := by
  refine Fn.enter (n := 34) Tryd.func51 rfl rfl rfl ?_
  show WC _ _ _ _ [(0, .slice a g.length cap), (1, .agg #[vint s0.1, vint s0.2])] _
  have hH := Hp.start [] w
  have hz := hG.sz
  have hcf : (close g s0).2 = false := by
    cases h : (close g s0).2 with
    | false => rfl
    | true => exact absurd hb0 ((close_iff hz hok0).1 h)
  refine WC.seq ?_
  refine WC.region ?_
  refine WL.box rfl rfl rfl (Wt.plain rfl) hH (fun b3 wn hb3 hk3 hH => ?_)
  refine WL.u rfl rfl (Wt.plain rfl) (Ex.assign rfl) ?_
  refine WL.next ?_
  refine WC.seq ?_
  refine WC.region ?_
  refine WL.u rfl rfl (Wt.plain rfl) (Ex.loadHp2 Tryd.underlying48 ty48 rfl hH) ?_
  refine WL.buildSlice (pv := [(0, rStep.val s0)]) Tryd.underlying61 ty48 rfl rfl rfl (fill_rep rStep (by decide) s0) rfl (Wt.plain rfl) hH (fun b9 wn hb9 hk9 hH => ?_)
  have ho9 := Own.oneStep s0
  refine WL.u rfl rfl (Wt.plain rfl) (Ex.assign rfl) ?_
  refine WL.next ?_
  refine WC.seq ?_
  refine WC.region ?_
  refine WL.u rfl rfl (Wt.plain rfl) (Ex.move rfl) ?_
  replace hH := hH.f1
  refine WL.u rfl rfl (Wt.plain rfl) (Ex.loadHp2 Tryd.underlying48 ty48 rfl hH) ?_
  refine WL.call callable76 rfl (Wt.plain rfl) rfl rfl (iafter _ _ _ s0.1 s0.2 _ (hg.kept hH.keep) hG hok0.cell hok0.d) ?_
  rintro _ wn ⟨rfl, hC⟩; replace hH := hH.call hC; clear hC
  refine WL.u rfl rfl (Wt.plain rfl) (Ex.move rfl) ?_
  refine WL.u rfl rfl (Wt.plain rfl) (Ex.extract rfl rfl) ?_
  refine WL.u rfl rfl (Wt.plain rfl) (Ex.extract rfl rfl) ?_
  refine WL.alloc ty48 rfl rfl (Wt.plain rfl) hH (fun b6 wn hb6 hk6 hH => ?_)
  refine WL.store2 ty48 rfl rfl rfl rfl (Wt.plain rfl) hH (fun wn hk hH => ?_)
  refine WL.u rfl rfl (Wt.plain rfl) (Ex.assign rfl) ?_
  refine WL.next ?_
  refine WC.seq ?_
  refine WC.block ?_
  replace hH := hH.f1
  replace hH := hH.f1
  replace hH := hH.f2
  refine WC.loop (ι := Nat × Nat × (Array Value) × (List (Nat × Nat)) × (Nat × Nat) × Nat) (fun (b9, cap9, cur9, l, s, f) => [(0, .slice a g.length cap), (3, vptr b3 0), (5, vsl b9 (l ++ [s]).length cap9), (6, vptr b6 0), (7, vint (ex g s))]) (fun (b9, cap9, cur9, l, s, f) wn => Hp [] w wn [(b9, .cells cur9 48 (0, 0)), (b6, .cells #[vint (nx g s).1, vint (nx g s).2] 48 (0, 0)), (b3, .cells #[vint s0.1, vint s0.2] 48 (0, 0))] ∧ Own rStep cur9 cap9 (l ++ [s]) ∧ CI g s0 l s f) (fun (b9, cap9, cur9, l, s, f) => f) ((b9, 1, #[vint s0.1, vint s0.2], [], s0, 4 * (nR g * nC g))) (by exact ⟨rfl, rfl, rfl, rfl, rfl, trivial⟩) ?_ ?_
  · exact ⟨hH, ho9, CI.start hz hok0⟩
  rintro ⟨b9, cap9, cur9, l, s, f⟩ wn ⟨hH, ho9, hC⟩
  have hok := hC.1
  have hl100 := hC.len hG
  have hll : (l ++ [s]).length = l.length + 1 := by simp
  intro mu0 hmu; try dsimp only at hmu
  show WC _ _ _ _ [(0, .slice a g.length cap), (3, vptr b3 0), (5, vsl b9 (l ++ [s]).length cap9), (6, vptr b6 0), (7, vint (ex g s))] _
  refine WC.seq ?_
  refine WC.seq ?_
  refine WC.region ?_
  replace hH := hH.f1
  refine WL.u rfl rfl (Wt.plain rfl) (Ex.loadHp2 Tryd.underlying48 ty48 rfl hH) ?_
  replace hH := hH.f2
  refine WL.u rfl rfl (Wt.plain rfl) (Ex.loadHp2 Tryd.underlying48 ty48 rfl hH) ?_
  refine WL.u rfl rfl (Wt.plain rfl) (Ex.neqStep st48 (s := nx g s) (u := s0) rfl rfl) ?_
  refine WL.next ?_
  refine WC.cond rfl (fun hc1 => ?_) (fun hc1 => ?_)
  · have hc1' := hc1; try simp only [decide_eq_true_eq, decide_eq_false_iff_not, Bool.not_eq_true', Bool.not_eq_false', Bool.not_eq_true, Bool.not_eq_false] at hc1'
    have hne : nx g s ≠ s0 := of_decide_eq_true hc1
    refine WC.skip ?_
    refine WN.next ?_
    refine WC.block ?_
    refine WC.seq ?_
    refine WC.seq ?_
    refine WC.region ?_
    refine WL.u rfl rfl (Wt.plain rfl) (Ex.move rfl) ?_
    refine WL.u rfl rfl (Wt.plain rfl) (Ex.geq rfl rfl) ?_
    refine WL.next ?_
    refine WC.cond rfl (fun hc2 => ?_) (fun hc2 => ?_)
    · have hc2' := hc2; try simp only [decide_eq_true_eq, decide_eq_false_iff_not, Bool.not_eq_true', Bool.not_eq_false', Bool.not_eq_true, Bool.not_eq_false] at hc2'
      refine WC.seq ?_
      refine WC.region ?_
      refine WL.u rfl rfl (Wt.plain rfl) (Ex.assign rfl) ?_
      refine WL.next ?_
      refine WC.ret ?_
      refine WN.retThen ?_
      refine WN.retBlock ?_
      refine WN.retThen ?_
      refine WN.retBlock ?_
      refine WN.retThen ?_
      refine WN.body1 rfl rfl ?_
      exact ⟨rfl, hH.keep⟩
    have hc2' := hc2; try simp only [decide_eq_true_eq, decide_eq_false_iff_not, Bool.not_eq_true', Bool.not_eq_false', Bool.not_eq_true, Bool.not_eq_false] at hc2'
    have hin := ex_inr (g := g) (s := s) (by omega)
    have hon := hC.on hz hin hne
    have hok2 := hon.1.1
    refine WC.skip ?_
    refine WN.next ?_
    refine WC.seq ?_
    refine WC.region ?_
    refine WL.u rfl rfl (Wt.plain rfl) (Ex.move rfl) ?_
    replace hH := hH.f1
    refine WL.u rfl rfl (Wt.plain rfl) (Ex.loadHp2 Tryd.underlying48 ty48 rfl hH) ?_
    replace hH := hH.f2
    refine WL.append1 (r := rStep) (u := nx g s) Tryd.underlying61 ty48 rfl rfl (fun _ => rfl) (fun _ => rfl) rfl rfl (Wt.plain rfl) (fun _ => (Wt.plain rfl)) hH ho9 rfl (by omega) (by omega) (fun b9 cap9 cur9 wn x9 hb9 hk9 hH ho9 => ?_)
    refine WL.u rfl rfl (Wt.plain rfl) (Ex.assign rfl) ?_
    refine WL.next ?_
    refine WC.region ?_
    refine WL.u rfl rfl (Wt.plain rfl) (Ex.move rfl) ?_
    replace hH := hH.f1
    refine WL.u rfl rfl (Wt.plain rfl) (Ex.loadHp2 Tryd.underlying48 ty48 rfl hH) ?_
    refine WL.call callable76 rfl (Wt.plain rfl) rfl rfl (iafter _ _ _ (nx g s).1 (nx g s).2 _ (hg.kept hH.keep) hG hok2.cell hok2.d) ?_
    rintro _ wn ⟨rfl, hC⟩; replace hH := hH.call hC; clear hC
    refine WL.u rfl rfl (Wt.plain rfl) (Ex.move rfl) ?_
    refine WL.u rfl rfl (Wt.plain rfl) (Ex.extract rfl rfl) ?_
    refine WL.u rfl rfl (Wt.plain rfl) (Ex.extract rfl rfl) ?_
    refine WL.store2 ty48 rfl rfl rfl rfl (Wt.plain rfl) hH (fun wn hk hH => ?_)
    refine WL.u rfl rfl (Wt.plain rfl) (Ex.assign rfl) ?_
    refine WL.last ?_
    refine WN.normalBlock ?_
    replace hH := hH.f2
    replace hH := hH.f1
    replace hH := hH.f2
    refine WN.round (b9, cap9, cur9, l ++ [s], nx g s, f - 1) (by exact ⟨rfl, rfl, rfl, rfl, rfl, trivial⟩) ?_ ?_
    · exact ⟨hH, ho9, hon.1⟩
    · have := hon.2; dsimp only; omega
  have hc1' := hc1; try simp only [decide_eq_true_eq, decide_eq_false_iff_not, Bool.not_eq_true', Bool.not_eq_false', Bool.not_eq_true, Bool.not_eq_false] at hc1'
  have he : nx g s = s0 := Classical.not_not.1 (of_decide_eq_false hc1)
  have hxge : 0 ≤ ex g s := by
    apply Classical.byContradiction
    intro e
    have hin := ex_inr (g := g) (s := s) (by omega)
    rw [he] at hin
    rw [hC.back hin] at hcf
    cases hcf
  refine WC.exit ?_
  refine WN.exitThen ?_
  refine WN.exitThen ?_
  refine WN.exitHere ?_
  refine WN.next ?_
  refine WC.seq ?_
  refine WC.seq ?_
  refine WC.region ?_
  refine WL.u rfl rfl (Wt.plain rfl) (Ex.move rfl) ?_
  refine WL.u rfl rfl (Wt.plain rfl) (Ex.geq rfl rfl) ?_
  refine WL.next ?_
  refine WC.condT rfl (decide_eq_true (by omega)) ?_
  refine WC.seq ?_
  refine WC.region ?_
  refine WL.u rfl rfl (Wt.plain rfl) (Ex.assign rfl) ?_
  refine WL.next ?_
  refine WC.ret ?_
  refine WN.retThen ?_
  refine WN.body1 rfl rfl ?_
  exact ⟨rfl, hH.keep⟩

theorem iroundProofN (g : Grid) (a : Option Addr) (cap : Nat) (s0 : Nat × Nat) (w : World) (hg : Sl rStr w a g) (hG : GridOk g) (hok0 : Ok g s0) (hb0 : OnBeam g s0) : Fn Tryd.prog 38 [.slice a g.length cap, .agg #[vint s0.1, vint s0.2]] w (fun v w1 => v = vstr (roundText g s0) ∧ Keep [] w w1) := by
  refine Fn.enter (n := 19) Tryd.func38 rfl rfl rfl ?_
  show WC _ _ _ _ [(0, .slice a g.length cap), (1, .agg #[vint s0.1, vint s0.2])] _
  have hH := Hp.start [] w
  have hz := hG.sz
  have hcf : (close g s0).2 = false := by
    cases h : (close g s0).2 with
    | false => rfl
    | true => exact absurd hb0 ((close_iff hz hok0).1 h)
  refine WC.seq ?_
  refine WC.region ?_
  refine WL.box rfl rfl rfl (Wt.plain rfl) hH (fun b3 wn hb3 hk3 hH => ?_)
  refine WL.u rfl rfl (Wt.plain rfl) (Ex.assign rfl) ?_
  refine WL.next ?_
  refine WC.seq ?_
  refine WC.region ?_
  refine WL.u rfl rfl (Wt.plain rfl) (Ex.move rfl) ?_
  refine WL.u rfl rfl (Wt.plain rfl) (Ex.loadHp2 Tryd.underlying48 ty48 rfl hH) ?_
  refine WL.call callable51 rfl (Wt.plain rfl) rfl rfl (iroundOn g _ _ s0 _ (hg.kept hH.keep) hG hok0 hb0) ?_
  rintro _ wn ⟨rfl, hC⟩; replace hH := hH.call hC; clear hC
  refine WL.u rfl rfl (Wt.plain rfl) (Ex.assign rfl) ?_
  refine WL.next ?_
  refine WC.seq ?_
  refine WC.seq ?_
  refine WC.region ?_
  refine WL.u rfl rfl (Wt.plain rfl) (Ex.move rfl) ?_
  refine WL.u rfl rfl (Wt.plain rfl) (Ex.eqlNilSl Tryd.underlying61 rfl) ?_
  refine WL.next ?_
  refine WC.condT rfl (rfl) ?_
  refine WC.seq ?_
  refine WC.region ?_
  refine WL.u rfl rfl (Wt.plain rfl) (Ex.assign rfl) ?_
  refine WL.next ?_
  refine WC.ret ?_
  refine WN.retThen ?_
  refine WN.body1 rfl rfl ?_
  exact ⟨by unfold roundText; rw [if_neg (by rw [hcf]; decide)] <;> rfl, hH.keep⟩

theorem iroundProofY (g : Grid) (a : Option Addr) (cap : Nat) (s0 : Nat × Nat) (w : World) (hg : Sl rStr w a g) (hG : GridOk g) (hok0 : Ok g s0) (hnb0 : ¬ OnBeam g s0) : Fn Tryd.prog 38 [.slice a g.length cap, .agg #[vint s0.1, vint s0.2]] w (fun v w1 => v = vstr (roundText g s0) ∧ Keep [] w w1) := by
  refine Fn.enter (n := 19) Tryd.func38 rfl rfl rfl ?_
  show WC _ _ _ _ [(0, .slice a g.length cap), (1, .agg #[vint s0.1, vint s0.2])] _
  have hH := Hp.start [] w
  have hz := hG.sz
  have hct := (close_iff hz hok0).2 hnb0
  have h100 := cell_100 hz hok0
  have hdl := decL_len h100
  have hcl := close_len g s0
  have hcn := cells_le hG
  have hcok := close_ok hz hok0
  refine WC.seq ?_
  refine WC.region ?_
  refine WL.box rfl rfl rfl (Wt.plain rfl) hH (fun b3 wn hb3 hk3 hH => ?_)
  refine WL.u rfl rfl (Wt.plain rfl) (Ex.assign rfl) ?_
  refine WL.next ?_
  refine WC.seq ?_
  refine WC.region ?_
  refine WL.u rfl rfl (Wt.plain rfl) (Ex.move rfl) ?_
  refine WL.u rfl rfl (Wt.plain rfl) (Ex.loadHp2 Tryd.underlying48 ty48 rfl hH) ?_
  refine WL.call callable51 rfl (Wt.plain rfl) rfl rfl (iroundFrom g _ _ s0 _ (hg.kept hH.keep) hG hok0 hnb0) ?_
  rintro _ wn ⟨hC, hN⟩; obtain ⟨b8, cap8, cur8, rfl, hge8, hbb8, ho8⟩ := hN.own; replace hH := hH.push hC hge8 hbb8; clear hC hN
  refine WL.u rfl rfl (Wt.plain rfl) (Ex.assign rfl) ?_
  refine WL.next ?_
  refine WC.seq ?_
  refine WC.seq ?_
  refine WC.region ?_
  refine WL.u rfl rfl (Wt.plain rfl) (Ex.move rfl) ?_
  refine WL.u rfl rfl (Wt.plain rfl) (Ex.eqlNilSl Tryd.underlying61 rfl) ?_
  refine WL.next ?_
  refine WC.condF rfl (rfl) ?_
  refine WC.skip ?_
  refine WN.next ?_
  refine WC.seq ?_
  refine WC.region ?_
  refine WL.u rfl rfl (Wt.plain rfl) (Ex.fieldAddr fd48_0 rfl) ?_
  replace hH := hH.f1
  refine WL.u rfl rfl (Wt.plain rfl) (Ex.loadHp flat3 rfl hH rfl) ?_
  refine WL.call callable41 rfl (Wt.plain rfl) rfl rfl (iItoa s0.1 _ h100) ?_
  rintro _ _ ⟨rfl, hw⟩; obtain rfl := hw.symm
  refine WL.u rfl rfl (Wt.plain rfl) (Ex.concat rfl rfl (by simp only [List.length_cons, List.length_nil]; omega)) ?_
  refine WL.u rfl rfl (Wt.plain rfl) (Ex.concat rfl rfl (by simp only [List.length_append, List.length_cons, List.length_nil]; omega)) ?_
  refine WL.u rfl rfl (Wt.plain rfl) (Ex.move rfl) ?_
  refine WL.call callable64 rfl (Wt.plain rfl) rfl rfl (iwaysOf (close g s0).1 _ _ _ (ho8.slAt hH 1 rfl) (fun s hs => (hcok s hs).d) (by omega)) ?_
  rintro _ wn ⟨rfl, hC⟩; replace hH := hH.call hC; clear hC
  refine WL.u rfl rfl (Wt.plain rfl) (Ex.concat rfl rfl (by simp only [List.length_append, List.length_cons, List.length_nil, List.length_map]; omega)) ?_
  refine WL.u rfl rfl (Wt.plain rfl) (Ex.assign rfl) ?_
  refine WL.next ?_
  refine WC.ret ?_
  refine WN.body1 rfl rfl ?_
  exact ⟨by unfold roundText; rw [if_pos hct] <;> rfl, hH.keep⟩


theorem iroundProof (g : Grid) (a : Option Addr) (cap : Nat) (s0 : Nat × Nat) (w : World) (hg : Sl rStr w a g) (hG : GridOk g) (hok0 : Ok g s0) : Fn Tryd.prog 38 [.slice a g.length cap, .agg #[vint s0.1, vint s0.2]] w (fun v w1 => v = vstr (roundText g s0) ∧ Keep [] w w1) := by
  by_cases h : OnBeam g s0
  · exact iroundProofN g a cap s0 w hg hG hok0 h
  · exact iroundProofY g a cap s0 w hg hG hok0 h

theorem iProofRoundIs (g : Grid) (a : Option Addr) (cap : Nat) (t : Str) (w : World) (hg : Sl rStr w a g) (hs : Short g) : Fn Tryd.prog 22 [.slice a g.length cap, vstr t] w (fun v w1 => v = .tuple #[vint (roundIs g t).1, .bool (roundIs g t).2] ∧ Keep [] w w1) := by
  refine Fn.enter (n := 38) Tryd.func22 rfl rfl rfl ?_
  show WC _ _ _ _ [(0, .slice a g.length cap), (1, vstr t)] _
  have hH := Hp.start [] w
  refine WC.seq ?_
  refine WC.region ?_
  refine WL.u rfl rfl (Wt.plain rfl) (Ex.assign rfl) ?_
  refine WL.u rfl rfl (Wt.plain rfl) (Ex.assign rfl) ?_
  refine WL.next ?_
  refine WC.seq ?_
  refine WC.seq ?_
  refine WC.region ?_
  refine WL.u rfl rfl (Wt.plain rfl) (Ex.move rfl) ?_
  refine WL.call callable34 rfl (Wt.plain rfl) rfl rfl (iGridIn _ _ _ _ (hg.kept hH.keep) hs) ?_
  rintro _ _ ⟨rfl, hw⟩; obtain rfl := hw.symm
  refine WL.u rfl rfl (Wt.plain rfl) (Ex.not rfl) ?_
  refine WL.u rfl rfl (Wt.plain rfl) (Ex.move rfl) ?_
  refine WL.split (t := 11) rfl (fun hg1_3 => ?_) (fun hg1_3 => ?_)
  · have hg1_3' := hg1_3; try simp only [decide_eq_true_eq, decide_eq_false_iff_not, Bool.not_eq_true', Bool.not_eq_false', Bool.not_eq_true, Bool.not_eq_false] at hg1_3'
    have hno : roundIs g t = (0, false) := roundIs_grid (by simpa using hg1_3)
    refine WL.pass rfl rfl (Wt.guard' rfl rfl rfl hg1_3 rfl) ?_
    refine WL.pass rfl rfl (Wt.guard' rfl rfl rfl hg1_3 rfl) ?_
    refine WL.u rfl rfl (Wt.plain rfl) (Ex.pickT rfl hg1_3 rfl) ?_
    refine WL.next ?_
    refine WC.condT rfl rfl ?_
    refine WC.seq ?_
    refine WC.region ?_
    refine WL.u rfl rfl (Wt.plain rfl) (Ex.assign rfl) ?_
    refine WL.u rfl rfl (Wt.plain rfl) (Ex.assign rfl) ?_
    refine WL.next ?_
    refine WC.ret ?_
    refine WN.retThen ?_
    refine WN.body2 rfl rfl rfl ?_
    exact ⟨by rw [hno], hH.keep⟩
  have hg1_3' := hg1_3; try simp only [decide_eq_true_eq, decide_eq_false_iff_not, Bool.not_eq_true', Bool.not_eq_false', Bool.not_eq_true, Bool.not_eq_false] at hg1_3'
  have hgi : gridIn g = true := by simpa using hg1_3
  have hG := (gridOk_iff g).1 hgi
  have z := hG.sz
  have hc25 := cells_le hG
  refine WL.u rfl rfl (Wt.guard' rfl rfl rfl hg1_3 rfl) (Ex.move rfl) ?_
  refine WL.u rfl rfl (Wt.guard' rfl rfl rfl hg1_3 rfl) (Ex.eqlStr rfl rfl) ?_
  refine WL.u rfl rfl (Wt.plain rfl) (Ex.pickF rfl hg1_3 rfl) ?_
  refine WL.next ?_
  refine WC.cond rfl (fun hc1 => ?_) (fun hc1 => ?_)
  · have hno : roundIs g t = (0, false) := by rw [of_decide_eq_true hc1]; exact roundIs_nil g
    refine WC.seq ?_
    refine WC.region ?_
    refine WL.u rfl rfl (Wt.plain rfl) (Ex.assign rfl) ?_
    refine WL.u rfl rfl (Wt.plain rfl) (Ex.assign rfl) ?_
    refine WL.next ?_
    refine WC.ret ?_
    refine WN.retThen ?_
    refine WN.body2 rfl rfl rfl ?_
    exact ⟨by rw [hno], hH.keep⟩
  have htn : t ≠ [] := of_decide_eq_false hc1
  refine WC.skip ?_
  refine WN.next ?_
  refine WC.seq ?_
  refine WC.seq ?_
  refine WC.region ?_
  refine WL.u rfl rfl (Wt.plain rfl) (Ex.move rfl) ?_
  refine WL.call callable50 rfl (Wt.plain rfl) rfl rfl (icells _ _ _ _ (hg.kept hH.keep) hG) ?_
  rintro _ _ ⟨rfl, hw⟩; obtain rfl := hw.symm
  refine WL.u rfl rfl (Wt.plain rfl) (Ex.move rfl) ?_
  refine WL.next ?_
  refine WC.block ?_
  refine WC.loop (ι := Nat) (fun c => [(0, .slice a g.length cap), (1, vstr t), (16, vint (nR g * nC g : Nat)), (17, vint c)]) (fun c wn => Hp [] w wn [] ∧ (∀ s, Ok g s → s.1 < c → roundText g s ≠ t) ∧ c ≤ nR g * nC g) (fun c => nR g * nC g - c) (0) (by exact ⟨rfl, rfl, rfl, rfl, trivial⟩) ?_ ?_
  · exact ⟨hH, fun s _ h => by omega, Nat.zero_le _⟩
  rintro c wn ⟨hH, hM, hc⟩
  intro mu0 hmu; try dsimp only at hmu
  show WC _ _ _ _ [(0, .slice a g.length cap), (1, vstr t), (16, vint (nR g * nC g : Nat)), (17, vint c)] _
  refine WC.seq ?_
  refine WC.region ?_
  refine WL.u rfl rfl (Wt.plain rfl) (Ex.lss rfl rfl) ?_
  refine WL.next ?_
  refine WC.seq ?_
  refine WC.cond rfl (fun hc2 => ?_) (fun hc2 => ?_)
  · have hc2' := hc2; try simp only [decide_eq_true_eq, decide_eq_false_iff_not, Bool.not_eq_true', Bool.not_eq_false', Bool.not_eq_true, Bool.not_eq_false] at hc2'
    have hlc : c < nR g * nC g := by omega
    refine WC.skip ?_
    refine WN.next ?_
    refine WC.seq ?_
    refine WC.block ?_
    refine WC.seq ?_
    refine WC.region ?_
    refine WL.u rfl rfl (Wt.plain rfl) (Ex.move rfl) ?_
    refine WL.u rfl rfl (Wt.plain rfl) (Ex.assign rfl) ?_
    refine WL.next ?_
    refine WC.seq ?_
    refine WC.region ?_
    refine WL.u rfl rfl (Wt.plain rfl) (Ex.move rfl) ?_
    refine WL.next ?_
    refine WC.block ?_
    refine WC.loop (ι := Nat) (fun d => [(0, .slice a g.length cap), (1, vstr t), (6, vint c), (16, vint (nR g * nC g : Nat)), (17, vint c), (20, vint d)]) (fun d wn => Hp [] w wn [] ∧ (∀ e, e < d → roundText g (c, e) ≠ t) ∧ d ≤ 4) (fun d => 4 - d) (0) (by exact ⟨rfl, rfl, rfl, rfl, rfl, rfl, trivial⟩) ?_ ?_
    · exact ⟨hH, fun e h => by omega, by omega⟩
    rintro d wn ⟨hH, hM2, hd⟩
    intro mu0 hmu; try dsimp only at hmu
    show WC _ _ _ _ [(0, .slice a g.length cap), (1, vstr t), (6, vint c), (16, vint (nR g * nC g : Nat)), (17, vint c), (20, vint d)] _
    refine WC.seq ?_
    refine WC.region ?_
    refine WL.u rfl rfl (Wt.plain rfl) (Ex.lss rfl rfl) ?_
    refine WL.next ?_
    refine WC.seq ?_
    refine WC.cond rfl (fun hc3 => ?_) (fun hc3 => ?_)
    · have hc3' := hc3; try simp only [decide_eq_true_eq, decide_eq_false_iff_not, Bool.not_eq_true', Bool.not_eq_false', Bool.not_eq_true, Bool.not_eq_false] at hc3'
      have hld : d < 4 := by omega
      have hok : Ok g (c, d) := ⟨hlc, hld⟩
      refine WC.skip ?_
      refine WN.next ?_
      refine WC.seq ?_
      refine WC.block ?_
      refine WC.seq ?_
      refine WC.region ?_
      refine WL.u rfl rfl (Wt.plain rfl) (Ex.move rfl) ?_
      refine WL.u rfl rfl (Wt.plain rfl) (Ex.assign rfl) ?_
      refine WL.next ?_
      refine WC.seq ?_
      refine WC.region ?_
      refine WL.u rfl rfl (Wt.plain rfl) (Ex.move rfl) ?_
      refine WL.u rfl rfl (Wt.plain rfl) (Ex.move rfl) ?_
      refine WL.u rfl rfl (Wt.plain rfl) (Ex.move rfl) ?_
      refine WL.u rfl rfl (Wt.plain rfl) (Ex.buildS bd48 rfl rfl rfl rfl rfl) ?_
      refine WL.call callable38 rfl (Wt.plain rfl) rfl rfl (iroundProof g _ _ (c, d) _ (hg.kept hH.keep) hG hok) ?_
      rintro _ wn ⟨rfl, hC⟩; replace hH := hH.call hC; clear hC
      refine WL.u rfl rfl (Wt.plain rfl) (Ex.move rfl) ?_
      refine WL.u rfl rfl (Wt.plain rfl) (Ex.eqlStr rfl rfl) ?_
      refine WL.next ?_
      refine WC.cond rfl (fun hc4 => ?_) (fun hc4 => ?_)
      · have hc4' := hc4; try simp only [decide_eq_true_eq, decide_eq_false_iff_not, Bool.not_eq_true', Bool.not_eq_false', Bool.not_eq_true, Bool.not_eq_false] at hc4'
        have hrt : roundText g (c, d) = t := of_decide_eq_true hc4
        have hcl := ((roundText_parse z hok htn).1 hrt).2
        have hnb := (close_iff z hok).1 hcl
        have hhit := roundIs_hit z hgi hok htn hrt
        refine WC.seq ?_
        refine WC.region ?_
        refine WL.u rfl rfl (Wt.plain rfl) (Ex.move rfl) ?_
        refine WL.u rfl rfl (Wt.plain rfl) (Ex.move rfl) ?_
        refine WL.u rfl rfl (Wt.plain rfl) (Ex.move rfl) ?_
        refine WL.u rfl rfl (Wt.plain rfl) (Ex.buildS bd48 rfl rfl rfl rfl rfl) ?_
        refine WL.call callable51 rfl (Wt.plain rfl) rfl rfl (iroundFrom g _ _ (c, d) _ (hg.kept hH.keep) hG hok hnb) ?_
        rintro _ wn ⟨hC, hN⟩; obtain ⟨b34, cap34, cur34, rfl, hge34, hbb34, ho34⟩ := hN.own; replace hH := hH.push hC hge34 hbb34; clear hC hN
        refine WL.u rfl rfl (Wt.plain rfl) (Ex.lenSl Tryd.underlying61 rfl) ?_
        refine WL.u rfl rfl (Wt.plain rfl) (Ex.assign rfl) ?_
        refine WL.u rfl rfl (Wt.plain rfl) (Ex.assign rfl) ?_
        refine WL.next ?_
        refine WC.ret ?_
        refine WN.retBlock ?_
        refine WN.retThen ?_
        refine WN.retThen ?_
        refine WN.retBlock ?_
        refine WN.retBlock ?_
        refine WN.retThen ?_
        refine WN.retThen ?_
        refine WN.retBlock ?_
        refine WN.retThen ?_
        refine WN.body2 rfl rfl rfl ?_
        exact ⟨by rw [hhit], hH.keep⟩
      have hc4' := hc4; try simp only [decide_eq_true_eq, decide_eq_false_iff_not, Bool.not_eq_true', Bool.not_eq_false', Bool.not_eq_true, Bool.not_eq_false] at hc4'
      refine WC.skip ?_
      refine WN.normalBlock ?_
      refine WN.next ?_
      refine WC.region ?_
      refine WL.u rfl rfl (Wt.plain rfl) (Ex.add rfl rfl (by omega)) ?_
      refine WL.u rfl rfl (Wt.plain rfl) (Ex.move rfl) ?_
      refine WL.last ?_
      refine WN.round (d + 1) (by exact ⟨rfl, rfl, rfl, rfl, rfl, rfl, trivial⟩) ?_ ?_
      · exact ⟨hH, fun e he => by
          by_cases x : e = d
          · rw [x]; exact of_decide_eq_false hc4
          · exact hM2 e (by omega), by omega⟩
      · (try dsimp only); omega
    have hc3' := hc3; try simp only [decide_eq_true_eq, decide_eq_false_iff_not, Bool.not_eq_true', Bool.not_eq_false', Bool.not_eq_true, Bool.not_eq_false] at hc3'
    obtain rfl : d = 4 := by omega
    refine WC.exit ?_
    refine WN.exitThen ?_
    refine WN.exitThen ?_
    refine WN.exitHere ?_
    refine WN.normalBlock ?_
    refine WN.next ?_
    refine WC.region ?_
    refine WL.u rfl rfl (Wt.plain rfl) (Ex.add rfl rfl (by omega)) ?_
    refine WL.u rfl rfl (Wt.plain rfl) (Ex.move rfl) ?_
    refine WL.last ?_
    refine WN.round (c + 1) (by exact ⟨rfl, rfl, rfl, rfl, trivial⟩) ?_ ?_
    · exact ⟨hH, fun s hs he => by
        by_cases x : s.1 = c
        · have := hM2 s.2 hs.d; rw [← x] at this; exact this
        · exact hM s hs (by omega), by omega⟩
    · (try dsimp only); omega
  have hc2' := hc2; try simp only [decide_eq_true_eq, decide_eq_false_iff_not, Bool.not_eq_true', Bool.not_eq_false', Bool.not_eq_true, Bool.not_eq_false] at hc2'
  have hno : roundIs g t = (0, false) := roundIs_miss z htn fun s hs => hM s hs (by have := hs.cell; omega)
  refine WC.exit ?_
  refine WN.exitThen ?_
  refine WN.exitThen ?_
  refine WN.exitHere ?_
  refine WN.next ?_
  refine WC.seq ?_
  refine WC.region ?_
  refine WL.u rfl rfl (Wt.plain rfl) (Ex.assign rfl) ?_
  refine WL.u rfl rfl (Wt.plain rfl) (Ex.assign rfl) ?_
  refine WL.next ?_
  refine WC.ret ?_
  refine WN.body2 rfl rfl rfl ?_
  exact ⟨by rw [hno], hH.keep⟩

end Go.Proofs.YtmhmdlgcdeodmaaDoor

/- Rounds as texts: the reference's. -/
namespace Go.Proofs.YtmhmdlgcdeodmaaDoor
set_option maxRecDepth 100000
set_option linter.unusedSimpArgs false
set_option linter.unusedVariables false
open Go Go.RowKit
theorem waysL_map (L : List (Nat × Nat)) : (L.map (·.2)).map dirL = waysL L := by unfold waysL; rw [List.map_map]; rfl

set_option maxHeartbeats 1000000 in
theorem sl12Number (t : Str) (at0 : Nat) (w : World) (hat : at0 ≤ 1000) : Fn Tryd.prog 55 [vstr t, vint at0] w (fun v w1 => v = .tuple #[vint (numAt t at0).1, vint (numAt t at0).2] ∧ Keep [] w w1) := by
  refine Fn.enter (n := 58) Tryd.func55 rfl rfl rfl ?_
  show WC _ _ _ _ [(0, vstr t), (1, vint at0)] _
  have hH := Hp.start [] w
  refine WC.seq ?_
  refine WC.region ?_
  refine WL.u rfl rfl (Wt.plain rfl) (Ex.assign rfl) ?_
  refine WL.u rfl rfl (Wt.plain rfl) (Ex.assign rfl) ?_
  refine WL.next ?_
  refine WC.seq ?_
  refine WC.region ?_
  refine WL.u rfl rfl (Wt.plain rfl) (Ex.assign rfl) ?_
  refine WL.next ?_
  refine WC.seq ?_
  refine WC.region ?_
  refine WL.u rfl rfl (Wt.plain rfl) (Ex.move rfl) ?_
  refine WL.u rfl rfl (Wt.plain rfl) (Ex.assign rfl) ?_
  refine WL.next ?_
  refine WC.seq ?_
  refine WC.block ?_
  refine WC.loop (ι := Nat) (fun k => [(0, vstr t), (1, vint at0), (6, vint (numK t at0 k)), (7, vint (at0 + k : Nat))]) (fun k wn => Hp [] w wn [] ∧ Dg t at0 k) (fun k => 2 - k) (0) (by exact ⟨rfl, rfl, rfl, rfl, trivial⟩) ?_ ?_
  · exact ⟨hH, Dg.zero t at0⟩
  rintro k wn ⟨hH, hDg⟩
  have hk2 := hDg.k2
  have hln := hDg.len
  have hbd := hDg.bd
  intro mu0 hmu; try dsimp only at hmu
  show WC _ _ _ _ [(0, vstr t), (1, vint at0), (6, vint (numK t at0 k)), (7, vint (at0 + k : Nat))] _
  refine WC.seq ?_
  refine WC.seq ?_
  refine WC.region ?_
  refine WL.u rfl rfl (Wt.plain rfl) (Ex.move rfl) ?_
  refine WL.u rfl rfl (Wt.plain rfl) (Ex.move rfl) ?_
  refine WL.u rfl rfl (Wt.plain rfl) (Ex.lenStr Tryd.underlying9 rfl) ?_
  refine WL.u rfl rfl (Wt.plain rfl) (Ex.lss rfl rfl) ?_
  refine WL.u rfl rfl (Wt.plain rfl) (Ex.move rfl) ?_
  refine WL.split (t := 13) rfl (fun hg3_4 => ?_) (fun hg3_4 => ?_)
  · have hg3_4' := hg3_4; try simp only [decide_eq_true_eq, decide_eq_false_iff_not, Bool.not_eq_true', Bool.not_eq_false', Bool.not_eq_true, Bool.not_eq_false] at hg3_4'
    have hlt : at0 + k < t.length := by have := of_decide_eq_true hg3_4; omega
    refine WL.u rfl rfl (Wt.guard' rfl rfl rfl hg3_4 rfl) (Ex.move rfl) ?_
    refine WL.u rfl rfl (Wt.guard' rfl rfl rfl hg3_4 rfl) (Ex.move rfl) ?_
    refine WL.u rfl rfl (Wt.guard' rfl rfl rfl hg3_4 rfl) (Ex.add rfl rfl (by omega)) ?_
    refine WL.u rfl rfl (Wt.guard' rfl rfl rfl hg3_4 rfl) (Ex.lss rfl rfl) ?_
    refine WL.u rfl rfl (Wt.plain rfl) (Ex.pickT rfl hg3_4 rfl) ?_
    refine WL.u rfl rfl (Wt.plain rfl) (Ex.move rfl) ?_
    refine WL.split (t := 19) rfl (fun hg3_10 => ?_) (fun hg3_10 => ?_)
    · have hg3_10' := hg3_10; try simp only [decide_eq_true_eq, decide_eq_false_iff_not, Bool.not_eq_true', Bool.not_eq_false', Bool.not_eq_true, Bool.not_eq_false] at hg3_10'
      have hk1 : k < 2 := by have := of_decide_eq_true hg3_10; omega
      refine WL.u rfl rfl (Wt.guard' rfl rfl rfl hg3_10 rfl) (Ex.move rfl) ?_
      refine WL.u rfl rfl (Wt.guard' rfl rfl rfl hg3_10 rfl) (Ex.move rfl) ?_
      refine WL.u rfl rfl (Wt.guard' rfl rfl rfl hg3_10 rfl) (Ex.indexStr Tryd.underlying9 rfl rfl (by (try simp only [List.length_cons, List.length_nil]); omega)) ?_
      refine WL.u rfl rfl (Wt.guard' rfl rfl rfl hg3_10 rfl) (Ex.geq rfl rfl) ?_
      refine WL.u rfl rfl (Wt.plain rfl) (Ex.pickT rfl hg3_10 rfl) ?_
      refine WL.u rfl rfl (Wt.plain rfl) (Ex.move rfl) ?_
      refine WL.split (t := 25) rfl (fun hg3_16 => ?_) (fun hg3_16 => ?_)
      · have hg3_16' := hg3_16; try simp only [decide_eq_true_eq, decide_eq_false_iff_not, Bool.not_eq_true', Bool.not_eq_false', Bool.not_eq_true, Bool.not_eq_false] at hg3_16'
        have h48 : 48 ≤ (t.getD (at0 + k) 0).toNat := Int.ofNat_le.1 (of_decide_eq_true hg3_16)
        refine WL.u rfl rfl (Wt.guard' rfl rfl rfl hg3_16 rfl) (Ex.move rfl) ?_
        refine WL.u rfl rfl (Wt.guard' rfl rfl rfl hg3_16 rfl) (Ex.move rfl) ?_
        refine WL.u rfl rfl (Wt.guard' rfl rfl rfl hg3_16 rfl) (Ex.indexStr Tryd.underlying9 rfl rfl (by (try simp only [List.length_cons, List.length_nil]); omega)) ?_
        refine WL.u rfl rfl (Wt.guard' rfl rfl rfl hg3_16 rfl) (Ex.leq rfl rfl) ?_
        refine WL.u rfl rfl (Wt.plain rfl) (Ex.pickT rfl hg3_16 rfl) ?_
        refine WL.next ?_
        refine WC.cond rfl (fun hc1 => ?_) (fun hc1 => ?_)
        · have hc1' := hc1; try simp only [decide_eq_true_eq, decide_eq_false_iff_not, Bool.not_eq_true', Bool.not_eq_false', Bool.not_eq_true, Bool.not_eq_false] at hc1'
          have hdg : digB (t.getD (at0 + k) 0) = true := digB_iff.2 ⟨by omega, Int.ofNat_le.1 (of_decide_eq_true hc1)⟩
          have hbd1 := hDg.bd1 hk1
          have hd9 := dig_bd hdg
          have hsub := subDig hdg
          have hcv := wrapI64 (show (t.getD (at0 + k) 0).toNat - 48 ≤ 1000000 by omega)
          have hnx := hDg.next hlt hk1 hdg
          refine WC.skip ?_
          refine WN.next ?_
          refine WC.block ?_
          refine WC.seq ?_
          refine WC.region ?_
          refine WL.u rfl rfl (Wt.plain rfl) (Ex.move rfl) ?_
          refine WL.u rfl rfl (Wt.plain rfl) (Ex.mul rfl rfl (by omega)) ?_
          refine WL.u rfl rfl (Wt.plain rfl) (Ex.move rfl) ?_
          refine WL.u rfl rfl (Wt.plain rfl) (Ex.move rfl) ?_
          refine WL.u rfl rfl (Wt.plain rfl) (Ex.indexStr Tryd.underlying9 rfl rfl (by (try simp only [List.length_cons, List.length_nil]); omega)) ?_
          refine WL.u rfl rfl (Wt.plain rfl) ((Ex.subW rfl rfl).to (congrArg (Value.int IntKind.u8) hsub)) ?_
          refine WL.u rfl rfl (Wt.plain rfl) (Ex.conv' Tryd.underlying3 Tryd.underlying5 rfl hcv) ?_
          refine WL.u rfl rfl (Wt.plain rfl) (Ex.add rfl rfl (by omega)) ?_
          refine WL.u rfl rfl (Wt.plain rfl) (Ex.assign rfl) ?_
          refine WL.next ?_
          refine WC.region ?_
          refine WL.u rfl rfl (Wt.plain rfl) (Ex.move rfl) ?_
          refine WL.u rfl rfl (Wt.plain rfl) (Ex.add rfl rfl (by omega)) ?_
          refine WL.u rfl rfl (Wt.plain rfl) (Ex.assign rfl) ?_
          refine WL.last ?_
          refine WN.normalBlock ?_
          refine WN.round (k + 1) (by exact ⟨rfl, rfl, congrArg (fun x : Int => some (vint x)) (show _ = ((numK t at0 (k + 1) : Nat) : Int) by simp only [numK]; omega), congrArg (fun x : Int => some (vint x)) (show _ = ((at0 + (k + 1) : Nat) : Int) by omega), trivial⟩) ?_ ?_
          · exact ⟨hH, hnx⟩
          · (try dsimp only); omega
        have hc1' := hc1; try simp only [decide_eq_true_eq, decide_eq_false_iff_not, Bool.not_eq_true', Bool.not_eq_false', Bool.not_eq_true, Bool.not_eq_false] at hc1'
        have hx : Stop t at0 k := .inr (.inr (by
          cases e : digB (t.getD (at0 + k) 0) with
          | false => rfl
          | true => exact absurd (Int.ofNat_le.2 (digB_iff.1 e).2) (of_decide_eq_false hc1)))
        refine WC.exit ?_
        refine WN.exitThen ?_
        refine WN.exitThen ?_
        refine WN.exitHere ?_
        refine WN.next ?_
        refine WC.seq ?_
        refine WC.seq ?_
        refine WC.region ?_
        refine WL.u rfl rfl (Wt.plain rfl) (Ex.move rfl) ?_
        refine WL.u rfl rfl (Wt.plain rfl) (Ex.move rfl) ?_
        refine WL.u rfl rfl (Wt.plain rfl) (Ex.eql rfl rfl) ?_
        refine WL.u rfl rfl (Wt.plain rfl) (Ex.move rfl) ?_
        refine WL.split (t := 44) rfl (fun hg6_3 => ?_) (fun hg6_3 => ?_)
        · have hg6_3' := hg6_3; try simp only [decide_eq_true_eq, decide_eq_false_iff_not, Bool.not_eq_true', Bool.not_eq_false', Bool.not_eq_true, Bool.not_eq_false] at hg6_3'
          have hk0 : k = 0 := by have := of_decide_eq_true hg6_3; omega
          subst hk0
          have hnum := Dg.none hx
          refine WL.pass rfl rfl (Wt.guard' rfl rfl rfl hg6_3 rfl) ?_
          refine WL.pass rfl rfl (Wt.guard' rfl rfl rfl hg6_3 rfl) ?_
          refine WL.pass rfl rfl (Wt.guard' rfl rfl rfl hg6_3 rfl) ?_
          refine WL.pass rfl rfl (Wt.guard' rfl rfl rfl hg6_3 rfl) ?_
          refine WL.pass rfl rfl (Wt.guard' rfl rfl rfl hg6_3 rfl) ?_
          refine WL.pass rfl rfl (Wt.undef rfl rfl rfl) ?_
          refine WL.pass rfl rfl (Wt.undef rfl rfl rfl) ?_
          refine WL.pass rfl rfl (Wt.undef rfl rfl rfl) ?_
          refine WL.pass rfl rfl (Wt.undef rfl rfl rfl) ?_
          refine WL.pass rfl rfl (Wt.guard' rfl rfl rfl hg6_3 rfl) ?_
          refine WL.u rfl rfl (Wt.plain rfl) (Ex.pickT rfl hg6_3 rfl) ?_
          refine WL.next ?_
          refine WC.condT rfl rfl ?_
          refine WC.seq ?_
          refine WC.region ?_
          refine WL.u rfl rfl (Wt.plain rfl) (Ex.assign rfl) ?_
          refine WL.u rfl rfl (Wt.plain rfl) (Ex.assign rfl) ?_
          refine WL.next ?_
          refine WC.ret ?_
          refine WN.retThen ?_
          refine WN.body2 rfl rfl rfl ?_
          exact ⟨by rw [hnum] <;> rfl, hH.keep⟩
        have hg6_3' := hg6_3; try simp only [decide_eq_true_eq, decide_eq_false_iff_not, Bool.not_eq_true', Bool.not_eq_false', Bool.not_eq_true, Bool.not_eq_false] at hg6_3'
        have hk0 : 0 < k := by have := of_decide_eq_false hg6_3; omega
        refine WL.u rfl rfl (Wt.guard' rfl rfl rfl hg6_3 rfl) (Ex.move rfl) ?_
        refine WL.u rfl rfl (Wt.guard' rfl rfl rfl hg6_3 rfl) (Ex.move rfl) ?_
        refine WL.u rfl rfl (Wt.guard' rfl rfl rfl hg6_3 rfl) (Ex.indexStr Tryd.underlying9 rfl rfl (by (try simp only [List.length_cons, List.length_nil]); omega)) ?_
        refine WL.u rfl rfl (Wt.guard' rfl rfl rfl hg6_3 rfl) (Ex.eql rfl rfl) ?_
        refine WL.u rfl rfl (Wt.guard' rfl rfl rfl hg6_3 rfl) (Ex.move rfl) ?_
        refine WL.split (t := 49) rfl (fun hg6_8 => ?_) (fun hg6_8 => ?_)
        · have hg6_8' := hg6_8; try simp only [decide_eq_true_eq, decide_eq_false_iff_not, Bool.not_eq_true', Bool.not_eq_false', Bool.not_eq_true, Bool.not_eq_false] at hg6_8'
          have hz48 : t.getD at0 0 = 48 := (u8eq _ 48 (by decide)).1 (of_decide_eq_true hg6_8)
          refine WL.u rfl rfl (Wt.guard' rfl rfl rfl hg6_8 rfl) (Ex.move rfl) ?_
          refine WL.u rfl rfl (Wt.guard' rfl rfl rfl hg6_8 rfl) (Ex.move rfl) ?_
          refine WL.u rfl rfl (Wt.guard' rfl rfl rfl hg6_8 rfl) (Ex.add rfl rfl (by omega)) ?_
          refine WL.u rfl rfl (Wt.guard' rfl rfl rfl hg6_8 rfl) (Ex.gtr rfl rfl) ?_
          refine WL.u rfl rfl (Wt.guard' rfl rfl rfl hg6_3 rfl) (Ex.pickT rfl hg6_8 rfl) ?_
          refine WL.u rfl rfl (Wt.plain rfl) (Ex.pickF rfl hg6_3 rfl) ?_
          refine WL.next ?_
          refine WC.cond rfl (fun hc2 => ?_) (fun hc2 => ?_)
          · have hc2' := hc2; try simp only [decide_eq_true_eq, decide_eq_false_iff_not, Bool.not_eq_true', Bool.not_eq_false', Bool.not_eq_true, Bool.not_eq_false] at hc2'
            have hnum := hDg.bad (by have := of_decide_eq_true hc2; omega) hz48
            refine WC.seq ?_
            refine WC.region ?_
            refine WL.u rfl rfl (Wt.plain rfl) (Ex.assign rfl) ?_
            refine WL.u rfl rfl (Wt.plain rfl) (Ex.assign rfl) ?_
            refine WL.next ?_
            refine WC.ret ?_
            refine WN.retThen ?_
            refine WN.body2 rfl rfl rfl ?_
            exact ⟨by rw [hnum] <;> rfl, hH.keep⟩
          have hc2' := hc2; try simp only [decide_eq_true_eq, decide_eq_false_iff_not, Bool.not_eq_true', Bool.not_eq_false', Bool.not_eq_true, Bool.not_eq_false] at hc2'
          have hnum := hDg.good hx hk0 (.inl (by have := of_decide_eq_false hc2; omega))
          refine WC.skip ?_
          refine WN.next ?_
          refine WC.seq ?_
          refine WC.region ?_
          refine WL.u rfl rfl (Wt.plain rfl) (Ex.move rfl) ?_
          refine WL.u rfl rfl (Wt.plain rfl) (Ex.move rfl) ?_
          refine WL.u rfl rfl (Wt.plain rfl) (Ex.assign rfl) ?_
          refine WL.u rfl rfl (Wt.plain rfl) (Ex.assign rfl) ?_
          refine WL.next ?_
          refine WC.ret ?_
          refine WN.body2 rfl rfl rfl ?_
          exact ⟨by rw [hnum] <;> rfl, hH.keep⟩
        have hg6_8' := hg6_8; try simp only [decide_eq_true_eq, decide_eq_false_iff_not, Bool.not_eq_true', Bool.not_eq_false', Bool.not_eq_true, Bool.not_eq_false] at hg6_8'
        have hnum := hDg.good hx hk0 (.inr (fun e => of_decide_eq_false hg6_8 ((u8eq _ 48 (by decide)).2 e)))
        refine WL.pass rfl rfl (Wt.guard' rfl rfl rfl hg6_8 rfl) ?_
        refine WL.pass rfl rfl (Wt.guard' rfl rfl rfl hg6_8 rfl) ?_
        refine WL.pass rfl rfl (Wt.guard' rfl rfl rfl hg6_8 rfl) ?_
        refine WL.pass rfl rfl (Wt.guard' rfl rfl rfl hg6_8 rfl) ?_
        refine WL.u rfl rfl (Wt.guard' rfl rfl rfl hg6_3 rfl) (Ex.pickF rfl hg6_8 rfl) ?_
        refine WL.u rfl rfl (Wt.plain rfl) (Ex.pickF rfl hg6_3 rfl) ?_
        refine WL.next ?_
        refine WC.condF rfl rfl ?_
        refine WC.skip ?_
        refine WN.next ?_
        refine WC.seq ?_
        refine WC.region ?_
        refine WL.u rfl rfl (Wt.plain rfl) (Ex.move rfl) ?_
        refine WL.u rfl rfl (Wt.plain rfl) (Ex.move rfl) ?_
        refine WL.u rfl rfl (Wt.plain rfl) (Ex.assign rfl) ?_
        refine WL.u rfl rfl (Wt.plain rfl) (Ex.assign rfl) ?_
        refine WL.next ?_
        refine WC.ret ?_
        refine WN.body2 rfl rfl rfl ?_
        exact ⟨by rw [hnum] <;> rfl, hH.keep⟩
      have hg3_16' := hg3_16; try simp only [decide_eq_true_eq, decide_eq_false_iff_not, Bool.not_eq_true', Bool.not_eq_false', Bool.not_eq_true, Bool.not_eq_false] at hg3_16'
      have hx : Stop t at0 k := .inr (.inr (by
        cases e : digB (t.getD (at0 + k) 0) with
        | false => rfl
        | true => exact absurd (Int.ofNat_le.2 (digB_iff.1 e).1) (of_decide_eq_false hg3_16)))
      refine WL.pass rfl rfl (Wt.guard' rfl rfl rfl hg3_16 rfl) ?_
      refine WL.pass rfl rfl (Wt.guard' rfl rfl rfl hg3_16 rfl) ?_
      refine WL.pass rfl rfl (Wt.guard' rfl rfl rfl hg3_16 rfl) ?_
      refine WL.pass rfl rfl (Wt.guard' rfl rfl rfl hg3_16 rfl) ?_
      refine WL.u rfl rfl (Wt.plain rfl) (Ex.pickF rfl hg3_16 rfl) ?_
      refine WL.next ?_
      refine WC.condF rfl rfl ?_
      refine WC.exit ?_
      refine WN.exitThen ?_
      refine WN.exitThen ?_
      refine WN.exitHere ?_
      refine WN.next ?_
      refine WC.seq ?_
      refine WC.seq ?_
      refine WC.region ?_
      refine WL.u rfl rfl (Wt.plain rfl) (Ex.move rfl) ?_
      refine WL.u rfl rfl (Wt.plain rfl) (Ex.move rfl) ?_
      refine WL.u rfl rfl (Wt.plain rfl) (Ex.eql rfl rfl) ?_
      refine WL.u rfl rfl (Wt.plain rfl) (Ex.move rfl) ?_
      refine WL.split (t := 44) rfl (fun hg6_3 => ?_) (fun hg6_3 => ?_)
      · have hg6_3' := hg6_3; try simp only [decide_eq_true_eq, decide_eq_false_iff_not, Bool.not_eq_true', Bool.not_eq_false', Bool.not_eq_true, Bool.not_eq_false] at hg6_3'
        have hk0 : k = 0 := by have := of_decide_eq_true hg6_3; omega
        subst hk0
        have hnum := Dg.none hx
        refine WL.pass rfl rfl (Wt.guard' rfl rfl rfl hg6_3 rfl) ?_
        refine WL.pass rfl rfl (Wt.guard' rfl rfl rfl hg6_3 rfl) ?_
        refine WL.pass rfl rfl (Wt.guard' rfl rfl rfl hg6_3 rfl) ?_
        refine WL.pass rfl rfl (Wt.guard' rfl rfl rfl hg6_3 rfl) ?_
        refine WL.pass rfl rfl (Wt.guard' rfl rfl rfl hg6_3 rfl) ?_
        refine WL.pass rfl rfl (Wt.undef rfl rfl rfl) ?_
        refine WL.pass rfl rfl (Wt.undef rfl rfl rfl) ?_
        refine WL.pass rfl rfl (Wt.undef rfl rfl rfl) ?_
        refine WL.pass rfl rfl (Wt.undef rfl rfl rfl) ?_
        refine WL.pass rfl rfl (Wt.guard' rfl rfl rfl hg6_3 rfl) ?_
        refine WL.u rfl rfl (Wt.plain rfl) (Ex.pickT rfl hg6_3 rfl) ?_
        refine WL.next ?_
        refine WC.condT rfl rfl ?_
        refine WC.seq ?_
        refine WC.region ?_
        refine WL.u rfl rfl (Wt.plain rfl) (Ex.assign rfl) ?_
        refine WL.u rfl rfl (Wt.plain rfl) (Ex.assign rfl) ?_
        refine WL.next ?_
        refine WC.ret ?_
        refine WN.retThen ?_
        refine WN.body2 rfl rfl rfl ?_
        exact ⟨by rw [hnum] <;> rfl, hH.keep⟩
      have hg6_3' := hg6_3; try simp only [decide_eq_true_eq, decide_eq_false_iff_not, Bool.not_eq_true', Bool.not_eq_false', Bool.not_eq_true, Bool.not_eq_false] at hg6_3'
      have hk0 : 0 < k := by have := of_decide_eq_false hg6_3; omega
      refine WL.u rfl rfl (Wt.guard' rfl rfl rfl hg6_3 rfl) (Ex.move rfl) ?_
      refine WL.u rfl rfl (Wt.guard' rfl rfl rfl hg6_3 rfl) (Ex.move rfl) ?_
      refine WL.u rfl rfl (Wt.guard' rfl rfl rfl hg6_3 rfl) (Ex.indexStr Tryd.underlying9 rfl rfl (by (try simp only [List.length_cons, List.length_nil]); omega)) ?_
      refine WL.u rfl rfl (Wt.guard' rfl rfl rfl hg6_3 rfl) (Ex.eql rfl rfl) ?_
      refine WL.u rfl rfl (Wt.guard' rfl rfl rfl hg6_3 rfl) (Ex.move rfl) ?_
      refine WL.split (t := 49) rfl (fun hg6_8 => ?_) (fun hg6_8 => ?_)
      · have hg6_8' := hg6_8; try simp only [decide_eq_true_eq, decide_eq_false_iff_not, Bool.not_eq_true', Bool.not_eq_false', Bool.not_eq_true, Bool.not_eq_false] at hg6_8'
        have hz48 : t.getD at0 0 = 48 := (u8eq _ 48 (by decide)).1 (of_decide_eq_true hg6_8)
        refine WL.u rfl rfl (Wt.guard' rfl rfl rfl hg6_8 rfl) (Ex.move rfl) ?_
        refine WL.u rfl rfl (Wt.guard' rfl rfl rfl hg6_8 rfl) (Ex.move rfl) ?_
        refine WL.u rfl rfl (Wt.guard' rfl rfl rfl hg6_8 rfl) (Ex.add rfl rfl (by omega)) ?_
        refine WL.u rfl rfl (Wt.guard' rfl rfl rfl hg6_8 rfl) (Ex.gtr rfl rfl) ?_
        refine WL.u rfl rfl (Wt.guard' rfl rfl rfl hg6_3 rfl) (Ex.pickT rfl hg6_8 rfl) ?_
        refine WL.u rfl rfl (Wt.plain rfl) (Ex.pickF rfl hg6_3 rfl) ?_
        refine WL.next ?_
        refine WC.cond rfl (fun hc2 => ?_) (fun hc2 => ?_)
        · have hc2' := hc2; try simp only [decide_eq_true_eq, decide_eq_false_iff_not, Bool.not_eq_true', Bool.not_eq_false', Bool.not_eq_true, Bool.not_eq_false] at hc2'
          have hnum := hDg.bad (by have := of_decide_eq_true hc2; omega) hz48
          refine WC.seq ?_
          refine WC.region ?_
          refine WL.u rfl rfl (Wt.plain rfl) (Ex.assign rfl) ?_
          refine WL.u rfl rfl (Wt.plain rfl) (Ex.assign rfl) ?_
          refine WL.next ?_
          refine WC.ret ?_
          refine WN.retThen ?_
          refine WN.body2 rfl rfl rfl ?_
          exact ⟨by rw [hnum] <;> rfl, hH.keep⟩
        have hc2' := hc2; try simp only [decide_eq_true_eq, decide_eq_false_iff_not, Bool.not_eq_true', Bool.not_eq_false', Bool.not_eq_true, Bool.not_eq_false] at hc2'
        have hnum := hDg.good hx hk0 (.inl (by have := of_decide_eq_false hc2; omega))
        refine WC.skip ?_
        refine WN.next ?_
        refine WC.seq ?_
        refine WC.region ?_
        refine WL.u rfl rfl (Wt.plain rfl) (Ex.move rfl) ?_
        refine WL.u rfl rfl (Wt.plain rfl) (Ex.move rfl) ?_
        refine WL.u rfl rfl (Wt.plain rfl) (Ex.assign rfl) ?_
        refine WL.u rfl rfl (Wt.plain rfl) (Ex.assign rfl) ?_
        refine WL.next ?_
        refine WC.ret ?_
        refine WN.body2 rfl rfl rfl ?_
        exact ⟨by rw [hnum] <;> rfl, hH.keep⟩
      have hg6_8' := hg6_8; try simp only [decide_eq_true_eq, decide_eq_false_iff_not, Bool.not_eq_true', Bool.not_eq_false', Bool.not_eq_true, Bool.not_eq_false] at hg6_8'
      have hnum := hDg.good hx hk0 (.inr (fun e => of_decide_eq_false hg6_8 ((u8eq _ 48 (by decide)).2 e)))
      refine WL.pass rfl rfl (Wt.guard' rfl rfl rfl hg6_8 rfl) ?_
      refine WL.pass rfl rfl (Wt.guard' rfl rfl rfl hg6_8 rfl) ?_
      refine WL.pass rfl rfl (Wt.guard' rfl rfl rfl hg6_8 rfl) ?_
      refine WL.pass rfl rfl (Wt.guard' rfl rfl rfl hg6_8 rfl) ?_
      refine WL.u rfl rfl (Wt.guard' rfl rfl rfl hg6_3 rfl) (Ex.pickF rfl hg6_8 rfl) ?_
      refine WL.u rfl rfl (Wt.plain rfl) (Ex.pickF rfl hg6_3 rfl) ?_
      refine WL.next ?_
      refine WC.condF rfl rfl ?_
      refine WC.skip ?_
      refine WN.next ?_
      refine WC.seq ?_
      refine WC.region ?_
      refine WL.u rfl rfl (Wt.plain rfl) (Ex.move rfl) ?_
      refine WL.u rfl rfl (Wt.plain rfl) (Ex.move rfl) ?_
      refine WL.u rfl rfl (Wt.plain rfl) (Ex.assign rfl) ?_
      refine WL.u rfl rfl (Wt.plain rfl) (Ex.assign rfl) ?_
      refine WL.next ?_
      refine WC.ret ?_
      refine WN.body2 rfl rfl rfl ?_
      exact ⟨by rw [hnum] <;> rfl, hH.keep⟩
    have hg3_10' := hg3_10; try simp only [decide_eq_true_eq, decide_eq_false_iff_not, Bool.not_eq_true', Bool.not_eq_false', Bool.not_eq_true, Bool.not_eq_false] at hg3_10'
    have hx : Stop t at0 k := .inr (.inl (by have := of_decide_eq_false hg3_10; omega))
    refine WL.pass rfl rfl (Wt.guard' rfl rfl rfl hg3_10 rfl) ?_
    refine WL.pass rfl rfl (Wt.guard' rfl rfl rfl hg3_10 rfl) ?_
    refine WL.pass rfl rfl (Wt.guard' rfl rfl rfl hg3_10 rfl) ?_
    refine WL.pass rfl rfl (Wt.guard' rfl rfl rfl hg3_10 rfl) ?_
    refine WL.u rfl rfl (Wt.plain rfl) (Ex.pickF rfl hg3_10 rfl) ?_
    refine WL.u rfl rfl (Wt.plain rfl) (Ex.move rfl) ?_
    refine WL.pass rfl rfl (Wt.guard' rfl rfl rfl rfl rfl) ?_
    refine WL.pass rfl rfl (Wt.guard' rfl rfl rfl rfl rfl) ?_
    refine WL.pass rfl rfl (Wt.guard' rfl rfl rfl rfl rfl) ?_
    refine WL.pass rfl rfl (Wt.guard' rfl rfl rfl rfl rfl) ?_
    refine WL.u rfl rfl (Wt.plain rfl) (Ex.pickF rfl rfl rfl) ?_
    refine WL.next ?_
    refine WC.condF rfl rfl ?_
    refine WC.exit ?_
    refine WN.exitThen ?_
    refine WN.exitThen ?_
    refine WN.exitHere ?_
    refine WN.next ?_
    refine WC.seq ?_
    refine WC.seq ?_
    refine WC.region ?_
    refine WL.u rfl rfl (Wt.plain rfl) (Ex.move rfl) ?_
    refine WL.u rfl rfl (Wt.plain rfl) (Ex.move rfl) ?_
    refine WL.u rfl rfl (Wt.plain rfl) (Ex.eql rfl rfl) ?_
    refine WL.u rfl rfl (Wt.plain rfl) (Ex.move rfl) ?_
    refine WL.split (t := 44) rfl (fun hg6_3 => ?_) (fun hg6_3 => ?_)
    · have hg6_3' := hg6_3; try simp only [decide_eq_true_eq, decide_eq_false_iff_not, Bool.not_eq_true', Bool.not_eq_false', Bool.not_eq_true, Bool.not_eq_false] at hg6_3'
      have hk0 : k = 0 := by have := of_decide_eq_true hg6_3; omega
      subst hk0
      have hnum := Dg.none hx
      refine WL.pass rfl rfl (Wt.guard' rfl rfl rfl hg6_3 rfl) ?_
      refine WL.pass rfl rfl (Wt.guard' rfl rfl rfl hg6_3 rfl) ?_
      refine WL.pass rfl rfl (Wt.guard' rfl rfl rfl hg6_3 rfl) ?_
      refine WL.pass rfl rfl (Wt.guard' rfl rfl rfl hg6_3 rfl) ?_
      refine WL.pass rfl rfl (Wt.guard' rfl rfl rfl hg6_3 rfl) ?_
      refine WL.pass rfl rfl (Wt.undef rfl rfl rfl) ?_
      refine WL.pass rfl rfl (Wt.undef rfl rfl rfl) ?_
      refine WL.pass rfl rfl (Wt.undef rfl rfl rfl) ?_
      refine WL.pass rfl rfl (Wt.undef rfl rfl rfl) ?_
      refine WL.pass rfl rfl (Wt.guard' rfl rfl rfl hg6_3 rfl) ?_
      refine WL.u rfl rfl (Wt.plain rfl) (Ex.pickT rfl hg6_3 rfl) ?_
      refine WL.next ?_
      refine WC.condT rfl rfl ?_
      refine WC.seq ?_
      refine WC.region ?_
      refine WL.u rfl rfl (Wt.plain rfl) (Ex.assign rfl) ?_
      refine WL.u rfl rfl (Wt.plain rfl) (Ex.assign rfl) ?_
      refine WL.next ?_
      refine WC.ret ?_
      refine WN.retThen ?_
      refine WN.body2 rfl rfl rfl ?_
      exact ⟨by rw [hnum] <;> rfl, hH.keep⟩
    have hg6_3' := hg6_3; try simp only [decide_eq_true_eq, decide_eq_false_iff_not, Bool.not_eq_true', Bool.not_eq_false', Bool.not_eq_true, Bool.not_eq_false] at hg6_3'
    have hk0 : 0 < k := by have := of_decide_eq_false hg6_3; omega
    refine WL.u rfl rfl (Wt.guard' rfl rfl rfl hg6_3 rfl) (Ex.move rfl) ?_
    refine WL.u rfl rfl (Wt.guard' rfl rfl rfl hg6_3 rfl) (Ex.move rfl) ?_
    refine WL.u rfl rfl (Wt.guard' rfl rfl rfl hg6_3 rfl) (Ex.indexStr Tryd.underlying9 rfl rfl (by (try simp only [List.length_cons, List.length_nil]); omega)) ?_
    refine WL.u rfl rfl (Wt.guard' rfl rfl rfl hg6_3 rfl) (Ex.eql rfl rfl) ?_
    refine WL.u rfl rfl (Wt.guard' rfl rfl rfl hg6_3 rfl) (Ex.move rfl) ?_
    refine WL.split (t := 49) rfl (fun hg6_8 => ?_) (fun hg6_8 => ?_)
    · have hg6_8' := hg6_8; try simp only [decide_eq_true_eq, decide_eq_false_iff_not, Bool.not_eq_true', Bool.not_eq_false', Bool.not_eq_true, Bool.not_eq_false] at hg6_8'
      have hz48 : t.getD at0 0 = 48 := (u8eq _ 48 (by decide)).1 (of_decide_eq_true hg6_8)
      refine WL.u rfl rfl (Wt.guard' rfl rfl rfl hg6_8 rfl) (Ex.move rfl) ?_
      refine WL.u rfl rfl (Wt.guard' rfl rfl rfl hg6_8 rfl) (Ex.move rfl) ?_
      refine WL.u rfl rfl (Wt.guard' rfl rfl rfl hg6_8 rfl) (Ex.add rfl rfl (by omega)) ?_
      refine WL.u rfl rfl (Wt.guard' rfl rfl rfl hg6_8 rfl) (Ex.gtr rfl rfl) ?_
      refine WL.u rfl rfl (Wt.guard' rfl rfl rfl hg6_3 rfl) (Ex.pickT rfl hg6_8 rfl) ?_
      refine WL.u rfl rfl (Wt.plain rfl) (Ex.pickF rfl hg6_3 rfl) ?_
      refine WL.next ?_
      refine WC.cond rfl (fun hc2 => ?_) (fun hc2 => ?_)
      · have hc2' := hc2; try simp only [decide_eq_true_eq, decide_eq_false_iff_not, Bool.not_eq_true', Bool.not_eq_false', Bool.not_eq_true, Bool.not_eq_false] at hc2'
        have hnum := hDg.bad (by have := of_decide_eq_true hc2; omega) hz48
        refine WC.seq ?_
        refine WC.region ?_
        refine WL.u rfl rfl (Wt.plain rfl) (Ex.assign rfl) ?_
        refine WL.u rfl rfl (Wt.plain rfl) (Ex.assign rfl) ?_
        refine WL.next ?_
        refine WC.ret ?_
        refine WN.retThen ?_
        refine WN.body2 rfl rfl rfl ?_
        exact ⟨by rw [hnum] <;> rfl, hH.keep⟩
      have hc2' := hc2; try simp only [decide_eq_true_eq, decide_eq_false_iff_not, Bool.not_eq_true', Bool.not_eq_false', Bool.not_eq_true, Bool.not_eq_false] at hc2'
      have hnum := hDg.good hx hk0 (.inl (by have := of_decide_eq_false hc2; omega))
      refine WC.skip ?_
      refine WN.next ?_
      refine WC.seq ?_
      refine WC.region ?_
      refine WL.u rfl rfl (Wt.plain rfl) (Ex.move rfl) ?_
      refine WL.u rfl rfl (Wt.plain rfl) (Ex.move rfl) ?_
      refine WL.u rfl rfl (Wt.plain rfl) (Ex.assign rfl) ?_
      refine WL.u rfl rfl (Wt.plain rfl) (Ex.assign rfl) ?_
      refine WL.next ?_
      refine WC.ret ?_
      refine WN.body2 rfl rfl rfl ?_
      exact ⟨by rw [hnum] <;> rfl, hH.keep⟩
    have hg6_8' := hg6_8; try simp only [decide_eq_true_eq, decide_eq_false_iff_not, Bool.not_eq_true', Bool.not_eq_false', Bool.not_eq_true, Bool.not_eq_false] at hg6_8'
    have hnum := hDg.good hx hk0 (.inr (fun e => of_decide_eq_false hg6_8 ((u8eq _ 48 (by decide)).2 e)))
    refine WL.pass rfl rfl (Wt.guard' rfl rfl rfl hg6_8 rfl) ?_
    refine WL.pass rfl rfl (Wt.guard' rfl rfl rfl hg6_8 rfl) ?_
    refine WL.pass rfl rfl (Wt.guard' rfl rfl rfl hg6_8 rfl) ?_
    refine WL.pass rfl rfl (Wt.guard' rfl rfl rfl hg6_8 rfl) ?_
    refine WL.u rfl rfl (Wt.guard' rfl rfl rfl hg6_3 rfl) (Ex.pickF rfl hg6_8 rfl) ?_
    refine WL.u rfl rfl (Wt.plain rfl) (Ex.pickF rfl hg6_3 rfl) ?_
    refine WL.next ?_
    refine WC.condF rfl rfl ?_
    refine WC.skip ?_
    refine WN.next ?_
    refine WC.seq ?_
    refine WC.region ?_
    refine WL.u rfl rfl (Wt.plain rfl) (Ex.move rfl) ?_
    refine WL.u rfl rfl (Wt.plain rfl) (Ex.move rfl) ?_
    refine WL.u rfl rfl (Wt.plain rfl) (Ex.assign rfl) ?_
    refine WL.u rfl rfl (Wt.plain rfl) (Ex.assign rfl) ?_
    refine WL.next ?_
    refine WC.ret ?_
    refine WN.body2 rfl rfl rfl ?_
    exact ⟨by rw [hnum] <;> rfl, hH.keep⟩
  have hg3_4' := hg3_4; try simp only [decide_eq_true_eq, decide_eq_false_iff_not, Bool.not_eq_true', Bool.not_eq_false', Bool.not_eq_true, Bool.not_eq_false] at hg3_4'
  have hx : Stop t at0 k := .inl (by have := of_decide_eq_false hg3_4; omega)
  refine WL.pass rfl rfl (Wt.guard' rfl rfl rfl hg3_4 rfl) ?_
  refine WL.pass rfl rfl (Wt.guard' rfl rfl rfl hg3_4 rfl) ?_
  refine WL.pass rfl rfl (Wt.guard' rfl rfl rfl hg3_4 rfl) ?_
  refine WL.pass rfl rfl (Wt.guard' rfl rfl rfl hg3_4 rfl) ?_
  refine WL.u rfl rfl (Wt.plain rfl) (Ex.pickF rfl hg3_4 rfl) ?_
  refine WL.u rfl rfl (Wt.plain rfl) (Ex.move rfl) ?_
  refine WL.pass rfl rfl (Wt.guard' rfl rfl rfl rfl rfl) ?_
  refine WL.pass rfl rfl (Wt.guard' rfl rfl rfl rfl rfl) ?_
  refine WL.pass rfl rfl (Wt.guard' rfl rfl rfl rfl rfl) ?_
  refine WL.pass rfl rfl (Wt.guard' rfl rfl rfl rfl rfl) ?_
  refine WL.u rfl rfl (Wt.plain rfl) (Ex.pickF rfl rfl rfl) ?_
  refine WL.u rfl rfl (Wt.plain rfl) (Ex.move rfl) ?_
  refine WL.pass rfl rfl (Wt.guard' rfl rfl rfl rfl rfl) ?_
  refine WL.pass rfl rfl (Wt.guard' rfl rfl rfl rfl rfl) ?_
  refine WL.pass rfl rfl (Wt.guard' rfl rfl rfl rfl rfl) ?_
  refine WL.pass rfl rfl (Wt.guard' rfl rfl rfl rfl rfl) ?_
  refine WL.u rfl rfl (Wt.plain rfl) (Ex.pickF rfl rfl rfl) ?_
  refine WL.next ?_
  refine WC.condF rfl rfl ?_
  refine WC.exit ?_
  refine WN.exitThen ?_
  refine WN.exitThen ?_
  refine WN.exitHere ?_
  refine WN.next ?_
  refine WC.seq ?_
  refine WC.seq ?_
  refine WC.region ?_
  refine WL.u rfl rfl (Wt.plain rfl) (Ex.move rfl) ?_
  refine WL.u rfl rfl (Wt.plain rfl) (Ex.move rfl) ?_
  refine WL.u rfl rfl (Wt.plain rfl) (Ex.eql rfl rfl) ?_
  refine WL.u rfl rfl (Wt.plain rfl) (Ex.move rfl) ?_
  refine WL.split (t := 44) rfl (fun hg6_3 => ?_) (fun hg6_3 => ?_)
  · have hg6_3' := hg6_3; try simp only [decide_eq_true_eq, decide_eq_false_iff_not, Bool.not_eq_true', Bool.not_eq_false', Bool.not_eq_true, Bool.not_eq_false] at hg6_3'
    have hk0 : k = 0 := by have := of_decide_eq_true hg6_3; omega
    subst hk0
    have hnum := Dg.none hx
    refine WL.pass rfl rfl (Wt.guard' rfl rfl rfl hg6_3 rfl) ?_
    refine WL.pass rfl rfl (Wt.guard' rfl rfl rfl hg6_3 rfl) ?_
    refine WL.pass rfl rfl (Wt.guard' rfl rfl rfl hg6_3 rfl) ?_
    refine WL.pass rfl rfl (Wt.guard' rfl rfl rfl hg6_3 rfl) ?_
    refine WL.pass rfl rfl (Wt.guard' rfl rfl rfl hg6_3 rfl) ?_
    refine WL.pass rfl rfl (Wt.undef rfl rfl rfl) ?_
    refine WL.pass rfl rfl (Wt.undef rfl rfl rfl) ?_
    refine WL.pass rfl rfl (Wt.undef rfl rfl rfl) ?_
    refine WL.pass rfl rfl (Wt.undef rfl rfl rfl) ?_
    refine WL.pass rfl rfl (Wt.guard' rfl rfl rfl hg6_3 rfl) ?_
    refine WL.u rfl rfl (Wt.plain rfl) (Ex.pickT rfl hg6_3 rfl) ?_
    refine WL.next ?_
    refine WC.condT rfl rfl ?_
    refine WC.seq ?_
    refine WC.region ?_
    refine WL.u rfl rfl (Wt.plain rfl) (Ex.assign rfl) ?_
    refine WL.u rfl rfl (Wt.plain rfl) (Ex.assign rfl) ?_
    refine WL.next ?_
    refine WC.ret ?_
    refine WN.retThen ?_
    refine WN.body2 rfl rfl rfl ?_
    exact ⟨by rw [hnum] <;> rfl, hH.keep⟩
  have hg6_3' := hg6_3; try simp only [decide_eq_true_eq, decide_eq_false_iff_not, Bool.not_eq_true', Bool.not_eq_false', Bool.not_eq_true, Bool.not_eq_false] at hg6_3'
  have hk0 : 0 < k := by have := of_decide_eq_false hg6_3; omega
  refine WL.u rfl rfl (Wt.guard' rfl rfl rfl hg6_3 rfl) (Ex.move rfl) ?_
  refine WL.u rfl rfl (Wt.guard' rfl rfl rfl hg6_3 rfl) (Ex.move rfl) ?_
  refine WL.u rfl rfl (Wt.guard' rfl rfl rfl hg6_3 rfl) (Ex.indexStr Tryd.underlying9 rfl rfl (by (try simp only [List.length_cons, List.length_nil]); omega)) ?_
  refine WL.u rfl rfl (Wt.guard' rfl rfl rfl hg6_3 rfl) (Ex.eql rfl rfl) ?_
  refine WL.u rfl rfl (Wt.guard' rfl rfl rfl hg6_3 rfl) (Ex.move rfl) ?_
  refine WL.split (t := 49) rfl (fun hg6_8 => ?_) (fun hg6_8 => ?_)
  · have hg6_8' := hg6_8; try simp only [decide_eq_true_eq, decide_eq_false_iff_not, Bool.not_eq_true', Bool.not_eq_false', Bool.not_eq_true, Bool.not_eq_false] at hg6_8'
    have hz48 : t.getD at0 0 = 48 := (u8eq _ 48 (by decide)).1 (of_decide_eq_true hg6_8)
    refine WL.u rfl rfl (Wt.guard' rfl rfl rfl hg6_8 rfl) (Ex.move rfl) ?_
    refine WL.u rfl rfl (Wt.guard' rfl rfl rfl hg6_8 rfl) (Ex.move rfl) ?_
    refine WL.u rfl rfl (Wt.guard' rfl rfl rfl hg6_8 rfl) (Ex.add rfl rfl (by omega)) ?_
    refine WL.u rfl rfl (Wt.guard' rfl rfl rfl hg6_8 rfl) (Ex.gtr rfl rfl) ?_
    refine WL.u rfl rfl (Wt.guard' rfl rfl rfl hg6_3 rfl) (Ex.pickT rfl hg6_8 rfl) ?_
    refine WL.u rfl rfl (Wt.plain rfl) (Ex.pickF rfl hg6_3 rfl) ?_
    refine WL.next ?_
    refine WC.cond rfl (fun hc2 => ?_) (fun hc2 => ?_)
    · have hc2' := hc2; try simp only [decide_eq_true_eq, decide_eq_false_iff_not, Bool.not_eq_true', Bool.not_eq_false', Bool.not_eq_true, Bool.not_eq_false] at hc2'
      have hnum := hDg.bad (by have := of_decide_eq_true hc2; omega) hz48
      refine WC.seq ?_
      refine WC.region ?_
      refine WL.u rfl rfl (Wt.plain rfl) (Ex.assign rfl) ?_
      refine WL.u rfl rfl (Wt.plain rfl) (Ex.assign rfl) ?_
      refine WL.next ?_
      refine WC.ret ?_
      refine WN.retThen ?_
      refine WN.body2 rfl rfl rfl ?_
      exact ⟨by rw [hnum] <;> rfl, hH.keep⟩
    have hc2' := hc2; try simp only [decide_eq_true_eq, decide_eq_false_iff_not, Bool.not_eq_true', Bool.not_eq_false', Bool.not_eq_true, Bool.not_eq_false] at hc2'
    have hnum := hDg.good hx hk0 (.inl (by have := of_decide_eq_false hc2; omega))
    refine WC.skip ?_
    refine WN.next ?_
    refine WC.seq ?_
    refine WC.region ?_
    refine WL.u rfl rfl (Wt.plain rfl) (Ex.move rfl) ?_
    refine WL.u rfl rfl (Wt.plain rfl) (Ex.move rfl) ?_
    refine WL.u rfl rfl (Wt.plain rfl) (Ex.assign rfl) ?_
    refine WL.u rfl rfl (Wt.plain rfl) (Ex.assign rfl) ?_
    refine WL.next ?_
    refine WC.ret ?_
    refine WN.body2 rfl rfl rfl ?_
    exact ⟨by rw [hnum] <;> rfl, hH.keep⟩
  have hg6_8' := hg6_8; try simp only [decide_eq_true_eq, decide_eq_false_iff_not, Bool.not_eq_true', Bool.not_eq_false', Bool.not_eq_true, Bool.not_eq_false] at hg6_8'
  have hnum := hDg.good hx hk0 (.inr (fun e => of_decide_eq_false hg6_8 ((u8eq _ 48 (by decide)).2 e)))
  refine WL.pass rfl rfl (Wt.guard' rfl rfl rfl hg6_8 rfl) ?_
  refine WL.pass rfl rfl (Wt.guard' rfl rfl rfl hg6_8 rfl) ?_
  refine WL.pass rfl rfl (Wt.guard' rfl rfl rfl hg6_8 rfl) ?_
  refine WL.pass rfl rfl (Wt.guard' rfl rfl rfl hg6_8 rfl) ?_
  refine WL.u rfl rfl (Wt.guard' rfl rfl rfl hg6_3 rfl) (Ex.pickF rfl hg6_8 rfl) ?_
  refine WL.u rfl rfl (Wt.plain rfl) (Ex.pickF rfl hg6_3 rfl) ?_
  refine WL.next ?_
  refine WC.condF rfl rfl ?_
  refine WC.skip ?_
  refine WN.next ?_
  refine WC.seq ?_
  refine WC.region ?_
  refine WL.u rfl rfl (Wt.plain rfl) (Ex.move rfl) ?_
  refine WL.u rfl rfl (Wt.plain rfl) (Ex.move rfl) ?_
  refine WL.u rfl rfl (Wt.plain rfl) (Ex.assign rfl) ?_
  refine WL.u rfl rfl (Wt.plain rfl) (Ex.assign rfl) ?_
  refine WL.next ?_
  refine WC.ret ?_
  refine WN.body2 rfl rfl rfl ?_
  exact ⟨by rw [hnum] <;> rfl, hH.keep⟩

set_option maxHeartbeats 1000000 in
theorem sProofRoundIs (g : Grid) (a : Option Addr) (cap : Nat) (t : Str) (w : World) (hg : Sl rStr w a g) (hs : Short g) : Fn Tryd.prog 26 [.slice a g.length cap, vstr t] w (fun v w1 => v = .tuple #[vint (roundIs g t).1, .bool (roundIs g t).2] ∧ Keep [] w w1) := by
  refine Fn.enter (n := 88) Tryd.func26 rfl rfl rfl ?_
  show WC _ _ _ _ [(0, .slice a g.length cap), (1, vstr t)] _
  have hH := Hp.start [] w
  refine WC.seq ?_
  refine WC.region ?_
  refine WL.u rfl rfl (Wt.plain rfl) (Ex.assign rfl) ?_
  refine WL.u rfl rfl (Wt.plain rfl) (Ex.assign rfl) ?_
  refine WL.next ?_
  refine WC.seq ?_
  refine WC.region ?_
  refine WL.u rfl rfl (Wt.plain rfl) (Ex.assign rfl) ?_
  refine WL.next ?_
  refine WC.seq ?_
  refine WC.seq ?_
  refine WC.region ?_
  refine WL.u rfl rfl (Wt.plain rfl) (Ex.move rfl) ?_
  refine WL.call callable36 rfl (Wt.plain rfl) rfl rfl (sGridIn _ _ _ _ (hg.kept hH.keep) hs) ?_
  rintro _ wn ⟨rfl, hC⟩; replace hH := hH.dr hC; clear hC
  refine WL.u rfl rfl (Wt.plain rfl) (Ex.not rfl) ?_
  refine WL.u rfl rfl (Wt.plain rfl) (Ex.move rfl) ?_
  refine WL.split (t := 16) rfl (fun hg2_3 => ?_) (fun hg2_3 => ?_)
  · have hg2_3' := hg2_3; try simp only [decide_eq_true_eq, decide_eq_false_iff_not, Bool.not_eq_true', Bool.not_eq_false', Bool.not_eq_true, Bool.not_eq_false] at hg2_3'
    have hno : roundIs g t = (0, false) := roundIs_grid (by simpa using hg2_3)
    refine WL.pass rfl rfl (Wt.guard' rfl rfl rfl hg2_3 rfl) ?_
    refine WL.pass rfl rfl (Wt.guard' rfl rfl rfl hg2_3 rfl) ?_
    refine WL.pass rfl rfl (Wt.guard' rfl rfl rfl hg2_3 rfl) ?_
    refine WL.pass rfl rfl (Wt.guard' rfl rfl rfl hg2_3 rfl) ?_
    refine WL.pass rfl rfl (Wt.guard' rfl rfl rfl hg2_3 rfl) ?_
    refine WL.u rfl rfl (Wt.plain rfl) (Ex.pickT rfl hg2_3 rfl) ?_
    refine WL.u rfl rfl (Wt.plain rfl) (Ex.move rfl) ?_
    refine WL.pass rfl rfl (Wt.guard' rfl rfl rfl rfl rfl) ?_
    refine WL.pass rfl rfl (Wt.guard' rfl rfl rfl rfl rfl) ?_
    refine WL.pass rfl rfl (Wt.guard' rfl rfl rfl rfl rfl) ?_
    refine WL.pass rfl rfl (Wt.guard' rfl rfl rfl rfl rfl) ?_
    refine WL.pass rfl rfl (Wt.guard' rfl rfl rfl rfl rfl) ?_
    refine WL.pass rfl rfl (Wt.guard' rfl rfl rfl rfl rfl) ?_
    refine WL.u rfl rfl (Wt.plain rfl) (Ex.pickT rfl rfl rfl) ?_
    refine WL.next ?_
    refine WC.condT rfl rfl ?_
    refine WC.seq ?_
    refine WC.region ?_
    refine WL.u rfl rfl (Wt.plain rfl) (Ex.assign rfl) ?_
    refine WL.u rfl rfl (Wt.plain rfl) (Ex.assign rfl) ?_
    refine WL.next ?_
    refine WC.ret ?_
    refine WN.retThen ?_
    refine WN.body2 rfl rfl rfl ?_
    exact ⟨by rw [hno], hH.keep⟩
  have hg2_3' := hg2_3; try simp only [decide_eq_true_eq, decide_eq_false_iff_not, Bool.not_eq_true', Bool.not_eq_false', Bool.not_eq_true, Bool.not_eq_false] at hg2_3'
  have hgi : gridIn g = true := by simpa using hg2_3
  have hG := (gridOk_iff g).1 hgi
  have z := hG.sz
  have hn1 := hG.n1
  have hn5 := hG.n5
  have hm5 := hG.m5
  have hcl := cells_le hG
  obtain ⟨b, off, rfl⟩ := hg.addr (show 0 < g.length from hG.n1)
  have hmI : (g.length : Int) * ((g.getD 0 []).length : Int) = ((nR g * nC g : Nat) : Int) := (Int.natCast_mul _ _).symm
  refine WL.u rfl rfl (Wt.guard' rfl rfl rfl hg2_3 rfl) (Ex.move rfl) ?_
  refine WL.u rfl rfl (Wt.guard' rfl rfl rfl hg2_3 rfl) (Ex.lenStr Tryd.underlying9 rfl) ?_
  refine WL.u rfl rfl (Wt.guard' rfl rfl rfl hg2_3 rfl) (Ex.move rfl) ?_
  refine WL.u rfl rfl (Wt.guard' rfl rfl rfl hg2_3 rfl) (Ex.lenStr Tryd.underlying9 rfl) ?_
  refine WL.u rfl rfl (Wt.guard' rfl rfl rfl hg2_3 rfl) (Ex.lss rfl rfl) ?_
  refine WL.u rfl rfl (Wt.plain rfl) (Ex.pickF rfl hg2_3 rfl) ?_
  refine WL.u rfl rfl (Wt.plain rfl) (Ex.move rfl) ?_
  refine WL.split (t := 23) rfl (fun hg2_10 => ?_) (fun hg2_10 => ?_)
  · have hg2_10' := hg2_10; try simp only [decide_eq_true_eq, decide_eq_false_iff_not, Bool.not_eq_true', Bool.not_eq_false', Bool.not_eq_true, Bool.not_eq_false] at hg2_10'
    have hno : roundIs g t = (0, false) := roundIs_no (parse_no6 (.inl (by have := of_decide_eq_true hg2_10; simp only [List.length_cons, List.length_nil] at this; omega)))
    refine WL.pass rfl rfl (Wt.guard' rfl rfl rfl hg2_10 rfl) ?_
    refine WL.pass rfl rfl (Wt.guard' rfl rfl rfl hg2_10 rfl) ?_
    refine WL.pass rfl rfl (Wt.guard' rfl rfl rfl hg2_10 rfl) ?_
    refine WL.pass rfl rfl (Wt.guard' rfl rfl rfl hg2_10 rfl) ?_
    refine WL.pass rfl rfl (Wt.guard' rfl rfl rfl hg2_10 rfl) ?_
    refine WL.pass rfl rfl (Wt.guard' rfl rfl rfl hg2_10 rfl) ?_
    refine WL.u rfl rfl (Wt.plain rfl) (Ex.pickT rfl hg2_10 rfl) ?_
    refine WL.next ?_
    refine WC.condT rfl rfl ?_
    refine WC.seq ?_
    refine WC.region ?_
    refine WL.u rfl rfl (Wt.plain rfl) (Ex.assign rfl) ?_
    refine WL.u rfl rfl (Wt.plain rfl) (Ex.assign rfl) ?_
    refine WL.next ?_
    refine WC.ret ?_
    refine WN.retThen ?_
    refine WN.body2 rfl rfl rfl ?_
    exact ⟨by rw [hno], hH.keep⟩
  have hg2_10' := hg2_10; try simp only [decide_eq_true_eq, decide_eq_false_iff_not, Bool.not_eq_true', Bool.not_eq_false', Bool.not_eq_true, Bool.not_eq_false] at hg2_10'
  have hl6 : 6 ≤ t.length := by have := of_decide_eq_false hg2_10; simp only [List.length_cons, List.length_nil] at this; omega
  refine WL.u rfl rfl (Wt.guard' rfl rfl rfl hg2_10 rfl) (Ex.move rfl) ?_
  refine WL.u rfl rfl (Wt.guard' rfl rfl rfl hg2_10 rfl) (Ex.move rfl) ?_
  refine WL.u rfl rfl (Wt.guard' rfl rfl rfl hg2_10 rfl) (Ex.lenStr Tryd.underlying9 rfl) ?_
  refine WL.u rfl rfl (Wt.guard' rfl rfl rfl hg2_10 rfl) ((Ex.sliceStrTo Tryd.underlying9 rfl rfl (by simp only [List.length_cons, List.length_nil]; omega)).to (congrArg vstr (show _ = t.take 6 from rfl))) ?_
  refine WL.u rfl rfl (Wt.guard' rfl rfl rfl hg2_10 rfl) (Ex.move rfl) ?_
  refine WL.u rfl rfl (Wt.guard' rfl rfl rfl hg2_10 rfl) (Ex.neqStr rfl rfl) ?_
  refine WL.u rfl rfl (Wt.plain rfl) (Ex.pickF rfl hg2_10 rfl) ?_
  refine WL.next ?_
  refine WC.cond rfl (fun hc1 => ?_) (fun hc1 => ?_)
  · have hno : roundIs g t = (0, false) := roundIs_no (parse_no6 (.inr fun e => by rw [e] at hc1; exact absurd hc1 (by decide)))
    refine WC.seq ?_
    refine WC.region ?_
    refine WL.u rfl rfl (Wt.plain rfl) (Ex.assign rfl) ?_
    refine WL.u rfl rfl (Wt.plain rfl) (Ex.assign rfl) ?_
    refine WL.next ?_
    refine WC.ret ?_
    refine WN.retThen ?_
    refine WN.body2 rfl rfl rfl ?_
    exact ⟨by rw [hno], hH.keep⟩
  have h6 : t.take 6 = rnd := by have h := hc1; simp at h; exact h
  refine WC.skip ?_
  refine WN.next ?_
  refine WC.seq ?_
  refine WC.region ?_
  refine WL.u rfl rfl (Wt.plain rfl) (Ex.move rfl) ?_
  refine WL.u rfl rfl (Wt.plain rfl) (Ex.move rfl) ?_
  refine WL.u rfl rfl (Wt.plain rfl) (Ex.lenStr Tryd.underlying9 rfl) ?_
  refine WL.call callable55 rfl (Wt.plain rfl) rfl rfl (sl12Number t 6 _ (by omega)) ?_
  rintro _ wn ⟨rfl, hC⟩; replace hH := hH.call hC; clear hC
  refine WL.u rfl rfl (Wt.plain rfl) (Ex.move rfl) ?_
  refine WL.u rfl rfl (Wt.plain rfl) (Ex.extract rfl rfl) ?_
  refine WL.u rfl rfl (Wt.plain rfl) (Ex.extract rfl rfl) ?_
  refine WL.u rfl rfl (Wt.plain rfl) (Ex.assign rfl) ?_
  refine WL.u rfl rfl (Wt.plain rfl) (Ex.assign rfl) ?_
  refine WL.next ?_
  refine WC.seq ?_
  refine WC.seq ?_
  have hne := num_end (s := t) (a := 6)
  refine WC.region ?_
  refine WL.u rfl rfl (Wt.plain rfl) (Ex.move rfl) ?_
  refine WL.u rfl rfl (Wt.plain rfl) (Ex.eql rfl rfl) ?_
  refine WL.u rfl rfl (Wt.plain rfl) (Ex.move rfl) ?_
  refine WL.split (t := 40) rfl (fun hg5_2 => ?_) (fun hg5_2 => ?_)
  · have hg5_2' := hg5_2; try simp only [decide_eq_true_eq, decide_eq_false_iff_not, Bool.not_eq_true', Bool.not_eq_false', Bool.not_eq_true, Bool.not_eq_false] at hg5_2'
    have hno : roundIs g t = (0, false) := roundIs_no (parse_noN (.inl (by have := of_decide_eq_true hg5_2; omega)))
    refine WL.pass rfl rfl (Wt.guard' rfl rfl rfl hg5_2 rfl) ?_
    refine WL.pass rfl rfl (Wt.guard' rfl rfl rfl hg5_2 rfl) ?_
    refine WL.pass rfl rfl (Wt.guard' rfl rfl rfl hg5_2 rfl) ?_
    refine WL.pass rfl rfl (Wt.guard' rfl rfl rfl hg5_2 rfl) ?_
    refine WL.pass rfl rfl (Wt.guard' rfl rfl rfl hg5_2 rfl) ?_
    refine WL.pass rfl rfl (Wt.guard' rfl rfl rfl hg5_2 rfl) ?_
    refine WL.pass rfl rfl (Wt.guard' rfl rfl rfl hg5_2 rfl) ?_
    refine WL.pass rfl rfl (Wt.guard' rfl rfl rfl hg5_2 rfl) ?_
    refine WL.pass rfl rfl (Wt.guard' rfl rfl rfl hg5_2 rfl) ?_
    refine WL.u rfl rfl (Wt.plain rfl) (Ex.pickT rfl hg5_2 rfl) ?_
    refine WL.u rfl rfl (Wt.plain rfl) (Ex.move rfl) ?_
    refine WL.pass rfl rfl (Wt.guard' rfl rfl rfl rfl rfl) ?_
    refine WL.pass rfl rfl (Wt.guard' rfl rfl rfl rfl rfl) ?_
    refine WL.pass rfl rfl (Wt.guard' rfl rfl rfl rfl rfl) ?_
    refine WL.pass rfl rfl (Wt.guard' rfl rfl rfl rfl rfl) ?_
    refine WL.pass rfl rfl (Wt.guard' rfl rfl rfl rfl rfl) ?_
    refine WL.u rfl rfl (Wt.plain rfl) (Ex.pickT rfl rfl rfl) ?_
    refine WL.u rfl rfl (Wt.plain rfl) (Ex.move rfl) ?_
    refine WL.pass rfl rfl (Wt.guard' rfl rfl rfl rfl rfl) ?_
    refine WL.pass rfl rfl (Wt.guard' rfl rfl rfl rfl rfl) ?_
    refine WL.pass rfl rfl (Wt.guard' rfl rfl rfl rfl rfl) ?_
    refine WL.pass rfl rfl (Wt.guard' rfl rfl rfl rfl rfl) ?_
    refine WL.u rfl rfl (Wt.plain rfl) (Ex.pickT rfl rfl rfl) ?_
    refine WL.next ?_
    refine WC.condT rfl rfl ?_
    refine WC.seq ?_
    refine WC.region ?_
    refine WL.u rfl rfl (Wt.plain rfl) (Ex.assign rfl) ?_
    refine WL.u rfl rfl (Wt.plain rfl) (Ex.assign rfl) ?_
    refine WL.next ?_
    refine WC.ret ?_
    refine WN.retThen ?_
    refine WN.body2 rfl rfl rfl ?_
    exact ⟨by rw [hno], hH.keep⟩
  have hg5_2' := hg5_2; try simp only [decide_eq_true_eq, decide_eq_false_iff_not, Bool.not_eq_true', Bool.not_eq_false', Bool.not_eq_true, Bool.not_eq_false] at hg5_2'
  have hat : (numAt t 6).2 ≤ t.length ∧ 6 < (numAt t 6).2 ∧ (numAt t 6).1 < 100 ∧ (numAt t 6).2 ≤ 6 + 2 := by
    have := of_decide_eq_false hg5_2
    rcases hne with h | h
    · omega
    · exact h
  refine WL.u rfl rfl (Wt.guard' rfl rfl rfl hg5_2 rfl) (Ex.move rfl) ?_
  refine WL.u rfl rfl (Wt.guard' rfl rfl rfl hg5_2 rfl) (Ex.move rfl) ?_
  refine WL.u rfl rfl (Wt.guard' rfl rfl rfl hg5_2 rfl) (Ex.lenSl Tryd.underlying23 rfl) ?_
  refine WL.u rfl rfl (Wt.guard' rfl rfl rfl hg5_2 rfl) (Ex.move rfl) ?_
  refine WL.u rfl rfl (Wt.guard' rfl rfl rfl hg5_2 rfl) (Ex.indexAddr Tryd.underlying23 ty9 rfl rfl (by omega)) ?_
  refine WL.u rfl rfl (Wt.guard' rfl rfl rfl hg5_2 rfl) (Ex.loadSl flat9 (hg.kept hH.keep) rfl rfl (getD_get g 0 [] (by omega))) ?_
  refine WL.u rfl rfl (Wt.guard' rfl rfl rfl hg5_2 rfl) (Ex.lenStr Tryd.underlying9 rfl) ?_
  refine WL.u rfl rfl (Wt.guard' rfl rfl rfl hg5_2 rfl) ((Ex.mul rfl rfl (by rw [hmI]; omega)).to (congrArg (Value.int IntKind.i64) hmI)) ?_
  refine WL.u rfl rfl (Wt.guard' rfl rfl rfl hg5_2 rfl) (Ex.geq rfl rfl) ?_
  refine WL.u rfl rfl (Wt.plain rfl) (Ex.pickF rfl hg5_2 rfl) ?_
  refine WL.u rfl rfl (Wt.plain rfl) (Ex.move rfl) ?_
  refine WL.split (t := 51) rfl (fun hg5_13 => ?_) (fun hg5_13 => ?_)
  · have hg5_13' := hg5_13; try simp only [decide_eq_true_eq, decide_eq_false_iff_not, Bool.not_eq_true', Bool.not_eq_false', Bool.not_eq_true, Bool.not_eq_false] at hg5_13'
    have hno : roundIs g t = (0, false) := roundIs_big (by have := of_decide_eq_true hg5_13; omega)
    refine WL.pass rfl rfl (Wt.guard' rfl rfl rfl hg5_13 rfl) ?_
    refine WL.pass rfl rfl (Wt.guard' rfl rfl rfl hg5_13 rfl) ?_
    refine WL.pass rfl rfl (Wt.guard' rfl rfl rfl hg5_13 rfl) ?_
    refine WL.pass rfl rfl (Wt.guard' rfl rfl rfl hg5_13 rfl) ?_
    refine WL.pass rfl rfl (Wt.guard' rfl rfl rfl hg5_13 rfl) ?_
    refine WL.u rfl rfl (Wt.plain rfl) (Ex.pickT rfl hg5_13 rfl) ?_
    refine WL.u rfl rfl (Wt.plain rfl) (Ex.move rfl) ?_
    refine WL.pass rfl rfl (Wt.guard' rfl rfl rfl rfl rfl) ?_
    refine WL.pass rfl rfl (Wt.guard' rfl rfl rfl rfl rfl) ?_
    refine WL.pass rfl rfl (Wt.guard' rfl rfl rfl rfl rfl) ?_
    refine WL.pass rfl rfl (Wt.guard' rfl rfl rfl rfl rfl) ?_
    refine WL.u rfl rfl (Wt.plain rfl) (Ex.pickT rfl rfl rfl) ?_
    refine WL.next ?_
    refine WC.condT rfl rfl ?_
    refine WC.seq ?_
    refine WC.region ?_
    refine WL.u rfl rfl (Wt.plain rfl) (Ex.assign rfl) ?_
    refine WL.u rfl rfl (Wt.plain rfl) (Ex.assign rfl) ?_
    refine WL.next ?_
    refine WC.ret ?_
    refine WN.retThen ?_
    refine WN.body2 rfl rfl rfl ?_
    exact ⟨by rw [hno], hH.keep⟩
  have hg5_13' := hg5_13; try simp only [decide_eq_true_eq, decide_eq_false_iff_not, Bool.not_eq_true', Bool.not_eq_false', Bool.not_eq_true, Bool.not_eq_false] at hg5_13'
  have hlc : (numAt t 6).1 < nR g * nC g := by have := of_decide_eq_false hg5_13; omega
  refine WL.u rfl rfl (Wt.guard' rfl rfl rfl hg5_13 rfl) (Ex.move rfl) ?_
  refine WL.u rfl rfl (Wt.guard' rfl rfl rfl hg5_13 rfl) (Ex.add rfl rfl (by omega)) ?_
  refine WL.u rfl rfl (Wt.guard' rfl rfl rfl hg5_13 rfl) (Ex.move rfl) ?_
  refine WL.u rfl rfl (Wt.guard' rfl rfl rfl hg5_13 rfl) (Ex.lenStr Tryd.underlying9 rfl) ?_
  refine WL.u rfl rfl (Wt.guard' rfl rfl rfl hg5_13 rfl) (Ex.geq rfl rfl) ?_
  refine WL.u rfl rfl (Wt.plain rfl) (Ex.pickF rfl hg5_13 rfl) ?_
  refine WL.u rfl rfl (Wt.plain rfl) (Ex.move rfl) ?_
  refine WL.split (t := 58) rfl (fun hg5_20 => ?_) (fun hg5_20 => ?_)
  · have hg5_20' := hg5_20; try simp only [decide_eq_true_eq, decide_eq_false_iff_not, Bool.not_eq_true', Bool.not_eq_false', Bool.not_eq_true, Bool.not_eq_false] at hg5_20'
    have hno : roundIs g t = (0, false) := roundIs_no (parse_noN (.inr (.inl (by have := of_decide_eq_true hg5_20; omega))))
    refine WL.pass rfl rfl (Wt.guard' rfl rfl rfl hg5_20 rfl) ?_
    refine WL.pass rfl rfl (Wt.guard' rfl rfl rfl hg5_20 rfl) ?_
    refine WL.pass rfl rfl (Wt.guard' rfl rfl rfl hg5_20 rfl) ?_
    refine WL.pass rfl rfl (Wt.guard' rfl rfl rfl hg5_20 rfl) ?_
    refine WL.u rfl rfl (Wt.plain rfl) (Ex.pickT rfl hg5_20 rfl) ?_
    refine WL.next ?_
    refine WC.condT rfl rfl ?_
    refine WC.seq ?_
    refine WC.region ?_
    refine WL.u rfl rfl (Wt.plain rfl) (Ex.assign rfl) ?_
    refine WL.u rfl rfl (Wt.plain rfl) (Ex.assign rfl) ?_
    refine WL.next ?_
    refine WC.ret ?_
    refine WN.retThen ?_
    refine WN.body2 rfl rfl rfl ?_
    exact ⟨by rw [hno], hH.keep⟩
  have hg5_20' := hg5_20; try simp only [decide_eq_true_eq, decide_eq_false_iff_not, Bool.not_eq_true', Bool.not_eq_false', Bool.not_eq_true, Bool.not_eq_false] at hg5_20'
  have hle : (numAt t 6).2 + 1 < t.length := by have := of_decide_eq_false hg5_20; omega
  refine WL.u rfl rfl (Wt.guard' rfl rfl rfl hg5_20 rfl) (Ex.move rfl) ?_
  refine WL.u rfl rfl (Wt.guard' rfl rfl rfl hg5_20 rfl) (Ex.move rfl) ?_
  refine WL.u rfl rfl (Wt.guard' rfl rfl rfl hg5_20 rfl) (Ex.indexStr Tryd.underlying9 rfl rfl (by (try simp only [List.length_cons, List.length_nil]); omega)) ?_
  refine WL.u rfl rfl (Wt.guard' rfl rfl rfl hg5_20 rfl) (Ex.neq rfl rfl) ?_
  refine WL.u rfl rfl (Wt.plain rfl) (Ex.pickF rfl hg5_20 rfl) ?_
  refine WL.next ?_
  refine WC.cond rfl (fun hc2 => ?_) (fun hc2 => ?_)
  · have hno : roundIs g t = (0, false) := roundIs_no (parse_noN (.inr (.inr (fun e => of_decide_eq_true hc2 ((u8eq _ 32 (by decide)).2 e)))))
    refine WC.seq ?_
    refine WC.region ?_
    refine WL.u rfl rfl (Wt.plain rfl) (Ex.assign rfl) ?_
    refine WL.u rfl rfl (Wt.plain rfl) (Ex.assign rfl) ?_
    refine WL.next ?_
    refine WC.ret ?_
    refine WN.retThen ?_
    refine WN.body2 rfl rfl rfl ?_
    exact ⟨by rw [hno], hH.keep⟩
  have h32 : t.getD (numAt t 6).2 0 = 32 := (u8eq _ 32 (by decide)).1 (Classical.not_not.1 (of_decide_eq_false hc2))
  have hp := parse_yes h6 (fun e => by
    rcases e with e | e | e
    · omega
    · omega
    · exact e h32)
  refine WC.skip ?_
  refine WN.next ?_
  refine WC.seq ?_
  refine WC.seq ?_
  refine WC.region ?_
  refine WL.u rfl rfl (Wt.plain rfl) (Ex.assign rfl) ?_
  refine WL.next ?_
  refine WC.block ?_
  refine WC.loop (ι := Nat) (fun d => [(0, .slice (some ⟨b, off, none⟩) g.length cap), (1, vstr t), (7, vint (numAt t 6).1), (8, vint (numAt t 6).2), (9, vint d)]) (fun d wn => Hp [] w wn [] ∧ (∀ e, e < d → tellsB g (numAt t 6).1 (t.drop ((numAt t 6).2 + 1)) e = false) ∧ d ≤ 4) (fun d => 4 - d) (0) (by exact ⟨rfl, rfl, rfl, rfl, rfl, trivial⟩) ?_ ?_
  · exact ⟨hH, fun e he => by omega, by omega⟩
  rintro d wn ⟨hH, hM, hd⟩
  intro mu0 hmu; try dsimp only at hmu
  show WC _ _ _ _ [(0, .slice (some ⟨b, off, none⟩) g.length cap), (1, vstr t), (7, vint (numAt t 6).1), (8, vint (numAt t 6).2), (9, vint d)] _
  refine WC.seq ?_
  refine WC.seq ?_
  refine WC.region ?_
  refine WL.u rfl rfl (Wt.plain rfl) (Ex.move rfl) ?_
  refine WL.u rfl rfl (Wt.plain rfl) (Ex.lss rfl rfl) ?_
  refine WL.next ?_
  refine WC.cond rfl (fun hc3 => ?_) (fun hc3 => ?_)
  · have hc3' := hc3; try simp only [decide_eq_true_eq, decide_eq_false_iff_not, Bool.not_eq_true', Bool.not_eq_false', Bool.not_eq_true, Bool.not_eq_false] at hc3'
    have hld : d < 4 := by omega
    have hok : Ok g ((numAt t 6).1, d) := ⟨hlc, hld⟩
    have hcok := close_ok z hok
    have hcll := close_len g ((numAt t 6).1, d)
    refine WC.skip ?_
    refine WN.next ?_
    refine WC.seq ?_
    refine WC.block ?_
    refine WC.seq ?_
    refine WC.region ?_
    refine WL.u rfl rfl (Wt.plain rfl) (Ex.move rfl) ?_
    refine WL.u rfl rfl (Wt.plain rfl) (Ex.move rfl) ?_
    refine WL.u rfl rfl (Wt.plain rfl) (Ex.move rfl) ?_
    refine WL.call callable47 rfl (Wt.plain rfl) rfl rfl (sl3Close g _ _ ((numAt t 6).1, d) _ (hg.kept hH.keep) hG hok) ?_
    rintro _ wn ⟨x, y, rfl, hC, hN1, hN2⟩; obtain ⟨b73, cap73, cur73, rfl, hge73, hbb73, ho73⟩ := hN1.own; obtain ⟨b74, cap74, cur74, rfl, hge74, hbb74, ho74⟩ := hN2.own; replace hH := hH.push hC hge74 hbb74; clear hC hN1 hN2
    refine WL.u rfl rfl (Wt.plain rfl) (Ex.move rfl) ?_
    refine WL.u rfl rfl (Wt.plain rfl) (Ex.extract rfl rfl) ?_
    refine WL.u rfl rfl (Wt.plain rfl) (Ex.extract rfl rfl) ?_
    refine WL.u rfl rfl (Wt.plain rfl) (Ex.extract rfl rfl) ?_
    refine WL.u rfl rfl (Wt.plain rfl) (Ex.assign rfl) ?_
    refine WL.u rfl rfl (Wt.plain rfl) (Ex.assign rfl) ?_
    refine WL.u rfl rfl (Wt.plain rfl) (Ex.assign rfl) ?_
    refine WL.next ?_
    refine WC.seq ?_
    refine WC.quietK rfl (by kernel_rfl) ?_
    refine WQ.u rfl rfl (Wt.plain rfl) (fun w hC => Ex.move rfl) ?_
    refine WQ.u rfl rfl (Wt.plain rfl) (fun w hC => Ex.move rfl) ?_
    refine WQ.split (t := 77) rfl (fun hg11_1 => ?_) (fun hg11_1 => ?_)
    · have hg11_1' := hg11_1; try simp only [decide_eq_true_eq, decide_eq_false_iff_not, Bool.not_eq_true', Bool.not_eq_false', Bool.not_eq_true, Bool.not_eq_false] at hg11_1'
      refine WQ.u rfl rfl (Wt.guard' rfl rfl rfl hg11_1 rfl) (fun w hC => Ex.move rfl) ?_
      refine WQ.call callable49 rfl (Wt.guard' rfl rfl rfl hg11_1 rfl) rfl rfl (fun w hC => Fn.rk hC (sl12Ways _ _ _ _ ((ho74.slAt hH 0 rfl).kept hC) (fun s hs2 => by obtain ⟨q, hq, rfl⟩ := List.mem_map.1 hs2; exact (hcok q hq).d) (by rw [List.length_map]; omega))) ?_
      refine WQ.u rfl rfl (Wt.guard' rfl rfl rfl hg11_1 rfl) (fun w hC => Ex.move rfl) ?_
      refine WQ.u rfl rfl (Wt.guard' rfl rfl rfl hg11_1 rfl) (fun w hC => Ex.move rfl) ?_
      refine WQ.u rfl rfl (Wt.guard' rfl rfl rfl hg11_1 rfl) (fun w hC => Ex.add rfl rfl (by omega)) ?_
      refine WQ.u rfl rfl (Wt.guard' rfl rfl rfl hg11_1 rfl) (fun w hC => (Ex.sliceStrFrom Tryd.underlying9 rfl rfl (by omega)).to (congrArg vstr (show _ = (t.drop ((numAt t 6).2 + 1)) from rfl))) ?_
      refine WQ.u rfl rfl (Wt.guard' rfl rfl rfl hg11_1 rfl) (fun w hC => Ex.eqlStr rfl rfl) ?_
      refine WQ.u rfl rfl (Wt.plain rfl) (fun w hC => Ex.pickT rfl hg11_1 rfl) ?_
      refine WQ.nil ?_
      intro wn hC; replace hH := hH.call hC; clear hC
      refine WN.next ?_
      refine WC.cond rfl (fun hc4 => ?_) (fun hc4 => ?_)
      · have hwe := of_decide_eq_true hc4
        rw [waysL_map] at hwe
        have hsm := roundIs_some (d := d) hgi hp hlc hld (by unfold tellsB; rw [decide_eq_true hwe, Bool.and_true]; simpa using hg11_1)
        refine WC.seq ?_
        refine WC.region ?_
        refine WL.u rfl rfl (Wt.plain rfl) (Ex.move rfl) ?_
        refine WL.u rfl rfl (Wt.plain rfl) (Ex.lenSl Tryd.underlying34 rfl) ?_
        refine WL.u rfl rfl (Wt.plain rfl) (Ex.assign rfl) ?_
        refine WL.u rfl rfl (Wt.plain rfl) (Ex.assign rfl) ?_
        refine WL.next ?_
        refine WC.ret ?_
        refine WN.retBlock ?_
        refine WN.retThen ?_
        refine WN.retThen ?_
        refine WN.retBlock ?_
        refine WN.retThen ?_
        refine WN.body2 rfl rfl rfl ?_
        exact ⟨by rw [hsm, List.length_map], hH.keep⟩
      have htf : tellsB g (numAt t 6).1 (t.drop ((numAt t 6).2 + 1)) d = false := tells_off (.inr (by have := of_decide_eq_false hc4; rw [waysL_map] at this; exact this))
      refine WC.skip ?_
      refine WN.normalBlock ?_
      refine WN.next ?_
      refine WC.region ?_
      refine WL.u rfl rfl (Wt.plain rfl) (Ex.move rfl) ?_
      refine WL.u rfl rfl (Wt.plain rfl) (Ex.add rfl rfl (by omega)) ?_
      refine WL.u rfl rfl (Wt.plain rfl) (Ex.assign rfl) ?_
      refine WL.last ?_
      replace hH := hH.first0
      refine WN.round (d + 1) (by exact ⟨rfl, rfl, rfl, rfl, rfl, trivial⟩) ?_ ?_
      · exact ⟨hH, tells_lt hM htf, by omega⟩
      · (try dsimp only); omega
    have hg11_1' := hg11_1; try simp only [decide_eq_true_eq, decide_eq_false_iff_not, Bool.not_eq_true', Bool.not_eq_false', Bool.not_eq_true, Bool.not_eq_false] at hg11_1'
    have htf : tellsB g (numAt t 6).1 (t.drop ((numAt t 6).2 + 1)) d = false := tells_off (.inl (by simpa using hg11_1))
    refine WQ.pass rfl rfl (Wt.guard' rfl rfl rfl hg11_1 rfl) ?_
    refine WQ.pass rfl rfl (Wt.guard' rfl rfl rfl hg11_1 rfl) ?_
    refine WQ.pass rfl rfl (Wt.guard' rfl rfl rfl hg11_1 rfl) ?_
    refine WQ.pass rfl rfl (Wt.guard' rfl rfl rfl hg11_1 rfl) ?_
    refine WQ.pass rfl rfl (Wt.guard' rfl rfl rfl hg11_1 rfl) ?_
    refine WQ.pass rfl rfl (Wt.guard' rfl rfl rfl hg11_1 rfl) ?_
    refine WQ.pass rfl rfl (Wt.guard' rfl rfl rfl hg11_1 rfl) ?_
    refine WQ.u rfl rfl (Wt.plain rfl) (fun w hC => Ex.pickF rfl hg11_1 rfl) ?_
    refine WQ.nil ?_
    intro wn hC; replace hH := hH.call hC; clear hC
    refine WN.next ?_
    refine WC.condF rfl rfl ?_
    refine WC.skip ?_
    refine WN.normalBlock ?_
    refine WN.next ?_
    refine WC.region ?_
    refine WL.u rfl rfl (Wt.plain rfl) (Ex.move rfl) ?_
    refine WL.u rfl rfl (Wt.plain rfl) (Ex.add rfl rfl (by omega)) ?_
    refine WL.u rfl rfl (Wt.plain rfl) (Ex.assign rfl) ?_
    refine WL.last ?_
    replace hH := hH.first0
    refine WN.round (d + 1) (by exact ⟨rfl, rfl, rfl, rfl, rfl, trivial⟩) ?_ ?_
    · exact ⟨hH, tells_lt hM htf, by omega⟩
    · (try dsimp only); omega
  have hc3' := hc3; try simp only [decide_eq_true_eq, decide_eq_false_iff_not, Bool.not_eq_true', Bool.not_eq_false', Bool.not_eq_true, Bool.not_eq_false] at hc3'
  have hno : roundIs g t = (0, false) := roundIs_none hp fun e he => hM e (by omega)
  refine WC.exit ?_
  refine WN.exitThen ?_
  refine WN.exitThen ?_
  refine WN.exitHere ?_
  refine WN.next ?_
  refine WC.seq ?_
  refine WC.region ?_
  refine WL.u rfl rfl (Wt.plain rfl) (Ex.assign rfl) ?_
  refine WL.u rfl rfl (Wt.plain rfl) (Ex.assign rfl) ?_
  refine WL.next ?_
  refine WC.ret ?_
  refine WN.body2 rfl rfl rfl ?_
  exact ⟨by rw [hno], hH.keep⟩

set_option maxHeartbeats 1000000 in
theorem sProofRound (g : Grid) (a : Option Addr) (cap : Nat) (w : World) (hg : Sl rStr w a g) (hs : Short g) : Fn Tryd.prog 21 [.slice a g.length cap] w (fun v w1 => v = .tuple #[vstr (proofRound g).1, .bool (proofRound g).2] ∧ Keep [] w w1) := by
  refine Fn.enter (n := 43) Tryd.func21 rfl rfl rfl ?_
  show WC _ _ _ _ [(0, .slice a g.length cap)] _
  have hH := Hp.start [] w
  refine WC.seq ?_
  refine WC.region ?_
  refine WL.u rfl rfl (Wt.plain rfl) (Ex.assign rfl) ?_
  refine WL.u rfl rfl (Wt.plain rfl) (Ex.assign rfl) ?_
  refine WL.next ?_
  refine WC.seq ?_
  refine WC.seq ?_
  refine WC.region ?_
  refine WL.u rfl rfl (Wt.plain rfl) (Ex.move rfl) ?_
  refine WL.call callable36 rfl (Wt.plain rfl) rfl rfl (sGridIn _ _ _ _ (hg.kept hH.keep) hs) ?_
  rintro _ wn ⟨rfl, hC⟩; replace hH := hH.dr hC; clear hC
  refine WL.u rfl rfl (Wt.plain rfl) (Ex.not rfl) ?_
  refine WL.next ?_
  refine WC.cond rfl (fun hc1 => ?_) (fun hc1 => ?_)
  · have hc1' := hc1; try simp only [decide_eq_true_eq, decide_eq_false_iff_not, Bool.not_eq_true', Bool.not_eq_false', Bool.not_eq_true, Bool.not_eq_false] at hc1'
    have hgi : gridIn g = false := by simpa using hc1
    refine WC.seq ?_
    refine WC.region ?_
    refine WL.u rfl rfl (Wt.plain rfl) (Ex.assign rfl) ?_
    refine WL.u rfl rfl (Wt.plain rfl) (Ex.assign rfl) ?_
    refine WL.next ?_
    refine WC.ret ?_
    refine WN.retThen ?_
    refine WN.body2 rfl rfl rfl ?_
    exact ⟨by rw [proofRound_not hgi] <;> rfl, hH.keep⟩
  have hc1' := hc1; try simp only [decide_eq_true_eq, decide_eq_false_iff_not, Bool.not_eq_true', Bool.not_eq_false', Bool.not_eq_true, Bool.not_eq_false] at hc1'
  have hgi : gridIn g = true := by simpa using hc1
  have hG := (gridOk_iff g).1 hgi
  have z := hG.sz
  have hcl := cells_le hG
  refine WC.skip ?_
  refine WN.next ?_
  refine WC.seq ?_
  refine WC.region ?_
  refine WL.u rfl rfl (Wt.plain rfl) (Ex.move rfl) ?_
  refine WL.call callable46 rfl (Wt.plain rfl) rfl rfl (sl3Marks g _ _ _ (hg.kept hH.keep) hG) ?_
  rintro _ wn ⟨mk0, hC, hN, hml, hmk⟩; obtain ⟨b13, cap13, cur13, rfl, hge13, hbb13, ho13⟩ := hN.own; replace hH := hH.push hC hge13 hbb13; clear hC hN
  refine WL.u rfl rfl (Wt.plain rfl) (Ex.assign rfl) ?_
  refine WL.next ?_
  refine WC.seq ?_
  refine WC.seq ?_
  refine WC.region ?_
  refine WL.u rfl rfl (Wt.plain rfl) (Ex.assign rfl) ?_
  refine WL.next ?_
  refine WC.block ?_
  refine WC.loop (ι := Nat) (fun x => [(0, .slice a g.length cap), (4, vsl b13 mk0.length cap13), (5, vint x)]) (fun x wn => Hp [] w wn [(b13, .cells cur13 4 (0, 0))] ∧ (∀ j, j < x → beamMark g j = true) ∧ x ≤ mk0.length) (fun x => mk0.length - x) (0) (by exact ⟨rfl, rfl, rfl, trivial⟩) ?_ ?_
  · exact ⟨hH, fun j hj => by omega, Nat.zero_le _⟩
  rintro x wn ⟨hH, hM, hx⟩
  intro mu0 hmu; try dsimp only at hmu
  show WC _ _ _ _ [(0, .slice a g.length cap), (4, vsl b13 mk0.length cap13), (5, vint x)] _
  refine WC.seq ?_
  refine WC.seq ?_
  refine WC.region ?_
  refine WL.u rfl rfl (Wt.plain rfl) (Ex.move rfl) ?_
  refine WL.u rfl rfl (Wt.plain rfl) (Ex.move rfl) ?_
  refine WL.u rfl rfl (Wt.plain rfl) (Ex.lenSl Tryd.underlying56 rfl) ?_
  refine WL.u rfl rfl (Wt.plain rfl) (Ex.lss rfl rfl) ?_
  refine WL.next ?_
  refine WC.cond rfl (fun hc2 => ?_) (fun hc2 => ?_)
  · have hc2' := hc2; try simp only [decide_eq_true_eq, decide_eq_false_iff_not, Bool.not_eq_true', Bool.not_eq_false', Bool.not_eq_true, Bool.not_eq_false] at hc2'
    have hlx : x < mk0.length := by omega
    refine WC.skip ?_
    refine WN.next ?_
    refine WC.seq ?_
    refine WC.block ?_
    refine WC.seq ?_
    refine WC.region ?_
    refine WL.u rfl rfl (Wt.plain rfl) (Ex.move rfl) ?_
    refine WL.u rfl rfl (Wt.plain rfl) (Ex.move rfl) ?_
    refine WL.u rfl rfl (Wt.plain rfl) (Ex.indexAddr Tryd.underlying56 ty4 rfl rfl (by omega)) ?_
    refine WL.u rfl rfl (Wt.plain rfl) (Ex.loadHp flat4 rfl hH (ho13.get rfl (getD_get mk0 x false hlx))) ?_
    refine WL.u rfl rfl (Wt.plain rfl) (Ex.not rfl) ?_
    refine WL.next ?_
    refine WC.cond rfl (fun hc3 => ?_) (fun hc3 => ?_)
    · have hc3' := hc3; try simp only [decide_eq_true_eq, decide_eq_false_iff_not, Bool.not_eq_true', Bool.not_eq_false', Bool.not_eq_true, Bool.not_eq_false] at hc3'
      have hmx : beamMark g x = false := by rw [← hmk]; simpa using hc3
      have hof := off_some (g := g) (x := x) (by omega) hmx hM
      have hoc := off_close z hof
      have hok : Ok g (x / 4, x % 4) := stepOf_ok (by omega)
      have hcok := close_ok z hok
      have hcll := close_len g (x / 4, x % 4)
      have h100 := cell_100 z hok
      have hdl := decL_len (show x / 4 < 100 from h100)
      have hct : (close g (x / 4, x % 4)).2 = true := hoc.2.1
      refine WC.seq ?_
      refine WC.region ?_
      refine WL.u rfl rfl (Wt.plain rfl) (Ex.move rfl) ?_
      refine WL.u rfl rfl (Wt.plain rfl) (Ex.move rfl) ?_
      refine WL.u rfl rfl (Wt.plain rfl) ((Ex.quo rfl rfl (by omega) (by omega)).to (congrArg (Value.int IntKind.i64) (show _ = ((x / 4 : Nat) : Int) from rfl))) ?_
      refine WL.u rfl rfl (Wt.plain rfl) (Ex.move rfl) ?_
      refine WL.u rfl rfl (Wt.plain rfl) ((Ex.rem rfl rfl (by omega) (by omega)).to (congrArg (Value.int IntKind.i64) (show _ = ((x % 4 : Nat) : Int) from rfl))) ?_
      refine WL.call callable47 rfl (Wt.plain rfl) rfl rfl (sl3Close g _ _ (x / 4, x % 4) _ (hg.kept hH.keep) hG hok) ?_
      rintro _ wn ⟨x1, y1, rfl, hC, hN1, hN2⟩; obtain ⟨b32, cap32, cur32, rfl, hge32, hbb32, ho32⟩ := hN1.own; obtain ⟨b33, cap33, cur33, rfl, hge33, hbb33, ho33⟩ := hN2.own; replace hH := hH.push hC hge33 hbb33; clear hC hN1 hN2
      refine WL.u rfl rfl (Wt.plain rfl) (Ex.move rfl) ?_
      refine WL.u rfl rfl (Wt.plain rfl) (Ex.extract rfl rfl) ?_
      refine WL.u rfl rfl (Wt.plain rfl) (Ex.extract rfl rfl) ?_
      refine WL.u rfl rfl (Wt.plain rfl) (Ex.extract rfl rfl) ?_
      refine WL.u rfl rfl (Wt.plain rfl) (Ex.assign rfl) ?_
      refine WL.u rfl rfl (Wt.plain rfl) (Ex.assign rfl) ?_
      refine WL.u rfl rfl (Wt.plain rfl) (Ex.assign rfl) ?_
      refine WL.next ?_
      refine WC.seq ?_
      refine WC.region ?_
      refine WL.u rfl rfl (Wt.plain rfl) (Ex.move rfl) ?_
      refine WL.u rfl rfl (Wt.plain rfl) ((Ex.quo rfl rfl (by omega) (by omega)).to (congrArg (Value.int IntKind.i64) (show _ = ((x / 4 : Nat) : Int) from rfl))) ?_
      refine WL.call callable48 rfl (Wt.plain rfl) rfl rfl (sl6Dec (x / 4) _ h100) ?_
      rintro _ wn ⟨rfl, hC⟩; replace hH := hH.call hC; clear hC
      refine WL.u rfl rfl (Wt.plain rfl) (Ex.concat rfl rfl (by simp only [List.length_cons, List.length_nil]; omega)) ?_
      refine WL.u rfl rfl (Wt.plain rfl) (Ex.concat rfl rfl (by simp only [List.length_append, List.length_cons, List.length_nil]; omega)) ?_
      refine WL.u rfl rfl (Wt.plain rfl) (Ex.move rfl) ?_
      refine WL.call callable49 rfl (Wt.plain rfl) rfl rfl (sl12Ways _ _ _ _ (ho33.slAt hH 0 rfl) (fun s hs2 => by obtain ⟨q, hq, rfl⟩ := List.mem_map.1 hs2; exact (hcok q hq).d) (by rw [List.length_map]; omega)) ?_
      rintro _ wn ⟨rfl, hC⟩; replace hH := hH.dr hC; clear hC
      refine WL.u rfl rfl (Wt.plain rfl) (Ex.concat rfl rfl (by simp only [List.length_append, List.length_cons, List.length_nil, List.length_map]; omega)) ?_
      refine WL.u rfl rfl (Wt.plain rfl) (Ex.assign rfl) ?_
      refine WL.u rfl rfl (Wt.plain rfl) (Ex.assign rfl) ?_
      refine WL.next ?_
      refine WC.ret ?_
      refine WN.retBlock ?_
      refine WN.retThen ?_
      refine WN.retThen ?_
      refine WN.retBlock ?_
      refine WN.retThen ?_
      refine WN.body2 rfl rfl rfl ?_
      exact ⟨by rw [proofRound_at hgi hof, show roundText g (stepOf x) = rnd ++ decL (x / 4) ++ [32] ++ waysL (close g (x / 4, x % 4)).1 from if_pos hct, ← waysL_map] <;> rfl, hH.keep⟩
    have hc3' := hc3; try simp only [decide_eq_true_eq, decide_eq_false_iff_not, Bool.not_eq_true', Bool.not_eq_false', Bool.not_eq_true, Bool.not_eq_false] at hc3'
    refine WC.skip ?_
    refine WN.normalBlock ?_
    refine WN.next ?_
    refine WC.region ?_
    refine WL.u rfl rfl (Wt.plain rfl) (Ex.move rfl) ?_
    refine WL.u rfl rfl (Wt.plain rfl) (Ex.add rfl rfl (by omega)) ?_
    refine WL.u rfl rfl (Wt.plain rfl) (Ex.assign rfl) ?_
    refine WL.last ?_
    refine WN.round (x + 1) (by exact ⟨rfl, rfl, rfl, trivial⟩) ?_ ?_
    · exact ⟨hH, fun j hj => by
        by_cases e : j = x
        · rw [e, ← hmk]; simpa using hc3
        · exact hM j (by omega), by omega⟩
    · (try dsimp only); omega
  have hc2' := hc2; try simp only [decide_eq_true_eq, decide_eq_false_iff_not, Bool.not_eq_true', Bool.not_eq_false', Bool.not_eq_true, Bool.not_eq_false] at hc2'
  have hon := proofRound_none (g := g) (off_nn fun j hj => hM j (by omega))
  refine WC.exit ?_
  refine WN.exitThen ?_
  refine WN.exitThen ?_
  refine WN.exitHere ?_
  refine WN.next ?_
  refine WC.seq ?_
  refine WC.region ?_
  refine WL.u rfl rfl (Wt.plain rfl) (Ex.assign rfl) ?_
  refine WL.u rfl rfl (Wt.plain rfl) (Ex.assign rfl) ?_
  refine WL.next ?_
  refine WC.ret ?_
  refine WN.body2 rfl rfl rfl ?_
  exact ⟨by rw [hon], hH.keep⟩

end Go.Proofs.YtmhmdlgcdeodmaaDoor

/- Laws on proofs of a round. -/
namespace Go.Proofs.YtmhmdlgcdeodmaaDoor
set_option maxRecDepth 100000
set_option linter.unusedSimpArgs false
set_option linter.unusedVariables false
open Go Go.RowKit
theorem proofRound_len (g : Grid) : (proofRound g).1.length ≤ 110 := by
  unfold proofRound
  split
  · next h =>
    have z := ((gridOk_iff g).1 h).sz
    split
    · simp
    · next x hx => exact roundText_len z (stepOf_ok (off_close z hx).1)
  · simp
theorem roundIs_ex {g : Grid} {t : Str} (h : (roundIs g t).2 = true) : gridIn g = true := by
  unfold roundIs at h
  split at h
  · cases h
  · split at h
    · next hc => exact hc.1
    · cases h

theorem sDrawProofRoundIs (a : Option Addr) (l : List UInt8) (cap : Nat) (w : World) (hc : Sl rByte w a l) (hcap : l.length ≤ cap) : Fn Tryd.prog 30 [.slice a l.length cap] w (fun v w1 => ∃ (g : Grid) (x : Value) (t : Str), v = .tuple #[x, vstr t] ∧ Keep [] w w1 ∧ New rStr 9 w w1 x g ∧ (1 ≤ g.length ∧ g.length ≤ 5) ∧ (∀ s ∈ g, s.length ≤ 6)) := by
  refine Fn.enter (n := 45) Tryd.func30 rfl rfl rfl ?_
  show WC _ _ _ _ [(0, .slice a l.length cap)] _
  have hc0 := hc
  have hH := Hp.start [] w
  replace hc := hc.take 2000
  have hl := List.length_take_le 2000 l
  refine WC.seq ?_
  refine WC.region ?_
  refine WL.u rfl rfl (Wt.plain rfl) (Ex.assign rfl) ?_
  refine WL.u rfl rfl (Wt.plain rfl) (Ex.assign rfl) ?_
  refine WL.next ?_
  refine WC.seq ?_
  refine WC.region ?_
  refine WL.u rfl rfl (Wt.plain rfl) (Ex.move rfl) ?_
  refine WL.call callable33 rfl (Wt.plain rfl) rfl rfl (sl6Open _ _ _ _ hcap) ?_
  rintro _ wn ⟨r, rfl, hrn, hC, hro⟩; have hca := (hc.kept hH.keep).offNew hrn; replace hH := hH.push hC hrn hro; clear hC hro
  refine WL.call callable32 rfl (Wt.plain rfl) rfl rfl (sl91Some _ _ _ _ _ 5 5 _ (hH.at 0 rfl) (hc.kept hH.keep) hca hl (by omega) (by omega) (by omega)) ?_
  rintro _ wn ⟨g, q, hN, hgl, hgr, hKK, ho, hq⟩; obtain ⟨b10, cap10, cur10, rfl, hge10, hbb10, ho10⟩ := hN.own; replace hH := hH.turnPush hKK ho hge10 hbb10; clear hKK ho hN
  refine WL.u rfl rfl (Wt.plain rfl) (Ex.assign rfl) ?_
  refine WL.next ?_
  refine WC.seq ?_
  have hs : Short g := short_of hgr (by omega)
  refine WC.region ?_
  refine WL.u rfl rfl (Wt.plain rfl) (Ex.move rfl) ?_
  refine WL.call callable21 rfl (Wt.plain rfl) rfl rfl (sProofRound g _ _ _ (ho10.slAt hH 0 rfl) hs) ?_
  rintro _ wn ⟨rfl, hC⟩; replace hH := hH.call hC; clear hC
  refine WL.u rfl rfl (Wt.plain rfl) (Ex.move rfl) ?_
  refine WL.u rfl rfl (Wt.plain rfl) (Ex.extract rfl rfl) ?_
  refine WL.u rfl rfl (Wt.plain rfl) (Ex.extract rfl rfl) ?_
  refine WL.u rfl rfl (Wt.plain rfl) (Ex.assign rfl) ?_
  refine WL.u rfl rfl (Wt.plain rfl) (Ex.assign rfl) ?_
  refine WL.next ?_
  refine WC.seq ?_
  refine WC.region ?_
  refine WL.u rfl rfl (Wt.plain rfl) (Ex.move rfl) ?_
  refine WL.call callable33 rfl (Wt.plain rfl) rfl rfl (sl6Open _ _ _ _ hcap) ?_
  rintro _ wn ⟨r, rfl, hrn, hC, hro⟩; have hca := (hc.kept hH.keep).offNew hrn; replace hH := hH.push hC hrn hro; clear hC hro
  refine WL.u rfl rfl (Wt.plain rfl) (Ex.assign rfl) ?_
  refine WL.next ?_
  refine WC.seq ?_
  refine WC.region ?_
  refine WL.u rfl rfl (Wt.plain rfl) (Ex.move rfl) ?_
  refine WL.u rfl rfl (Wt.plain rfl) (Ex.nilCheck rfl) ?_
  refine WL.u rfl rfl (Wt.plain rfl) (Ex.fieldAddr fd53_1 rfl) ?_
  refine WL.store1 ty3 rfl rfl rfl (Wt.plain rfl) hH (by simp) rfl (fun wn hk hH => ?_)
  replace hH := hH.at61
  refine WL.next ?_
  refine WC.seq ?_
  refine WC.block ?_
  refine WC.seq ?_
  refine WC.region ?_
  refine WL.u rfl rfl (Wt.plain rfl) (Ex.move rfl) ?_
  refine WL.u rfl rfl (Wt.plain rfl) (Ex.not rfl) ?_
  refine WL.u rfl rfl (Wt.plain rfl) (Ex.move rfl) ?_
  refine WL.split (t := 24) rfl (fun hg5_2 => ?_) (fun hg5_2 => ?_)
  · have hg5_2' := hg5_2; try simp only [decide_eq_true_eq, decide_eq_false_iff_not, Bool.not_eq_true', Bool.not_eq_false', Bool.not_eq_true, Bool.not_eq_false] at hg5_2'
    refine WL.pass rfl rfl (Wt.guard' rfl rfl rfl hg5_2 rfl) ?_
    refine WL.pass rfl rfl (Wt.guard' rfl rfl rfl hg5_2 rfl) ?_
    refine WL.pass rfl rfl (Wt.guard' rfl rfl rfl hg5_2 rfl) ?_
    refine WL.u rfl rfl (Wt.plain rfl) (Ex.pickT rfl hg5_2 rfl) ?_
    refine WL.u rfl rfl (Wt.plain rfl) (Ex.assign rfl) ?_
    refine WL.next ?_
    refine WC.condT rfl rfl ?_
    refine WC.seq ?_
    refine WC.region ?_
    refine WL.u rfl rfl (Wt.plain rfl) (Ex.move rfl) ?_
    refine WL.u rfl rfl (Wt.plain rfl) (Ex.move rfl) ?_
    refine WL.lit Tryd.underlying23 ty9 rfl rfl rfl rfl rfl rfl rfl (Wt.plain rfl) hH (fun b31 wn hb31 hk31 hH => ?_)
    have ho31 := Own.strs ([[114, 111, 117, 110, 100, 32, 48, 32, 114, 100, 108, 117], [114, 111, 117, 110, 100, 32, 48, 32, 114], [114, 111, 117, 110, 100, 32, 48, 48, 32, 114, 100, 108, 117], [114, 111, 117, 110, 100, 32, 48, 32], [114, 111, 117, 110, 100], [], [120]] : List Str) (by decide)
    replace hH := hH.f1
    refine WL.call callable45 rfl (Wt.plain rfl) rfl rfl (sof _ _ _ _ _ _ ([[114, 111, 117, 110, 100, 32, 48, 32, 114, 100, 108, 117], [114, 111, 117, 110, 100, 32, 48, 32, 114], [114, 111, 117, 110, 100, 32, 48, 48, 32, 114, 100, 108, 117], [114, 111, 117, 110, 100, 32, 48, 32], [114, 111, 117, 110, 100], [], [120]] : List Str) _ _ (hH.at 0 rfl) (hc.kept hH.keep) hca hl (by omega) (ho31.slAt hH 1 rfl) (.inr fun p hp => by cases hp; exact hH.nin 1 0 rfl rfl rfl) (by decide)) ?_
    rintro _ wn ⟨t32, ht32, rfl, hKK, ho⟩; replace hH := hH.turn hKK ho; clear hKK ho
    refine WL.u rfl rfl (Wt.plain rfl) (Ex.assign rfl) ?_
    refine WL.u rfl rfl (Wt.plain rfl) (Ex.assign rfl) ?_
    refine WL.next ?_
    refine WC.ret ?_
    refine WN.retBlock ?_
    refine WN.retThen ?_
    refine WN.body2 rfl rfl rfl ?_
    exact ⟨g, _, _, rfl, hH.keep, New.of (hH.front 2 rfl) ho10 (hH.base 2 rfl), by omega, fun s hs => by have := hgr s hs; omega⟩
  have hg5_2' := hg5_2; try simp only [decide_eq_true_eq, decide_eq_false_iff_not, Bool.not_eq_true', Bool.not_eq_false', Bool.not_eq_true, Bool.not_eq_false] at hg5_2'
  refine WL.u rfl rfl (Wt.guard' rfl rfl rfl hg5_2 rfl) (Ex.move rfl) ?_
  refine WL.call callable44 rfl (Wt.guard' rfl rfl rfl hg5_2 rfl) rfl rfl (spick _ _ _ _ _ 5 _ (hH.at 0 rfl) (hc.kept hH.keep) hca hl (by omega) (by omega)) ?_
  rintro _ wn ⟨k26, rfl, hk26, hKK, ho⟩; replace hH := hH.turn hKK ho; clear hKK ho
  refine WL.u rfl rfl (Wt.guard' rfl rfl rfl hg5_2 rfl) (Ex.eql rfl rfl) ?_
  refine WL.u rfl rfl (Wt.plain rfl) (Ex.pickF rfl hg5_2 rfl) ?_
  refine WL.u rfl rfl (Wt.plain rfl) (Ex.assign rfl) ?_
  refine WL.next ?_
  refine WC.cond rfl (fun hc1 => ?_) (fun hc1 => ?_)
  · have hc1' := hc1; try simp only [decide_eq_true_eq, decide_eq_false_iff_not, Bool.not_eq_true', Bool.not_eq_false', Bool.not_eq_true, Bool.not_eq_false] at hc1'
    refine WC.seq ?_
    refine WC.region ?_
    refine WL.u rfl rfl (Wt.plain rfl) (Ex.move rfl) ?_
    refine WL.u rfl rfl (Wt.plain rfl) (Ex.move rfl) ?_
    refine WL.lit Tryd.underlying23 ty9 rfl rfl rfl rfl rfl rfl rfl (Wt.plain rfl) hH (fun b31 wn hb31 hk31 hH => ?_)
    have ho31 := Own.strs ([[114, 111, 117, 110, 100, 32, 48, 32, 114, 100, 108, 117], [114, 111, 117, 110, 100, 32, 48, 32, 114], [114, 111, 117, 110, 100, 32, 48, 48, 32, 114, 100, 108, 117], [114, 111, 117, 110, 100, 32, 48, 32], [114, 111, 117, 110, 100], [], [120]] : List Str) (by decide)
    replace hH := hH.f1
    refine WL.call callable45 rfl (Wt.plain rfl) rfl rfl (sof _ _ _ _ _ _ ([[114, 111, 117, 110, 100, 32, 48, 32, 114, 100, 108, 117], [114, 111, 117, 110, 100, 32, 48, 32, 114], [114, 111, 117, 110, 100, 32, 48, 48, 32, 114, 100, 108, 117], [114, 111, 117, 110, 100, 32, 48, 32], [114, 111, 117, 110, 100], [], [120]] : List Str) _ _ (hH.at 0 rfl) (hc.kept hH.keep) hca hl (by omega) (ho31.slAt hH 1 rfl) (.inr fun p hp => by cases hp; exact hH.nin 1 0 rfl rfl rfl) (by decide)) ?_
    rintro _ wn ⟨t32, ht32, rfl, hKK, ho⟩; replace hH := hH.turn hKK ho; clear hKK ho
    refine WL.u rfl rfl (Wt.plain rfl) (Ex.assign rfl) ?_
    refine WL.u rfl rfl (Wt.plain rfl) (Ex.assign rfl) ?_
    refine WL.next ?_
    refine WC.ret ?_
    refine WN.retBlock ?_
    refine WN.retThen ?_
    refine WN.body2 rfl rfl rfl ?_
    exact ⟨g, _, _, rfl, hH.keep, New.of (hH.front 2 rfl) ho10 (hH.base 2 rfl), by omega, fun s hs => by have := hgr s hs; omega⟩
  have hc1' := hc1; try simp only [decide_eq_true_eq, decide_eq_false_iff_not, Bool.not_eq_true', Bool.not_eq_false', Bool.not_eq_true, Bool.not_eq_false] at hc1'
  refine WC.seq ?_
  refine WC.region ?_
  refine WL.u rfl rfl (Wt.plain rfl) (Ex.move rfl) ?_
  refine WL.call callable44 rfl (Wt.plain rfl) rfl rfl (spick _ _ _ _ _ 6 _ (hH.at 0 rfl) (hc.kept hH.keep) hca hl (by omega) (by omega)) ?_
  rintro _ wn ⟨k35, rfl, hk35, hKK, ho⟩; replace hH := hH.turn hKK ho; clear hKK ho
  refine WL.u rfl rfl (Wt.plain rfl) (Ex.eql rfl rfl) ?_
  refine WL.u rfl rfl (Wt.plain rfl) (Ex.assign rfl) ?_
  refine WL.next ?_
  refine WC.cond rfl (fun hc2 => ?_) (fun hc2 => ?_)
  · have hc2' := hc2; try simp only [decide_eq_true_eq, decide_eq_false_iff_not, Bool.not_eq_true', Bool.not_eq_false', Bool.not_eq_true, Bool.not_eq_false] at hc2'
    refine WC.seq ?_
    have hpl := proofRound_len g
    have hL2 : ∀ s ∈ ([[32], [117], [120]] : List Str), s.length ≤ 1 := by decide
    refine WC.region ?_
    refine WL.u rfl rfl (Wt.plain rfl) (Ex.move rfl) ?_
    refine WL.u rfl rfl (Wt.plain rfl) (Ex.move rfl) ?_
    refine WL.u rfl rfl (Wt.plain rfl) (Ex.move rfl) ?_
    refine WL.lit Tryd.underlying23 ty9 rfl rfl rfl rfl rfl rfl rfl (Wt.plain rfl) hH (fun b40 wn hb40 hk40 hH => ?_)
    have ho40 := Own.strs ([[32], [117], [120]] : List Str) (by decide)
    replace hH := hH.f1
    refine WL.call callable45 rfl (Wt.plain rfl) rfl rfl (sof _ _ _ _ _ _ ([[32], [117], [120]] : List Str) _ _ (hH.at 0 rfl) (hc.kept hH.keep) hca hl (by omega) (ho40.slAt hH 1 rfl) (.inr fun p hp => by cases hp; exact hH.nin 1 0 rfl rfl rfl) (by decide)) ?_
    rintro _ wn ⟨t41, ht41, rfl, hKK, ho⟩; replace hH := hH.turn hKK ho; clear hKK ho
    refine WL.u rfl rfl (Wt.plain rfl) (Ex.concat rfl rfl (by have := hL2 _ ht41; omega)) ?_
    refine WL.u rfl rfl (Wt.plain rfl) (Ex.assign rfl) ?_
    refine WL.u rfl rfl (Wt.plain rfl) (Ex.assign rfl) ?_
    refine WL.next ?_
    refine WC.ret ?_
    refine WN.retBlock ?_
    refine WN.retThen ?_
    refine WN.body2 rfl rfl rfl ?_
    exact ⟨g, _, _, rfl, hH.keep, New.of (hH.front 2 rfl) ho10 (hH.base 2 rfl), by omega, fun s hs => by have := hgr s hs; omega⟩
  have hc2' := hc2; try simp only [decide_eq_true_eq, decide_eq_false_iff_not, Bool.not_eq_true', Bool.not_eq_false', Bool.not_eq_true, Bool.not_eq_false] at hc2'
  refine WC.skip ?_
  refine WN.normalBlock ?_
  refine WN.next ?_
  refine WC.seq ?_
  refine WC.region ?_
  refine WL.u rfl rfl (Wt.plain rfl) (Ex.move rfl) ?_
  refine WL.u rfl rfl (Wt.plain rfl) (Ex.move rfl) ?_
  refine WL.u rfl rfl (Wt.plain rfl) (Ex.assign rfl) ?_
  refine WL.u rfl rfl (Wt.plain rfl) (Ex.assign rfl) ?_
  refine WL.next ?_
  refine WC.ret ?_
  refine WN.body2 rfl rfl rfl ?_
  exact ⟨g, _, _, rfl, hH.keep, New.of (hH.front 1 rfl) ho10 (hH.base 1 rfl), by omega, fun s hs => by have := hgr s hs; omega⟩

theorem lawExactProofRoundIs (g : Grid) (a : Option Addr) (cap : Nat) (t : Str) (w : World) (hg : Sl rStr w a g) (hs : Short g) (hy : (t.length : Int) ≤ 9223372036854775807) : Fn Tryd.prog 6 [.slice a g.length cap, vstr t] w (fun v w1 => v = .bool true ∧ Keep [] w w1) := by
  refine Fn.enter (n := 47) Tryd.func6 rfl rfl rfl ?_
  show WC _ _ _ _ [(0, .slice a g.length cap), (1, vstr t)] _
  have hH := Hp.start [] w
  refine WC.seq ?_
  refine WC.region ?_
  refine WL.u rfl rfl (Wt.plain rfl) (Ex.assign rfl) ?_
  refine WL.next ?_
  refine WC.seq ?_
  refine WC.seq ?_
  refine WC.region ?_
  refine WL.u rfl rfl (Wt.plain rfl) (Ex.move rfl) ?_
  refine WL.u rfl rfl (Wt.plain rfl) (Ex.lenStr Tryd.underlying9 rfl) ?_
  refine WL.u rfl rfl (Wt.plain rfl) (Ex.gtr rfl rfl) ?_
  refine WL.next ?_
  refine WC.cond rfl (fun hc1 => ?_) (fun hc1 => ?_)
  · have hc1' := hc1; try simp only [decide_eq_true_eq, decide_eq_false_iff_not, Bool.not_eq_true', Bool.not_eq_false', Bool.not_eq_true, Bool.not_eq_false] at hc1'
    refine WC.seq ?_
    refine WC.region ?_
    refine WL.u rfl rfl (Wt.plain rfl) (Ex.assign rfl) ?_
    refine WL.next ?_
    refine WC.ret ?_
    refine WN.retThen ?_
    refine WN.body1 rfl rfl ?_
    exact ⟨rfl, hH.keep⟩
  have hc1' := hc1; try simp only [decide_eq_true_eq, decide_eq_false_iff_not, Bool.not_eq_true', Bool.not_eq_false', Bool.not_eq_true, Bool.not_eq_false] at hc1'
  refine WC.skip ?_
  refine WN.next ?_
  refine WC.seq ?_
  refine WC.region ?_
  refine WL.u rfl rfl (Wt.plain rfl) (Ex.assign rfl) ?_
  refine WL.next ?_
  refine WC.seq ?_
  refine WC.region ?_
  refine WL.u rfl rfl (Wt.plain rfl) (Ex.move rfl) ?_
  refine WL.u rfl rfl (Wt.plain rfl) (Ex.move rfl) ?_
  refine WL.call callable25 rfl (Wt.plain rfl) rfl rfl (szStringS g a cap 1048576 _ (hg.kept hH.keep) hs (by omega)) ?_
  rintro _ _ ⟨r, rfl, hw, hr⟩; obtain rfl := hw.symm
  refine WL.u rfl rfl (Wt.plain rfl) (Ex.assign rfl) ?_
  refine WL.next ?_
  refine WC.seq ?_
  refine WC.seq ?_
  refine WC.region ?_
  refine WL.u rfl rfl (Wt.plain rfl) (Ex.move rfl) ?_
  refine WL.u rfl rfl (Wt.plain rfl) (Ex.lss rfl rfl) ?_
  refine WL.next ?_
  refine WC.cond rfl (fun hc2 => ?_) (fun hc2 => ?_)
  · have hc2' := hc2; try simp only [decide_eq_true_eq, decide_eq_false_iff_not, Bool.not_eq_true', Bool.not_eq_false', Bool.not_eq_true, Bool.not_eq_false] at hc2'
    refine WC.seq ?_
    refine WC.region ?_
    refine WL.u rfl rfl (Wt.plain rfl) (Ex.assign rfl) ?_
    refine WL.next ?_
    refine WC.ret ?_
    refine WN.retThen ?_
    refine WN.body1 rfl rfl ?_
    exact ⟨rfl, hH.keep⟩
  have hc2' := hc2; try simp only [decide_eq_true_eq, decide_eq_false_iff_not, Bool.not_eq_true', Bool.not_eq_false', Bool.not_eq_true, Bool.not_eq_false] at hc2'
  have hr2 := hr (by omega)
  have hgl := hr2.1
  refine WC.skip ?_
  refine WN.next ?_
  refine WC.seq ?_
  refine WC.region ?_
  refine WL.u rfl rfl (Wt.plain rfl) (Ex.move rfl) ?_
  refine WL.call callable27 rfl (Wt.plain rfl) rfl rfl (toStringS _ _ _ _ (hg.kept hH.keep) hgl) ?_
  rintro _ wn ⟨hC, hN⟩; obtain ⟨b101, cap101, cur101, rfl, hge, hbb, ho101⟩ := hN.own; replace hH := hH.push hC hge hbb
  refine WL.u rfl rfl (Wt.plain rfl) (Ex.move rfl) ?_
  refine WL.call callable26 rfl (Wt.plain rfl) rfl rfl (sProofRoundIs g _ _ t _ (ho101.slAt hH 0 rfl) hs) ?_
  rintro _ wn ⟨rfl, hC⟩; replace hH := hH.call hC; clear hC
  refine WL.u rfl rfl (Wt.plain rfl) (Ex.move rfl) ?_
  refine WL.u rfl rfl (Wt.plain rfl) (Ex.extract rfl rfl) ?_
  refine WL.u rfl rfl (Wt.plain rfl) (Ex.extract rfl rfl) ?_
  refine WL.u rfl rfl (Wt.plain rfl) (Ex.assign rfl) ?_
  refine WL.u rfl rfl (Wt.plain rfl) (Ex.assign rfl) ?_
  refine WL.next ?_
  refine WC.seq ?_
  refine WC.region ?_
  refine WL.u rfl rfl (Wt.plain rfl) (Ex.move rfl) ?_
  refine WL.call callable27 rfl (Wt.plain rfl) rfl rfl (toStringS _ _ _ _ (hg.kept hH.keep) hgl) ?_
  rintro _ wn ⟨hC, hN⟩; obtain ⟨b102, cap102, cur102, rfl, hge, hbb, ho102⟩ := hN.own; replace hH := hH.push hC hge hbb
  refine WL.u rfl rfl (Wt.plain rfl) (Ex.assign rfl) ?_
  refine WL.next ?_
  refine WC.seq ?_
  refine WC.region ?_
  refine WL.u rfl rfl (Wt.plain rfl) (Ex.move rfl) ?_
  refine WL.u rfl rfl (Wt.plain rfl) (Ex.move rfl) ?_
  refine WL.call callable22 rfl (Wt.plain rfl) rfl rfl (iProofRoundIs g _ _ t _ (ho102.slAt hH 0 rfl) hs) ?_
  rintro _ wn ⟨rfl, hC⟩; replace hH := hH.call hC; clear hC
  refine WL.u rfl rfl (Wt.plain rfl) (Ex.move rfl) ?_
  refine WL.u rfl rfl (Wt.plain rfl) (Ex.extract rfl rfl) ?_
  refine WL.u rfl rfl (Wt.plain rfl) (Ex.extract rfl rfl) ?_
  refine WL.u rfl rfl (Wt.plain rfl) (Ex.assign rfl) ?_
  refine WL.u rfl rfl (Wt.plain rfl) (Ex.assign rfl) ?_
  refine WL.next ?_
  refine WC.seq ?_
  refine WC.seq ?_
  refine WC.region ?_
  refine WL.u rfl rfl (Wt.plain rfl) (Ex.move rfl) ?_
  refine WL.u rfl rfl (Wt.plain rfl) (Ex.move rfl) ?_
  refine WL.u rfl rfl (Wt.plain rfl) (Ex.neq rfl rfl) ?_
  refine WL.u rfl rfl (Wt.plain rfl) (Ex.move rfl) ?_
  refine WL.split (t := 37) rfl (fun hg10_3 => ?_) (fun hg10_3 => ?_)
  · exfalso; simp at hg10_3
  have hg10_3' := hg10_3; try simp only [decide_eq_true_eq, decide_eq_false_iff_not, Bool.not_eq_true', Bool.not_eq_false', Bool.not_eq_true, Bool.not_eq_false] at hg10_3'
  refine WL.u rfl rfl (Wt.guard' rfl rfl rfl hg10_3 rfl) (Ex.move rfl) ?_
  refine WL.u rfl rfl (Wt.guard' rfl rfl rfl hg10_3 rfl) (Ex.move rfl) ?_
  refine WL.u rfl rfl (Wt.guard' rfl rfl rfl hg10_3 rfl) (Ex.neqB Tryd.underlying4 rfl rfl) ?_
  refine WL.u rfl rfl (Wt.plain rfl) (Ex.pickF rfl hg10_3 rfl) ?_
  refine WL.next ?_
  refine WC.condF rfl (by simp) ?_
  refine WC.skip ?_
  refine WN.next ?_
  refine WC.seq ?_
  refine WC.seq ?_
  refine WC.region ?_
  refine WL.u rfl rfl (Wt.plain rfl) (Ex.move rfl) ?_
  refine WL.u rfl rfl (Wt.plain rfl) (Ex.move rfl) ?_
  refine WL.call callable27 rfl (Wt.plain rfl) rfl rfl (toStringS _ _ _ _ (hg.kept hH.keep) hgl) ?_
  rintro _ wn ⟨hC, hN⟩; obtain ⟨b103, cap103, cur103, rfl, hge, hbb, ho103⟩ := hN.own; replace hH := hH.push hC hge hbb
  refine WL.call callable28 rfl (Wt.plain rfl) rfl rfl (eqStringS g g _ _ _ _ _ (ho102.slAt hH 1 rfl) (ho103.slAt hH 0 rfl)) ?_
  rintro _ wn ⟨rfl, hC⟩; replace hH := hH.dr hC; clear hC
  refine WL.u rfl rfl (Wt.plain rfl) (Ex.not rfl) ?_
  refine WL.next ?_
  refine WC.condF rfl (by simp) ?_
  refine WC.skip ?_
  refine WN.next ?_
  refine WC.seq ?_
  refine WC.region ?_
  refine WL.u rfl rfl (Wt.plain rfl) (Ex.assign rfl) ?_
  refine WL.next ?_
  refine WC.ret ?_
  refine WN.body1 rfl rfl ?_
  exact ⟨rfl, hH.keep⟩

theorem lawRoundIs (a : Option Addr) (l : List UInt8) (cap : Nat) (w : World) (hc : Sl rByte w a l) (hcap : l.length ≤ cap) : Fn Tryd.prog 10 [.slice a l.length cap] w (fun v w1 => v = .bool true ∧ Keep [] w w1) := by
  refine Fn.enter (n := 65) Tryd.func10 rfl rfl rfl ?_
  show WC _ _ _ _ [(0, .slice a l.length cap)] _
  have hH := Hp.start [] w
  refine WC.seq ?_
  refine WC.region ?_
  refine WL.u rfl rfl (Wt.plain rfl) (Ex.assign rfl) ?_
  refine WL.next ?_
  refine WC.seq ?_
  refine WC.seq ?_
  refine WC.region ?_
  refine WL.u rfl rfl (Wt.plain rfl) (Ex.move rfl) ?_
  refine WL.u rfl rfl (Wt.plain rfl) (Ex.lenSl Tryd.underlying22 rfl) ?_
  refine WL.u rfl rfl (Wt.plain rfl) (Ex.gtr rfl rfl) ?_
  refine WL.next ?_
  refine WC.cond rfl (fun hc1 => ?_) (fun hc1 => ?_)
  · have hc1' := hc1; try simp only [decide_eq_true_eq, decide_eq_false_iff_not, Bool.not_eq_true', Bool.not_eq_false', Bool.not_eq_true, Bool.not_eq_false] at hc1'
    refine WC.seq ?_
    refine WC.region ?_
    refine WL.u rfl rfl (Wt.plain rfl) (Ex.assign rfl) ?_
    refine WL.next ?_
    refine WC.ret ?_
    refine WN.retThen ?_
    refine WN.body1 rfl rfl ?_
    exact ⟨rfl, hH.keep⟩
  have hc1' := hc1; try simp only [decide_eq_true_eq, decide_eq_false_iff_not, Bool.not_eq_true', Bool.not_eq_false', Bool.not_eq_true, Bool.not_eq_false] at hc1'
  refine WC.skip ?_
  refine WN.next ?_
  refine WC.seq ?_
  refine WC.region ?_
  refine WL.u rfl rfl (Wt.plain rfl) (Ex.move rfl) ?_
  refine WL.call callable30 rfl (Wt.plain rfl) rfl rfl (sDrawProofRoundIs _ _ _ _ (hc.kept hH.keep) hcap) ?_
  rintro _ wn ⟨g, x, t, rfl, hC, hN, hgl, hgr⟩; obtain ⟨b16, cap16, cur16, rfl, hge16, hbb16, ho16⟩ := hN.own; replace hH := hH.push hC hge16 hbb16; clear hC hN; have hs := short_of hgr (by omega)
  refine WL.u rfl rfl (Wt.plain rfl) (Ex.move rfl) ?_
  refine WL.u rfl rfl (Wt.plain rfl) (Ex.extract rfl rfl) ?_
  refine WL.u rfl rfl (Wt.plain rfl) (Ex.extract rfl rfl) ?_
  refine WL.u rfl rfl (Wt.plain rfl) (Ex.assign rfl) ?_
  refine WL.u rfl rfl (Wt.plain rfl) (Ex.assign rfl) ?_
  refine WL.next ?_
  refine WC.seq ?_
  refine WC.region ?_
  refine WL.u rfl rfl (Wt.plain rfl) (Ex.move rfl) ?_
  refine WL.u rfl rfl (Wt.plain rfl) (Ex.move rfl) ?_
  refine WL.call callable22 rfl (Wt.plain rfl) rfl rfl (iProofRoundIs g _ _ t _ (ho16.slAt hH 0 rfl) hs) ?_
  rintro _ wn ⟨rfl, hC⟩; replace hH := hH.call hC; clear hC
  refine WL.u rfl rfl (Wt.plain rfl) (Ex.move rfl) ?_
  refine WL.u rfl rfl (Wt.plain rfl) (Ex.extract rfl rfl) ?_
  refine WL.u rfl rfl (Wt.plain rfl) (Ex.extract rfl rfl) ?_
  refine WL.u rfl rfl (Wt.plain rfl) (Ex.assign rfl) ?_
  refine WL.u rfl rfl (Wt.plain rfl) (Ex.assign rfl) ?_
  refine WL.next ?_
  refine WC.seq ?_
  refine WC.region ?_
  refine WL.u rfl rfl (Wt.plain rfl) (Ex.move rfl) ?_
  refine WL.u rfl rfl (Wt.plain rfl) (Ex.move rfl) ?_
  refine WL.call callable26 rfl (Wt.plain rfl) rfl rfl (sProofRoundIs g _ _ t _ (ho16.slAt hH 0 rfl) hs) ?_
  rintro _ wn ⟨rfl, hC⟩; replace hH := hH.call hC; clear hC
  refine WL.u rfl rfl (Wt.plain rfl) (Ex.move rfl) ?_
  refine WL.u rfl rfl (Wt.plain rfl) (Ex.extract rfl rfl) ?_
  refine WL.u rfl rfl (Wt.plain rfl) (Ex.extract rfl rfl) ?_
  refine WL.u rfl rfl (Wt.plain rfl) (Ex.assign rfl) ?_
  refine WL.u rfl rfl (Wt.plain rfl) (Ex.assign rfl) ?_
  refine WL.next ?_
  refine WC.seq ?_
  refine WC.seq ?_
  refine WC.region ?_
  refine WL.u rfl rfl (Wt.plain rfl) (Ex.move rfl) ?_
  refine WL.u rfl rfl (Wt.plain rfl) (Ex.move rfl) ?_
  refine WL.u rfl rfl (Wt.plain rfl) (Ex.neqB Tryd.underlying4 rfl rfl) ?_
  refine WL.u rfl rfl (Wt.plain rfl) (Ex.move rfl) ?_
  refine WL.split (t := 34) rfl (fun hg6_3 => ?_) (fun hg6_3 => ?_)
  · exfalso; simp at hg6_3
  have hg6_3' := hg6_3; try simp only [decide_eq_true_eq, decide_eq_false_iff_not, Bool.not_eq_true', Bool.not_eq_false', Bool.not_eq_true, Bool.not_eq_false] at hg6_3'
  refine WL.u rfl rfl (Wt.guard' rfl rfl rfl hg6_3 rfl) (Ex.move rfl) ?_
  refine WL.u rfl rfl (Wt.guard' rfl rfl rfl hg6_3 rfl) (Ex.move rfl) ?_
  refine WL.u rfl rfl (Wt.guard' rfl rfl rfl hg6_3 rfl) (Ex.neq rfl rfl) ?_
  refine WL.u rfl rfl (Wt.plain rfl) (Ex.pickF rfl hg6_3 rfl) ?_
  refine WL.u rfl rfl (Wt.plain rfl) (Ex.move rfl) ?_
  refine WL.split (t := 39) rfl (fun hg6_8 => ?_) (fun hg6_8 => ?_)
  · exfalso; simp at hg6_8
  have hg6_8' := hg6_8; try simp only [decide_eq_true_eq, decide_eq_false_iff_not, Bool.not_eq_true', Bool.not_eq_false', Bool.not_eq_true, Bool.not_eq_false] at hg6_8'
  refine WL.u rfl rfl (Wt.guard' rfl rfl rfl hg6_8 rfl) (Ex.move rfl) ?_
  refine WL.u rfl rfl (Wt.guard' rfl rfl rfl hg6_8 rfl) (Ex.not rfl) ?_
  refine WL.u rfl rfl (Wt.plain rfl) (Ex.pickF rfl hg6_8 rfl) ?_
  refine WL.next ?_
  refine WC.cond rfl (fun hc2 => ?_) (fun hc2 => ?_)
  · have hc2' := hc2; try simp only [decide_eq_true_eq, decide_eq_false_iff_not, Bool.not_eq_true', Bool.not_eq_false', Bool.not_eq_true, Bool.not_eq_false] at hc2'
    refine WC.seq ?_
    refine WC.region ?_
    refine WL.u rfl rfl (Wt.plain rfl) (Ex.move rfl) ?_
    refine WL.u rfl rfl (Wt.plain rfl) (Ex.move rfl) ?_
    refine WL.u rfl rfl (Wt.plain rfl) (Ex.eqlB Tryd.underlying4 rfl rfl) ?_
    refine WL.u rfl rfl (Wt.plain rfl) (Ex.move rfl) ?_
    refine WL.split (t := 46) rfl (fun hg7_3 => ?_) (fun hg7_3 => ?_)
    · have hg7_3' := hg7_3; try simp only [decide_eq_true_eq, decide_eq_false_iff_not, Bool.not_eq_true', Bool.not_eq_false', Bool.not_eq_true, Bool.not_eq_false] at hg7_3'
      refine WL.u rfl rfl (Wt.guard' rfl rfl rfl hg7_3 rfl) (Ex.move rfl) ?_
      refine WL.u rfl rfl (Wt.guard' rfl rfl rfl hg7_3 rfl) (Ex.move rfl) ?_
      refine WL.u rfl rfl (Wt.guard' rfl rfl rfl hg7_3 rfl) (Ex.eql rfl rfl) ?_
      refine WL.u rfl rfl (Wt.plain rfl) (Ex.pickT rfl hg7_3 rfl) ?_
      refine WL.u rfl rfl (Wt.plain rfl) (Ex.assign rfl) ?_
      refine WL.next ?_
      refine WC.ret ?_
      refine WN.retThen ?_
      refine WN.body1 rfl rfl ?_
      exact ⟨congrArg Value.bool (by simp), hH.keep⟩
    exfalso; simp at hg7_3
  have hts : (roundIs g t).2 = true := by simpa using hc2
  have hgi := roundIs_ex hts
  have z := ((gridOk_iff g).1 hgi).sz
  have h4 := roundIs_four z hts
  have erm := roundManyP hgi
  have e4 : decide ((roundIs g t).1 ≥ 4) = true := decide_eq_true h4.1
  have e1 : decide ((roundManyQ g).1 ≥ 1) = true := by rw [erm]; exact decide_eq_true (by dsimp only; omega)
  refine WC.skip ?_
  refine WN.next ?_
  refine WC.seq ?_
  refine WC.region ?_
  refine WL.u rfl rfl (Wt.plain rfl) (Ex.move rfl) ?_
  refine WL.call callable13 rfl (Wt.plain rfl) rfl rfl (iRoundManyQ g _ _ _ (ho16.slAt hH 0 rfl) hs) ?_
  rintro _ wn ⟨rfl, hC⟩; replace hH := hH.call hC; clear hC
  refine WL.u rfl rfl (Wt.plain rfl) (Ex.move rfl) ?_
  refine WL.u rfl rfl (Wt.plain rfl) (Ex.extract rfl rfl) ?_
  refine WL.u rfl rfl (Wt.plain rfl) (Ex.extract rfl rfl) ?_
  refine WL.u rfl rfl (Wt.plain rfl) (Ex.assign rfl) ?_
  refine WL.u rfl rfl (Wt.plain rfl) (Ex.assign rfl) ?_
  refine WL.next ?_
  refine WC.seq ?_
  refine WC.region ?_
  refine WL.u rfl rfl (Wt.plain rfl) (Ex.move rfl) ?_
  refine WL.u rfl rfl (Wt.plain rfl) (Ex.move rfl) ?_
  refine WL.u rfl rfl (Wt.guard' rfl rfl rfl (by rw [erm]) rfl) (Ex.move rfl) ?_
  refine WL.u rfl rfl (Wt.guard' rfl rfl rfl (by rw [erm]) rfl) (Ex.geq rfl rfl) ?_
  refine WL.u rfl rfl (Wt.plain rfl) (Ex.pickT rfl (by rw [erm]) rfl) ?_
  refine WL.u rfl rfl (Wt.plain rfl) (Ex.move rfl) ?_
  refine WL.u rfl rfl (Wt.guard' rfl rfl rfl (e4) rfl) (Ex.move rfl) ?_
  refine WL.u rfl rfl (Wt.guard' rfl rfl rfl (e4) rfl) (Ex.geq rfl rfl) ?_
  refine WL.u rfl rfl (Wt.plain rfl) (Ex.pickT rfl (e4) rfl) ?_
  refine WL.u rfl rfl (Wt.plain rfl) (Ex.assign rfl) ?_
  refine WL.next ?_
  refine WC.ret ?_
  refine WN.body1 rfl rfl ?_
  exact ⟨congrArg Value.bool e1, hH.keep⟩

end Go.Proofs.YtmhmdlgcdeodmaaDoor
