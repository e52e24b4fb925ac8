/- Joined terms: partners and rounds by the reference's joining. -/
import Derived.Test.YtamkbmhgclpidaaJnw
import Derived.Test.YtamkbmhgclpidaaJnA
import Derived.Test.YtamkbmhgclpidaaTmO
import Derived.Test.YtamkbmhgclpidaaJnFe
namespace Go.Proofs.Ytamkbmhgclpidaa
set_option maxRecDepth 100000
set_option linter.unusedSimpArgs false
set_option linter.unusedVariables false
open Go Go.RowKit
theorem tuP_inj {g : Grid} (h : GridOk g) {p q : Nat} (hp : p < ports g) (hq : q < ports g) (e : tuP (nR g) (nC g) p = tuP (nR g) (nC g) q) : p = q := by
  have a := (tu_port h hp).2.1
  have b := (tu_port h hq).2.1
  rw [e, b] at a
  exact (enter_inj h.sz hq hp (tu_inj h (enter_ok h.sz hq) (enter_ok h.sz hp) a)).symm
theorem turn_get {g : Grid} (h : GridOk g) {p : Nat} (hp : p < ports g) : (pairsI (turnG g)).getD (tuP (nR g) (nC g) p) 0 = ((tuP (nR g) (nC g) (way g p).2 : Nat) : Int) := by
  rw [pairsI_get _ (by rw [turn_ports h]; exact (tu_port h hp).1), tu_way h hp]
theorem crossTo_all {l : List Int} : ∀ k, (∀ i, i < k → crossP l i = true) → crossTo l k = true
  | 0, _ => rfl
  | k + 1, h => by rw [crossTo, crossTo_all k fun i hi => h i (by omega), h k (by omega)]; rfl
theorem pairs_cross {g : Grid} (h : GridOk g) : pairB (nR g) (nC g) (pairsI g) = true := by
  have hl := pairsI_len g
  have n1 : 1 ≤ nR g := h.n1
  have n5 : nR g ≤ 5 := h.n5
  have m1 : 1 ≤ nC g := h.m1
  have m5 : nC g ≤ 5 := h.m5
  have hp : ports g = 2 * nR g + 2 * nC g := rfl
  unfold pairB crossB
  rw [decide_eq_true (show (1 : Int) ≤ (nR g : Int) ∧ (nR g : Int) ≤ 5 ∧ (1 : Int) ≤ (nC g : Int) ∧ (nC g : Int) ≤ 5 by omega), decide_eq_true (show ((pairsI g).length : Int) = 2 * (nR g : Int) + 2 * (nC g : Int) by omega), decide_eq_true (show (4 : Int) ≤ (pairsI g).length ∧ ((pairsI g).length : Int) ≤ 20 by omega)]
  rw [crossTo_all _ fun i hi => ?_]
  · rfl
  · rw [hl] at hi
    have he := way_end h.sz hi
    have hn := way_ne h.sz hi
    have hb := way_back h.sz hi
    unfold crossP
    rw [pairsI_get g hi, Int.toNat_natCast, pairsI_get g he, hb, hl]
    rw [decide_eq_true (show (0 : Int) ≤ ((way g i).2 : Int) ∧ ((way g i).2 : Int) ≤ (ports g : Int) - 1 by omega), decide_eq_true (show ((way g i).2 : Int) ≠ (i : Int) by omega)]
    simp
def turnK : Nat → Grid → Grid
  | 0, g => g
  | k + 1, g => turnG (turnK k g)
theorem turnK_ok {g : Grid} (h : GridOk g) : ∀ k, GridOk (turnK k g)
  | 0 => h
  | k + 1 => (turnG_ok (turnK_ok h k)).1
theorem New.sl {α : Type} {r : Rep α} {e : TypeId} {w0 w : World} {p : Option Addr} {n c : Nat} {l : List α} (h : New r e w0 w (.slice p n c) l) : Sl r w p l := by
  obtain ⟨b, cap, cur, e1, _, hb, ho⟩ := h.own
  cases e1
  exact ho.sl0 hb
theorem New.base {α : Type} {r : Rep α} {e : TypeId} {w0 w1 w : World} {v : Value} {l : List α} (k : w0.heap.size ≤ w1.heap.size) (h : New r e w1 w v l) : New r e w0 w v l := by
  obtain ⟨b, cap, cur, e1, h2, h3⟩ := h
  exact ⟨b, cap, cur, e1, Nat.le_trans k h2, h3⟩
theorem Own.intsL (L : List Int) (h : L.length ≤ 1000) : Own rInt (L.map rInt.val).toArray L.length L := by
  refine ⟨by simp [show rInt.sz = 1 from rfl], Nat.le_refl _, by omega, ?_⟩
  unfold Rw
  rw [flat_one rfl, show rInt.sz = 1 from rfl, Nat.mul_one]
  exact List.take_of_length_le (by simp)
theorem q_at {w : World} {b j k : Nat} {l : List Qd} {x : Qd} {u : Value} (h : Sl rQd w (some ⟨b, 0, none⟩) l) (hx : l[j]? = some x) (hu : (rQd.cells x)[k]? = some u) : w.cell? ⟨b, 0 + (j * 4 + k), none⟩ = some u := h.cell hx hu
theorem leaf_facts {c : UInt8} (h : okL c = true) : (c = 46 ∧ pairsI [[c]] = [2, 3, 0, 1] ∧ (rounds [[c]]).length = 0) ∨ (c = 114 ∧ pairsI [[c]] = [3, 2, 1, 0] ∧ (rounds [[c]]).length = 0) ∨ (c = 102 ∧ pairsI [[c]] = [1, 0, 3, 2] ∧ (rounds [[c]]).length = 0) := by
  have h := of_decide_eq_true h
  rcases h with rfl | rfl | rfl
  · exact .inl ⟨rfl, by decide +kernel, by decide +kernel⟩
  · exact .inr (.inl ⟨rfl, by decide +kernel, by decide +kernel⟩)
  · exact .inr (.inr ⟨rfl, by decide +kernel, by decide +kernel⟩)
theorem rounds_le {g : Grid} (h : GridOk g) : (rounds g).length ≤ 100 := by
  have := rounds_len g; have := cells_le h; omega
theorem tp_ok (s : Str) : (termPairs s).2 = (termT s).isSome ∧ (termRounds s).2 = (termT s).isSome := by
  unfold termPairs termRounds
  cases termT s <;> exact ⟨rfl, rfl⟩
theorem termPairs_len (s : Str) : (termPairs s).1.length ≤ 20 := by
  unfold termPairs
  cases h : termT s with
  | none => simp
  | some t =>
    obtain ⟨hW, hv⟩ := termT_ok h
    have hG := (gridT_ok hW hv).1
    have := ports_le hG
    show (pairsI (gridT t)).length ≤ 20
    rw [pairsI_len]; omega
theorem rd_tq {lo : Nat} {w : World} {s : Str} {t : Tm} {q : Qd} {e : Nat} (h60 : s.length ≤ 60) (ht : termT s = some t) (h : RdQ lo w (rdV s (s.length + 1) 0) q e) : TQ lo w t q := by
  rw [termT_rdV h60] at ht
  cases hr : rdV s (s.length + 1) 0 with
  | none => rw [hr] at ht; cases ht
  | some x =>
    obtain ⟨t', e'⟩ := x
    rw [hr] at ht h
    dsimp only at ht
    split at ht
    · cases ht; exact h.2.2
    · cases ht

theorem sl6jMap (g : Grid) (nl : List Int) (a a2 : Option Addr) (cap cap2 : Nat) (w : World) (hp : Sl rInt w a (pairsI g)) (hn : Sl rInt w a2 nl) (hG : GridOk g) (hl : LF nl (ports g) (fun c => ((tuP (nR g) (nC g) c : Nat) : Int))) : Fn Try.prog 67 [.slice a (pairsI g).length cap, .slice a2 nl.length cap2] w (fun v w1 => Keep [] w w1 ∧ New rInt 3 w w1 v (pairsI (turnG g))) := by
  refine Fn.enter (n := 30) Try.func67 rfl rfl rfl ?_
  show WC _ _ _ _ [(0, .slice a (pairsI g).length cap), (1, .slice a2 nl.length cap2)] _
  have hH := Hp.start [] w
  have hpl := pairsI_len g
  have hple := ports_le hG
  have hnl := hl.len
  have hp0 : 0 < ports g := by have := hG.n1; unfold ports; dsimp only [nR]; omega
  obtain ⟨b, off, rfl⟩ := hp.addr (by omega)
  obtain ⟨b2, off2, rfl⟩ := hn.addr (by omega)
  refine WC.seq ?_
  refine WC.region ?_
  refine WL.u rfl rfl (Wt.plain rfl) (Ex.assign rfl) ?_
  refine WL.next ?_
  refine WC.seq ?_
  refine WC.region ?_
  refine WL.u rfl rfl (Wt.plain rfl) (Ex.move rfl) ?_
  refine WL.u rfl rfl (Wt.plain rfl) (Ex.lenSl Try.underlying22 rfl) ?_
  refine WL.makeSlice Try.underlying22 ty3 rfl rfl (by omega) (by omega) rfl (Wt.plain rfl) hH (fun b9 wn hb9 hk9 hH => ?_)
  have ho9 := Own.made rInt (z := vint 0) 0 rfl rfl (k := (pairsI g).length) (by omega)
  refine WL.u rfl rfl (Wt.plain rfl) (Ex.assign rfl) ?_
  refine WL.next ?_
  refine WC.seq ?_
  refine WC.seq ?_
  refine WC.region ?_
  refine WL.u rfl rfl (Wt.plain rfl) (Ex.assign rfl) ?_
  refine WL.next ?_
  refine WC.block ?_
  refine WC.loop (ι := Nat × (Array Value) × (List Int)) (fun (p, cur9, out) => [(0, .slice (some ⟨b, off, none⟩) (pairsI g).length cap), (1, .slice (some ⟨b2, off2, none⟩) nl.length cap2), (5, vsl b9 (pairsI g).length (pairsI g).length), (6, vint p)]) (fun (p, cur9, out) wn => Hp [] w wn [(b9, .cells cur9 3 (0, 0))] ∧ Own rInt cur9 (pairsI g).length out ∧ out.length = (pairsI g).length ∧ (∀ q, q < p → out.getD (tuP (nR g) (nC g) q) 0 = ((tuP (nR g) (nC g) (way g q).2 : Nat) : Int)) ∧ p ≤ (pairsI g).length) (fun (p, cur9, out) => (pairsI g).length - p) ((0, madeCells (vint 0).cells ((pairsI g).length * 1), List.replicate (pairsI g).length 0)) (by exact ⟨rfl, rfl, rfl, rfl, trivial⟩) ?_ ?_
  · exact ⟨hH, ho9, by simp, fun q hq => by omega, Nat.zero_le _⟩
  rintro ⟨p, cur9, out⟩ wn ⟨hH, ho9, hol, hM, hi⟩
  intro mu0 hmu; try dsimp only at hmu
  show WC _ _ _ _ [(0, .slice (some ⟨b, off, none⟩) (pairsI g).length cap), (1, .slice (some ⟨b2, off2, none⟩) nl.length cap2), (5, vsl b9 (pairsI g).length (pairsI g).length), (6, vint p)] _
  refine WC.seq ?_
  refine WC.seq ?_
  refine WC.region ?_
  refine WL.u rfl rfl (Wt.plain rfl) (Ex.move rfl) ?_
  refine WL.u rfl rfl (Wt.plain rfl) (Ex.move rfl) ?_
  refine WL.u rfl rfl (Wt.plain rfl) (Ex.lenSl Try.underlying22 rfl) ?_
  refine WL.u rfl rfl (Wt.plain rfl) (Ex.lss rfl rfl) ?_
  refine WL.next ?_
  refine WC.cond rfl (fun hc1 => ?_) (fun hc1 => ?_)
  · have hc1' := hc1; try simp only [decide_eq_true_eq, decide_eq_false_iff_not, Bool.not_eq_true', Bool.not_eq_false', Bool.not_eq_true, Bool.not_eq_false] at hc1'
    have hlt : p < ports g := by omega
    have hv1 : nl.getD p 0 = ((tuP (nR g) (nC g) p : Nat) : Int) := hl.get p hlt
    have hv2 := pairsI_get g hlt
    have hwe := way_end hG.sz hlt
    have hv3 : nl.getD (way g p).2 0 = ((tuP (nR g) (nC g) (way g p).2 : Nat) : Int) := hl.get _ hwe
    have htp := (tu_port hG hlt).1
    refine WC.skip ?_
    refine WN.next ?_
    refine WC.seq ?_
    refine WC.block ?_
    refine WC.tail 13 rfl (by kernel_rfl) ?_
    replace hH := hH.drew
    refine WS.u rfl rfl (Wt.plain rfl) (Ex.move rfl) ?_
    refine WS.u rfl rfl (Wt.plain rfl) (Ex.move rfl) ?_
    refine WS.u rfl rfl (Wt.plain rfl) (Ex.move rfl) ?_
    refine WS.u rfl rfl (Wt.plain rfl) (Ex.indexAddr Try.underlying22 ty3 rfl rfl (by omega)) ?_
    refine WS.u rfl rfl (Wt.plain rfl) (Ex.loadSl flat3 (hn.kept hH.keep) rfl rfl (getD_get nl p 0 (by omega))) ?_
    refine WS.u rfl rfl (Wt.plain rfl) (Ex.move rfl) ?_
    refine WS.u rfl rfl (Wt.plain rfl) (Ex.move rfl) ?_
    refine WS.u rfl rfl (Wt.plain rfl) (Ex.move rfl) ?_
    refine WS.u rfl rfl (Wt.plain rfl) (Ex.indexAddr Try.underlying22 ty3 rfl rfl (by omega)) ?_
    refine WS.u rfl rfl (Wt.plain rfl) (Ex.loadSl flat3 (hp.kept hH.keep) rfl rfl (getD_get (pairsI g) p 0 (by omega))) ?_
    rw [hv1, hv2]
    refine WS.u rfl rfl (Wt.plain rfl) (Ex.indexAddr Try.underlying22 ty3 rfl rfl (by omega)) ?_
    refine WS.u rfl rfl (Wt.plain rfl) (Ex.loadSl flat3 (hn.kept hH.keep) rfl rfl (getD_get nl (way g p).2 0 (by omega))) ?_
    rw [hv3]
    refine WS.u rfl rfl (Wt.plain rfl) (Ex.indexAddr Try.underlying22 ty3 rfl rfl (by omega)) ?_
    refine WS.nil ?_
    refine WL.store1 ty3 rfl rfl rfl (Wt.plain rfl) hH (ho9.idx rfl (by omega)) (by simp) (fun wn hk hH => ?_)
    replace ho9 := ho9.set rfl (tuP (nR g) (nC g) p) ((tuP (nR g) (nC g) (way g p).2 : Nat) : Int)
    refine WL.last ?_
    refine WN.normalBlock ?_
    refine WN.next ?_
    refine WC.region ?_
    refine WL.u rfl rfl (Wt.plain rfl) (Ex.move rfl) ?_
    refine WL.u rfl rfl (Wt.plain rfl) (Ex.add rfl rfl (by omega)) ?_
    refine WL.u rfl rfl (Wt.plain rfl) (Ex.assign rfl) ?_
    refine WL.last ?_
    refine WN.round (p + 1, cur9.setIfInBounds (0 + ((tuP (nR g) (nC g) p : Nat) : Int).toNat * 1) (rInt.val ((tuP (nR g) (nC g) (way g p).2 : Nat) : Int)), out.set (tuP (nR g) (nC g) p) ((tuP (nR g) (nC g) (way g p).2 : Nat) : Int)) (by exact ⟨rfl, rfl, rfl, rfl, trivial⟩) ?_ ?_
    · exact ⟨hH, ho9, by rw [List.length_set]; exact hol, fun q hq => (by
        rw [gset _ _ _ _ (by omega)]
        by_cases e : tuP (nR g) (nC g) q = tuP (nR g) (nC g) p
        · rw [if_pos e, tuP_inj hG (by omega) hlt e]
        · rw [if_neg e]
          refine hM q ?_
          rcases Nat.lt_succ_iff_lt_or_eq.1 hq with h | h
          · exact h
          · exact absurd (by rw [h]) e), by omega⟩
    · (try dsimp only); omega
  have hc1' := hc1; try simp only [decide_eq_true_eq, decide_eq_false_iff_not, Bool.not_eq_true', Bool.not_eq_false', Bool.not_eq_true, Bool.not_eq_false] at hc1'
  refine WC.exit ?_
  refine WN.exitThen ?_
  refine WN.exitThen ?_
  refine WN.exitHere ?_
  refine WN.next ?_
  refine WC.seq ?_
  refine WC.region ?_
  refine WL.u rfl rfl (Wt.plain rfl) (Ex.move rfl) ?_
  refine WL.u rfl rfl (Wt.plain rfl) (Ex.assign rfl) ?_
  refine WL.next ?_
  refine WC.ret ?_
  refine WN.body1 rfl rfl ?_
  have hpe : p = ports g := by omega
  have hout : out = pairsI (turnG g) := ext_int (by rw [pairsI_len, hol, hpl, turn_ports hG]) (fun q hq => by
    have hq2 : q < ports g := by omega
    have h3 := (tu_port hG hq2).2.2
    have hlt : (q + nR g + 2 * nC g) % (2 * nR g + 2 * nC g) < ports g := Nat.mod_lt _ (by show 0 < ports g; exact hp0)
    rw [← h3, hM _ (by omega), turn_get hG hlt])
  have hN := New.of (hH.front 0 rfl) ho9 (hH.base 0 rfl)
  rw [hol, hout] at hN
  exact ⟨hH.keep, hN⟩

theorem sJoinTurn (g : Grid) (n m : Nat) (a : Option Addr) (cap : Nat) (w : World) (hp : Sl rInt w a (pairsI g)) (hG : GridOk g) (hn : n = nR g) (hm : m = nC g) : Fn Try.prog 58 [vint n, vint m, .slice a (pairsI g).length cap] w (fun v w1 => ∃ x, v = .tuple #[x, .bool true] ∧ Keep [] w w1 ∧ New rInt 3 w w1 x (pairsI (turnG g))) := by
  refine Fn.enter (n := 36) Try.func58 rfl rfl rfl ?_
  show WC _ _ _ _ [(0, vint n), (1, vint m), (2, .slice a (pairsI g).length cap)] _
  have hH := Hp.start [] w
  subst hn
  subst hm
  have hpl := pairsI_len g
  have hple := ports_le hG
  have hpe : ports g = 2 * nR g + 2 * nC g := rfl
  have hn5 : nR g ≤ 5 := hG.n5
  refine WC.seq ?_
  refine WC.region ?_
  refine WL.u rfl rfl (Wt.plain rfl) (Ex.assign rfl) ?_
  refine WL.u rfl rfl (Wt.plain rfl) (Ex.assign rfl) ?_
  refine WL.next ?_
  refine WC.seq ?_
  refine WC.seq ?_
  refine WC.region ?_
  refine WL.u rfl rfl (Wt.plain rfl) (Ex.move rfl) ?_
  refine WL.u rfl rfl (Wt.plain rfl) (Ex.move rfl) ?_
  refine WL.u rfl rfl (Wt.plain rfl) (Ex.move rfl) ?_
  refine WL.call callable66 rfl (Wt.plain rfl) rfl rfl (sl6jOf (nR g) (nC g) (pairsI g) _ _ _ (hp.kept hH.keep)) ?_
  rintro _ _ ⟨rfl, hw⟩; obtain rfl := hw.symm
  refine WL.u rfl rfl (Wt.plain rfl) (Ex.not rfl) ?_
  refine WL.next ?_
  refine WC.condF rfl (by rw [pairs_cross hG] <;> rfl) ?_
  refine WC.skip ?_
  refine WN.next ?_
  refine WC.seq ?_
  refine WC.region ?_
  refine WL.u rfl rfl (Wt.plain rfl) (Ex.move rfl) ?_
  refine WL.u rfl rfl (Wt.plain rfl) (Ex.lenSl Try.underlying22 rfl) ?_
  refine WL.u rfl rfl (Wt.plain rfl) (Ex.assign rfl) ?_
  refine WL.next ?_
  refine WC.seq ?_
  refine WC.region ?_
  refine WL.lit0 Try.underlying22 ty3 rfl (Wt.plain rfl) hH (fun b19 wn hb19 hk19 hH => ?_)
  have ho19 := Own.nil rInt
  refine WL.u rfl rfl (Wt.plain rfl) (Ex.assign rfl) ?_
  refine WL.next ?_
  refine WC.seq ?_
  refine WC.seq ?_
  refine WC.region ?_
  refine WL.u rfl rfl (Wt.plain rfl) (Ex.assign rfl) ?_
  refine WL.next ?_
  refine WC.block ?_
  refine WC.loop (ι := Nat × Nat × Nat × (Array Value) × (List Int)) (fun (i, b19, cap19, cur19, nl) => [(0, vint (nR g)), (2, .slice a (pairsI g).length cap), (8, vint (pairsI g).length), (9, vsl b19 nl.length cap19), (10, vint i)]) (fun (i, b19, cap19, cur19, nl) wn => Hp [] w wn [(b19, .cells cur19 3 (0, 0))] ∧ Own rInt cur19 cap19 nl ∧ LF nl i (fun c => ((tuP (nR g) (nC g) c : Nat) : Int)) ∧ i ≤ ports g) (fun (i, b19, cap19, cur19, nl) => ports g - i) ((0, b19, 0, #[], [])) (by exact ⟨rfl, rfl, rfl, rfl, rfl, trivial⟩) ?_ ?_
  · exact ⟨hH, ho19, ⟨rfl, fun c hc => by omega⟩, Nat.zero_le _⟩
  rintro ⟨i, b19, cap19, cur19, nl⟩ wn ⟨hH, ho19, hl, hi⟩
  have hnl := hl.len
  intro mu0 hmu; try dsimp only at hmu
  show WC _ _ _ _ [(0, vint (nR g)), (2, .slice a (pairsI g).length cap), (8, vint (pairsI g).length), (9, vsl b19 nl.length cap19), (10, vint i)] _
  refine WC.seq ?_
  refine WC.seq ?_
  refine WC.region ?_
  refine WL.u rfl rfl (Wt.plain rfl) (Ex.move rfl) ?_
  refine WL.u rfl rfl (Wt.plain rfl) (Ex.move rfl) ?_
  refine WL.u rfl rfl (Wt.plain rfl) (Ex.lss rfl rfl) ?_
  refine WL.next ?_
  refine WC.cond rfl (fun hc2 => ?_) (fun hc2 => ?_)
  · have hc2' := hc2; try simp only [decide_eq_true_eq, decide_eq_false_iff_not, Bool.not_eq_true', Bool.not_eq_false', Bool.not_eq_true, Bool.not_eq_false] at hc2'
    have hlt : i < ports g := by omega
    refine WC.skip ?_
    refine WN.next ?_
    refine WC.seq ?_
    refine WC.block ?_
    refine WC.region ?_
    refine WL.u rfl rfl (Wt.plain rfl) (Ex.move rfl) ?_
    refine WL.u rfl rfl (Wt.plain rfl) (Ex.move rfl) ?_
    refine WL.u rfl rfl (Wt.plain rfl) (Ex.move rfl) ?_
    refine WL.u rfl rfl (Wt.plain rfl) (Ex.add rfl rfl (by omega)) ?_
    refine WL.u rfl rfl (Wt.plain rfl) (Ex.move rfl) ?_
    refine WL.u rfl rfl (Wt.plain rfl) ((Ex.rem rfl rfl (by omega) (by omega)).to (congrArg (Value.int IntKind.i64) (show _ = ((tuP (nR g) (nC g) i : Nat) : Int) by rw [hpl]; exact (Int.natCast_emod (i + nR g) (2 * nR g + 2 * nC g)).symm))) ?_
    refine WL.append1 (r := rInt) (u := ((tuP (nR g) (nC g) i : Nat) : Int)) Try.underlying22 ty3 rfl rfl (fun _ => rfl) (fun _ => rfl) rfl rfl (Wt.plain rfl) (fun _ => (Wt.plain rfl)) hH ho19 rfl (by omega) (by omega) (fun b19 cap19 cur19 wn x19 hb19 hk19 hH ho19 => ?_)
    refine WL.u rfl rfl (Wt.plain rfl) (Ex.assign rfl) ?_
    refine WL.last ?_
    refine WN.normalBlock ?_
    refine WN.next ?_
    refine WC.region ?_
    refine WL.u rfl rfl (Wt.plain rfl) (Ex.move rfl) ?_
    refine WL.u rfl rfl (Wt.plain rfl) (Ex.add rfl rfl (by omega)) ?_
    refine WL.u rfl rfl (Wt.plain rfl) (Ex.assign rfl) ?_
    refine WL.last ?_
    refine WN.round (i + 1, b19, cap19, cur19, nl ++ [((tuP (nR g) (nC g) i : Nat) : Int)]) (by exact ⟨rfl, rfl, rfl, rfl, rfl, trivial⟩) ?_ ?_
    · exact ⟨hH, ho19, hl.snoc rfl, by omega⟩
    · (try dsimp only); omega
  have hc2' := hc2; try simp only [decide_eq_true_eq, decide_eq_false_iff_not, Bool.not_eq_true', Bool.not_eq_false', Bool.not_eq_true, Bool.not_eq_false] at hc2'
  have hie : i = ports g := by omega
  rw [hie] at hl
  refine WC.exit ?_
  refine WN.exitThen ?_
  refine WN.exitThen ?_
  refine WN.exitHere ?_
  refine WN.next ?_
  refine WC.seq ?_
  refine WC.region ?_
  refine WL.u rfl rfl (Wt.plain rfl) (Ex.move rfl) ?_
  refine WL.u rfl rfl (Wt.plain rfl) (Ex.move rfl) ?_
  refine WL.call callable67 rfl (Wt.plain rfl) rfl rfl (sl6jMap g nl _ _ _ _ _ (hp.kept hH.keep) (ho19.slAt hH 0 rfl) hG hl) ?_
  rintro _ wn ⟨hC, hN⟩; obtain ⟨b35, cap35, cur35, rfl, hge35, hbb35, ho35⟩ := hN.own; replace hH := hH.push hC hge35 hbb35; clear hC hN
  refine WL.u rfl rfl (Wt.plain rfl) (Ex.assign rfl) ?_
  refine WL.u rfl rfl (Wt.plain rfl) (Ex.assign rfl) ?_
  refine WL.next ?_
  refine WC.ret ?_
  refine WN.body2 rfl rfl rfl ?_
  exact ⟨_, rfl, hH.keep, New.of (hH.front 0 rfl) ho35 (hH.base 0 rfl)⟩

theorem sl11Turned (g : Grid) (n m j : Nat) (a : Option Addr) (cap : Nat) (w : World) (hp : Sl rInt w a (pairsI g)) (hG : GridOk g) (hn : n = nR g) (hm : m = nC g) (hj : 1 ≤ j) (hj4 : j ≤ 4) : Fn Try.prog 45 [vint n, vint m, .slice a (pairsI g).length cap, vint j] w (fun v w1 => Keep [] w w1 ∧ New rInt 3 w w1 v (pairsI (turnK j g))) := by
  refine Fn.enter (n := 27) Try.func45 rfl rfl rfl ?_
  show WC _ _ _ _ [(0, vint n), (1, vint m), (2, .slice a (pairsI g).length cap), (3, vint j)] _
  have hH := Hp.start [] w
  subst hn
  subst hm
  refine WC.seq ?_
  refine WC.region ?_
  refine WL.u rfl rfl (Wt.plain rfl) (Ex.assign rfl) ?_
  refine WL.next ?_
  refine WC.seq ?_
  refine WC.seq ?_
  refine WC.region ?_
  refine WL.u rfl rfl (Wt.plain rfl) (Ex.assign rfl) ?_
  refine WL.next ?_
  refine WC.block ?_
  refine WC.loop (ι := Nat × (Option Addr) × Nat) (fun (i, a1, c1) => [(0, vint (nR (turnK i g))), (1, vint (nC (turnK i g))), (2, .slice a1 (pairsI (turnK i g)).length c1), (3, vint j), (9, vint i)]) (fun (i, a1, c1) wn => Hp [] w wn [] ∧ ((i = 0 ∧ a1 = a) ∨ New rInt 3 w wn (.slice a1 (pairsI (turnK i g)).length c1) (pairsI (turnK i g))) ∧ i ≤ j) (fun (i, a1, c1) => j - i) ((0, a, cap)) (by exact ⟨rfl, rfl, rfl, rfl, rfl, trivial⟩) ?_ ?_
  · exact ⟨hH, .inl ⟨rfl, rfl⟩, Nat.zero_le _⟩
  rintro ⟨i, a1, c1⟩ wn ⟨hH, hA, hi⟩
  intro mu0 hmu; try dsimp only at hmu
  show WC _ _ _ _ [(0, vint (nR (turnK i g))), (1, vint (nC (turnK i g))), (2, .slice a1 (pairsI (turnK i g)).length c1), (3, vint j), (9, vint i)] _
  refine WC.seq ?_
  refine WC.seq ?_
  refine WC.region ?_
  refine WL.u rfl rfl (Wt.plain rfl) (Ex.move rfl) ?_
  refine WL.u rfl rfl (Wt.plain rfl) (Ex.move rfl) ?_
  refine WL.u rfl rfl (Wt.plain rfl) (Ex.lss rfl rfl) ?_
  refine WL.next ?_
  refine WC.cond rfl (fun hc1 => ?_) (fun hc1 => ?_)
  · have hc1' := hc1; try simp only [decide_eq_true_eq, decide_eq_false_iff_not, Bool.not_eq_true', Bool.not_eq_false', Bool.not_eq_true, Bool.not_eq_false] at hc1'
    have hGi := turnK_ok hG i
    obtain ⟨_, t2, t3⟩ := turnG_ok hGi
    have hsl : Sl rInt wn a1 (pairsI (turnK i g)) := by
      rcases hA with ⟨h0, h1⟩ | hN
      · subst h0; subst h1; exact hp.kept hH.keep
      · exact hN.sl
    have hsz := hH.keep.size
    refine WC.skip ?_
    refine WN.next ?_
    refine WC.seq ?_
    refine WC.block ?_
    refine WC.seq ?_
    refine WC.region ?_
    refine WL.u rfl rfl (Wt.plain rfl) (Ex.move rfl) ?_
    refine WL.u rfl rfl (Wt.plain rfl) (Ex.move rfl) ?_
    refine WL.u rfl rfl (Wt.plain rfl) (Ex.move rfl) ?_
    refine WL.call callable58 rfl (Wt.plain rfl) rfl rfl (sJoinTurn (turnK i g) _ _ a1 c1 _ hsl hGi rfl rfl) ?_
    rintro _ wn ⟨x, rfl, hC, hN⟩; replace hN := hN.base hsz; obtain ⟨b20, cap20, cur20, rfl, hge20, hbb20, ho20⟩ := id hN.own; replace hH := hH.call hC; clear hC
    refine WL.u rfl rfl (Wt.plain rfl) (Ex.move rfl) ?_
    refine WL.u rfl rfl (Wt.plain rfl) (Ex.extract rfl rfl) ?_
    refine WL.u rfl rfl (Wt.plain rfl) (Ex.extract rfl rfl) ?_
    refine WL.u rfl rfl (Wt.plain rfl) (Ex.assign rfl) ?_
    refine WL.next ?_
    refine WC.seq ?_
    refine WC.region ?_
    refine WL.u rfl rfl (Wt.plain rfl) (Ex.move rfl) ?_
    refine WL.u rfl rfl (Wt.plain rfl) (Ex.assign rfl) ?_
    refine WL.next ?_
    refine WC.seq ?_
    refine WC.region ?_
    refine WL.u rfl rfl (Wt.plain rfl) (Ex.move rfl) ?_
    refine WL.u rfl rfl (Wt.plain rfl) (Ex.assign rfl) ?_
    refine WL.next ?_
    refine WC.region ?_
    refine WL.u rfl rfl (Wt.plain rfl) (Ex.move rfl) ?_
    refine WL.u rfl rfl (Wt.plain rfl) (Ex.assign rfl) ?_
    refine WL.last ?_
    refine WN.normalBlock ?_
    refine WN.next ?_
    refine WC.region ?_
    refine WL.u rfl rfl (Wt.plain rfl) (Ex.move rfl) ?_
    refine WL.u rfl rfl (Wt.plain rfl) (Ex.add rfl rfl (by omega)) ?_
    refine WL.u rfl rfl (Wt.plain rfl) (Ex.assign rfl) ?_
    refine WL.last ?_
    refine WN.round (i + 1, some ⟨b20, 0, none⟩, cap20) (by exact ⟨congrArg (fun x : Nat => some (vint x)) t2.symm, congrArg (fun x : Nat => some (vint x)) t3.symm, rfl, rfl, rfl, trivial⟩) ?_ ?_
    · exact ⟨hH, .inr hN, by omega⟩
    · (try dsimp only); omega
  have hc1' := hc1; try simp only [decide_eq_true_eq, decide_eq_false_iff_not, Bool.not_eq_true', Bool.not_eq_false', Bool.not_eq_true, Bool.not_eq_false] at hc1'
  have hij : i = j := by omega
  subst hij
  refine WC.exit ?_
  refine WN.exitThen ?_
  refine WN.exitThen ?_
  refine WN.exitHere ?_
  refine WN.next ?_
  refine WC.seq ?_
  refine WC.region ?_
  refine WL.u rfl rfl (Wt.plain rfl) (Ex.move rfl) ?_
  refine WL.u rfl rfl (Wt.plain rfl) (Ex.assign rfl) ?_
  refine WL.next ?_
  refine WC.ret ?_
  refine WN.body1 rfl rfl ?_
  rcases hA with ⟨h0, _⟩ | hN
  · omega
  · exact ⟨hH.keep, hN⟩

theorem sjoinLeaf (c : UInt8) (h : Hd) (w : World) (hc : okL c = true) : Fn Try.prog 33 [.agg #[.int .u8 c.toNat, vint 1, vint 1, .slice h.1 h.2.1 h.2.2]] w (fun v w1 => ∃ x, v = .tuple #[x, vint (rounds (gridT (.leaf c))).length] ∧ Keep [] w w1 ∧ New rInt 3 w w1 x (pairsI (gridT (.leaf c)))) := by
  refine Fn.enter (n := 115) Try.func33 rfl rfl rfl ?_
  show WC _ _ _ _ [(0, .agg #[.int .u8 c.toNat, vint 1, vint 1, .slice h.1 h.2.1 h.2.2])] _
  have hH := Hp.start [] w
  have hf := leaf_facts hc
  refine WC.seq ?_
  refine WC.region ?_
  refine WL.box rfl rfl rfl (Wt.plain rfl) hH (fun b1 wn hb1 hk1 hH => ?_)
  refine WL.u rfl rfl (Wt.plain rfl) (Ex.assign rfl) ?_
  refine WL.u rfl rfl (Wt.plain rfl) (Ex.assign rfl) ?_
  refine WL.next ?_
  refine WC.seq ?_
  refine WC.seq ?_
  refine WC.region ?_
  refine WL.u rfl rfl (Wt.plain rfl) (Ex.fieldAddr fd53_0 rfl) ?_
  refine WL.u rfl rfl (Wt.plain rfl) (Ex.loadHp flat5 rfl hH rfl) ?_
  refine WL.next ?_
  refine WC.block ?_
  refine WC.seq ?_
  refine WC.region ?_
  refine WL.u rfl rfl (Wt.plain rfl) (Ex.eql rfl rfl) ?_
  refine WL.u rfl rfl (Wt.plain rfl) (Ex.assign rfl) ?_
  refine WL.next ?_
  refine WC.cond rfl (fun hc1 => ?_) (fun hc1 => ?_)
  · have he : c = 46 := (u8eq c 46 (by decide)).1 (of_decide_eq_true hc1)
    obtain ⟨hp0, hr0⟩ : pairsI (gridT (.leaf c)) = [2, 3, 0, 1] ∧ (rounds (gridT (.leaf c))).length = 0 := by
      rcases hf with ⟨_, h⟩ | ⟨h, _⟩ | ⟨h, _⟩
      · exact h
      · rw [he] at h; cases h
      · rw [he] at h; cases h
    refine WC.seq ?_
    refine WC.region ?_
    refine WL.lit Try.underlying22 ty3 rfl rfl rfl rfl rfl rfl rfl (Wt.plain rfl) hH (fun b18 wn hb18 hk18 hH => ?_)
    have ho18 := Own.intsL [2, 3, 0, 1] (by decide)
    refine WL.u rfl rfl (Wt.plain rfl) (Ex.assign rfl) ?_
    refine WL.u rfl rfl (Wt.plain rfl) (Ex.assign rfl) ?_
    refine WL.next ?_
    refine WC.ret ?_
    refine WN.retBlock ?_
    refine WN.retThen ?_
    refine WN.body2 rfl rfl rfl ?_
    exact ⟨_, by rw [hr0] <;> rfl, hH.keep, by rw [hp0]; exact New.of (hH.front 0 rfl) ho18 (hH.base 0 rfl)⟩
  have hc1' := hc1; try simp only [decide_eq_true_eq, decide_eq_false_iff_not, Bool.not_eq_true', Bool.not_eq_false', Bool.not_eq_true, Bool.not_eq_false] at hc1'
  refine WC.seq ?_
  refine WC.region ?_
  refine WL.u rfl rfl (Wt.plain rfl) (Ex.eql rfl rfl) ?_
  refine WL.u rfl rfl (Wt.plain rfl) (Ex.assign rfl) ?_
  refine WL.next ?_
  refine WC.cond rfl (fun hc2 => ?_) (fun hc2 => ?_)
  · have he : c = 114 := (u8eq c 114 (by decide)).1 (of_decide_eq_true hc2)
    obtain ⟨hp0, hr0⟩ : pairsI (gridT (.leaf c)) = [3, 2, 1, 0] ∧ (rounds (gridT (.leaf c))).length = 0 := by
      rcases hf with ⟨h, _⟩ | ⟨_, h⟩ | ⟨h, _⟩
      · rw [he] at h; cases h
      · exact h
      · rw [he] at h; cases h
    refine WC.seq ?_
    refine WC.region ?_
    refine WL.lit Try.underlying22 ty3 rfl rfl rfl rfl rfl rfl rfl (Wt.plain rfl) hH (fun b21 wn hb21 hk21 hH => ?_)
    have ho21 := Own.intsL [3, 2, 1, 0] (by decide)
    refine WL.u rfl rfl (Wt.plain rfl) (Ex.assign rfl) ?_
    refine WL.u rfl rfl (Wt.plain rfl) (Ex.assign rfl) ?_
    refine WL.next ?_
    refine WC.ret ?_
    refine WN.retBlock ?_
    refine WN.retThen ?_
    refine WN.body2 rfl rfl rfl ?_
    exact ⟨_, by rw [hr0] <;> rfl, hH.keep, by rw [hp0]; exact New.of (hH.front 0 rfl) ho21 (hH.base 0 rfl)⟩
  have hc2' := hc2; try simp only [decide_eq_true_eq, decide_eq_false_iff_not, Bool.not_eq_true', Bool.not_eq_false', Bool.not_eq_true, Bool.not_eq_false] at hc2'
  refine WC.seq ?_
  refine WC.region ?_
  refine WL.u rfl rfl (Wt.plain rfl) (Ex.eql rfl rfl) ?_
  refine WL.u rfl rfl (Wt.plain rfl) (Ex.assign rfl) ?_
  refine WL.next ?_
  refine WC.cond rfl (fun hc3 => ?_) (fun hc3 => ?_)
  · have he : c = 102 := (u8eq c 102 (by decide)).1 (of_decide_eq_true hc3)
    obtain ⟨hp0, hr0⟩ : pairsI (gridT (.leaf c)) = [1, 0, 3, 2] ∧ (rounds (gridT (.leaf c))).length = 0 := by
      rcases hf with ⟨h, _⟩ | ⟨h, _⟩ | ⟨_, h⟩
      · rw [he] at h; cases h
      · rw [he] at h; cases h
      · exact h
    refine WC.seq ?_
    refine WC.region ?_
    refine WL.lit Try.underlying22 ty3 rfl rfl rfl rfl rfl rfl rfl (Wt.plain rfl) hH (fun b24 wn hb24 hk24 hH => ?_)
    have ho24 := Own.intsL [1, 0, 3, 2] (by decide)
    refine WL.u rfl rfl (Wt.plain rfl) (Ex.assign rfl) ?_
    refine WL.u rfl rfl (Wt.plain rfl) (Ex.assign rfl) ?_
    refine WL.next ?_
    refine WC.ret ?_
    refine WN.retBlock ?_
    refine WN.retThen ?_
    refine WN.body2 rfl rfl rfl ?_
    exact ⟨_, by rw [hr0] <;> rfl, hH.keep, by rw [hp0]; exact New.of (hH.front 0 rfl) ho24 (hH.base 0 rfl)⟩
  exfalso
  rcases hf with ⟨h, _⟩ | ⟨h, _⟩ | ⟨h, _⟩
  · exact of_decide_eq_false hc1 ((u8eq c 46 (by decide)).2 h)
  · exact of_decide_eq_false hc2 ((u8eq c 114 (by decide)).2 h)
  · exact of_decide_eq_false hc3 ((u8eq c 102 (by decide)).2 h)

set_option maxHeartbeats 1000000 in
theorem sjoinB (lo b cap nn mm : Nat) (a c : Tm) (qa qc : Qd) (w : World) (iha : ∀ (w2 : World) (q : Qd), TQ lo w2 a q → Fn Try.prog 33 [rQd.val q] w2 (fun v w3 => ∃ x, v = .tuple #[x, vint (rounds (gridT a)).length] ∧ Keep [] w2 w3 ∧ New rInt 3 w2 w3 x (pairsI (gridT a)))) (ihc : ∀ (w2 : World) (q : Qd), TQ lo w2 c q → Fn Try.prog 33 [rQd.val q] w2 (fun v w3 => ∃ x, v = .tuple #[x, vint (rounds (gridT c)).length] ∧ Keep [] w2 w3 ∧ New rInt 3 w2 w3 x (pairsI (gridT c)))) (hTda : Td a) (hTdc : Td c) (hv : valid (.bin 124 a c) = true) (hs : Sl rQd w (some ⟨b, 0, none⟩) [qa, qc]) (hTa : TQ lo w a qa) (hTc : TQ lo w c qc) (hnn : nn = (sz a).1) : Fn Try.prog 33 [.agg #[.int .u8 (124 : UInt8).toNat, vint nn, vint mm, .slice (some ⟨b, 0, none⟩) 2 cap]] w (fun v w1 => ∃ x, v = .tuple #[x, vint (rounds (gridT (.bin 124 a c))).length] ∧ Keep [] w w1 ∧ New rInt 3 w w1 x (pairsI (gridT (.bin 124 a c)))) := by
  refine Fn.enter (n := 115) Try.func33 rfl rfl rfl ?_
  show WC _ _ _ _ [(0, .agg #[.int .u8 (124 : UInt8).toNat, vint nn, vint mm, .slice (some ⟨b, 0, none⟩) 2 cap])] _
  have hH := Hp.start [] w
  obtain ⟨va, vc, h1, h2⟩ := valid_b hv
  obtain ⟨hGa, hRa, hCa⟩ := gridT_ok hTda.wf va
  obtain ⟨hGc, hRc, hCc⟩ := gridT_ok hTdc.wf vc
  obtain ⟨qa1, qa2, _⟩ := hTa.size
  obtain ⟨qc1, qc2, _⟩ := hTc.size
  have bs : Bs (gridT a) (gridT c) := ⟨hGa, hGc, by omega, by omega⟩
  have J := bs.jf
  rw [hRa, hCa, hCc, ← hnn, ← qa2, ← qc2] at J
  have hgg : (besD (gridT a) (gridT c)).G = gridT (.bin 124 a c) := (g_b a c).symm
  have hGG : GridOk (gridT (.bin 124 a c)) := by rw [g_b]; exact bs.size.1
  have hrl := rounds_le hGG
  refine WC.seq ?_
  refine WC.region ?_
  refine WL.box rfl rfl rfl (Wt.plain rfl) hH (fun b1 wn hb1 hk1 hH => ?_)
  refine WL.u rfl rfl (Wt.plain rfl) (Ex.assign rfl) ?_
  refine WL.u rfl rfl (Wt.plain rfl) (Ex.assign rfl) ?_
  refine WL.next ?_
  refine WC.seq ?_
  refine WC.seq ?_
  refine WC.region ?_
  refine WL.u rfl rfl (Wt.plain rfl) (Ex.fieldAddr fd53_0 rfl) ?_
  refine WL.u rfl rfl (Wt.plain rfl) (Ex.loadHp flat5 rfl hH rfl) ?_
  refine WL.next ?_
  refine WC.block ?_
  refine WC.seq ?_
  refine WC.region ?_
  refine WL.u rfl rfl (Wt.plain rfl) (Ex.eql rfl rfl) ?_
  refine WL.u rfl rfl (Wt.plain rfl) (Ex.assign rfl) ?_
  refine WL.next ?_
  refine WC.condF rfl (by decide) ?_
  refine WC.seq ?_
  refine WC.region ?_
  refine WL.u rfl rfl (Wt.plain rfl) (Ex.eql rfl rfl) ?_
  refine WL.u rfl rfl (Wt.plain rfl) (Ex.assign rfl) ?_
  refine WL.next ?_
  refine WC.condF rfl (by decide) ?_
  refine WC.seq ?_
  refine WC.region ?_
  refine WL.u rfl rfl (Wt.plain rfl) (Ex.eql rfl rfl) ?_
  refine WL.u rfl rfl (Wt.plain rfl) (Ex.assign rfl) ?_
  refine WL.next ?_
  refine WC.condF rfl (by decide) ?_
  refine WC.skip ?_
  refine WN.normalBlock ?_
  refine WN.next ?_
  refine WC.seq ?_
  refine WC.region ?_
  refine WL.u rfl rfl (Wt.plain rfl) (Ex.fieldAddr fd53_3 rfl) ?_
  refine WL.u rfl rfl (Wt.plain rfl) (Ex.loadHp flat51 rfl hH rfl) ?_
  refine WL.u rfl rfl (Wt.plain rfl) (Ex.indexAddr Try.underlying51 ty53 rfl rfl (by omega)) ?_
  refine WL.u rfl rfl (Wt.plain rfl) (Ex.loadSlS Try.underlying53 ty53 (hs.kept hH.keep) rfl (rfl) rfl) ?_
  refine WL.call callable33 rfl (Wt.plain rfl) rfl rfl (iha _ qa (hTa.kept hH.keep)) ?_
  rintro _ wn ⟨x, rfl, hC, hN⟩; obtain ⟨bva, capva, curva, rfl, hgeva, hbbva, hova⟩ := hN.own; replace hH := hH.push hC hgeva hbbva; clear hC hN
  refine WL.u rfl rfl (Wt.plain rfl) (Ex.move rfl) ?_
  refine WL.u rfl rfl (Wt.plain rfl) (Ex.extract rfl rfl) ?_
  refine WL.u rfl rfl (Wt.plain rfl) (Ex.extract rfl rfl) ?_
  refine WL.u rfl rfl (Wt.plain rfl) (Ex.assign rfl) ?_
  refine WL.u rfl rfl (Wt.plain rfl) (Ex.assign rfl) ?_
  refine WL.next ?_
  refine WC.seq ?_
  refine WC.region ?_
  refine WL.u rfl rfl (Wt.plain rfl) (Ex.fieldAddr fd53_3 rfl) ?_
  refine WL.u rfl rfl (Wt.plain rfl) (Ex.loadHp flat51 rfl (hH.front 1 rfl) rfl) ?_
  refine WL.u rfl rfl (Wt.plain rfl) (Ex.indexAddr Try.underlying51 ty53 rfl rfl (by omega)) ?_
  refine WL.u rfl rfl (Wt.plain rfl) (Ex.loadSlS Try.underlying53 ty53 (hs.kept hH.keep) rfl (rfl) rfl) ?_
  refine WL.call callable33 rfl (Wt.plain rfl) rfl rfl (ihc _ qc (hTc.kept hH.keep)) ?_
  rintro _ wn ⟨x, rfl, hC, hN⟩; obtain ⟨bvc, capvc, curvc, rfl, hgevc, hbbvc, hovc⟩ := hN.own; replace hH := hH.push hC hgevc hbbvc; clear hC hN
  refine WL.u rfl rfl (Wt.plain rfl) (Ex.move rfl) ?_
  refine WL.u rfl rfl (Wt.plain rfl) (Ex.extract rfl rfl) ?_
  refine WL.u rfl rfl (Wt.plain rfl) (Ex.extract rfl rfl) ?_
  refine WL.u rfl rfl (Wt.plain rfl) (Ex.assign rfl) ?_
  refine WL.u rfl rfl (Wt.plain rfl) (Ex.assign rfl) ?_
  refine WL.next ?_
  refine WC.seq ?_
  refine WC.seq ?_
  refine WC.region ?_
  refine WL.u rfl rfl (Wt.plain rfl) (Ex.fieldAddr fd53_0 rfl) ?_
  replace hH := hH.f2
  refine WL.u rfl rfl (Wt.plain rfl) (Ex.loadHp flat5 rfl hH rfl) ?_
  refine WL.u rfl rfl (Wt.plain rfl) (Ex.eql rfl rfl) ?_
  refine WL.next ?_
  refine WC.condT rfl (by decide) ?_
  refine WC.seq ?_
  have hQ := hH
  refine WC.plan (Keep [] _) [(0, true), (1, true), (2, true), (3, true), (4, true), (5, true), (6, true), (7, true), (8, true), (9, true), (10, true), (11, true), (12, true), (13, true), (14, false), (15, true), (16, true), (17, true), (18, true), (19, true)] rfl (by kernel_rfl) (Keep.drew _ _) (fun hR => ?_)
  replace hH := hH.drew
  refine WPl.q rfl rfl rfl (Wt.plain rfl) (fun w hC => Ex.fieldAddr fd53_1 rfl) ?_
  refine WPl.q rfl rfl rfl (Wt.plain rfl) (fun w hC => Ex.loadK flat3 rfl (hQ.at 0 rfl) hC (by simp) rfl) ?_
  refine WPl.q rfl rfl rfl (Wt.plain rfl) (fun w hC => Ex.fieldAddr fd53_3 rfl) ?_
  refine WPl.q rfl rfl rfl (Wt.plain rfl) (fun w hC => Ex.loadK flat51 rfl (hQ.at 0 rfl) hC (by simp) rfl) ?_
  refine WPl.q rfl rfl rfl (Wt.plain rfl) (fun w hC => Ex.indexAddr Try.underlying51 ty53 rfl rfl (by omega)) ?_
  refine WPl.q rfl rfl rfl (Wt.plain rfl) (fun w hC => Ex.fieldAddr fd53_2 rfl) ?_
  refine WPl.q rfl rfl rfl (Wt.plain rfl) (fun w hC => Ex.load flat3 rfl (q_at (j := 0) (k := 2) ((hs.kept hQ.keep).kept hC) rfl rfl)) ?_
  refine WPl.q rfl rfl rfl (Wt.plain rfl) (fun w hC => Ex.move rfl) ?_
  refine WPl.q rfl rfl rfl (Wt.plain rfl) (fun w hC => Ex.fieldAddr fd53_3 rfl) ?_
  refine WPl.q rfl rfl rfl (Wt.plain rfl) (fun w hC => Ex.loadK flat51 rfl (hQ.at 0 rfl) hC (by simp) rfl) ?_
  refine WPl.q rfl rfl rfl (Wt.plain rfl) (fun w hC => Ex.indexAddr Try.underlying51 ty53 rfl rfl (by omega)) ?_
  refine WPl.q rfl rfl rfl (Wt.plain rfl) (fun w hC => Ex.fieldAddr fd53_2 rfl) ?_
  refine WPl.q rfl rfl rfl (Wt.plain rfl) (fun w hC => Ex.load flat3 rfl (q_at (j := 1) (k := 2) ((hs.kept hQ.keep).kept hC) rfl rfl)) ?_
  refine WPl.q rfl rfl rfl (Wt.plain rfl) (fun w hC => Ex.move rfl) ?_
  refine WPl.f rfl ?_
  refine WL.call callable44 rfl (Wt.plain rfl) rfl rfl (sl6jJoined (besD (gridT a) (gridT c)) (gridT a) (gridT c) _ _ _ _ _ _ _ _ J (hova.slAt hH 2 rfl) (hovc.slAt hH 1 rfl)) ?_
  rintro _ wn ⟨x, cc, rfl, hC, hN, hrd⟩; replace hR := hR.trans hC.nil; rw [hgg] at hrd hN; obtain ⟨b59, cap59, cur59, rfl, hge59, hbb59, ho59⟩ := hN.own; replace hH := hH.push hC hge59 hbb59; clear hC hN
  refine WPl.b hR ?_
  refine WPl.q rfl rfl rfl (Wt.plain rfl) (fun w hC => Ex.move rfl) ?_
  refine WPl.q rfl rfl rfl (Wt.plain rfl) (fun w hC => Ex.extract rfl rfl) ?_
  refine WPl.q rfl rfl rfl (Wt.plain rfl) (fun w hC => Ex.extract rfl rfl) ?_
  refine WPl.q rfl rfl rfl (Wt.plain rfl) (fun w hC => Ex.assign rfl) ?_
  refine WPl.q rfl rfl rfl (Wt.plain rfl) (fun w hC => Ex.assign rfl) ?_
  refine WPl.nil (fun hC => ?_); clear hC
  refine WN.next ?_
  refine WC.seq ?_
  refine WC.region ?_
  refine WL.u rfl rfl (Wt.plain rfl) (Ex.move rfl) ?_
  refine WL.u rfl rfl (Wt.plain rfl) (Ex.move rfl) ?_
  refine WL.u rfl rfl (Wt.plain rfl) (Ex.move rfl) ?_
  refine WL.u rfl rfl (Wt.plain rfl) (Ex.add rfl rfl (by omega)) ?_
  refine WL.u rfl rfl (Wt.plain rfl) (Ex.move rfl) ?_
  refine WL.u rfl rfl (Wt.plain rfl) ((Ex.add rfl rfl (by omega)).to (congrArg (Value.int IntKind.i64) (show _ = (((rounds (gridT (.bin 124 a c))).length : Nat) : Int) by omega))) ?_
  refine WL.u rfl rfl (Wt.plain rfl) (Ex.assign rfl) ?_
  refine WL.u rfl rfl (Wt.plain rfl) (Ex.assign rfl) ?_
  refine WL.next ?_
  refine WC.ret ?_
  refine WN.retThen ?_
  refine WN.body2 rfl rfl rfl ?_
  exact ⟨_, rfl, hH.keep, New.of (hH.front 0 rfl) ho59 (hH.base 0 rfl)⟩

set_option maxHeartbeats 1000000 in
theorem sjoinU (lo b cap nn mm : Nat) (a c : Tm) (qa qc : Qd) (w : World) (iha : ∀ (w2 : World) (q : Qd), TQ lo w2 a q → Fn Try.prog 33 [rQd.val q] w2 (fun v w3 => ∃ x, v = .tuple #[x, vint (rounds (gridT a)).length] ∧ Keep [] w2 w3 ∧ New rInt 3 w2 w3 x (pairsI (gridT a)))) (ihc : ∀ (w2 : World) (q : Qd), TQ lo w2 c q → Fn Try.prog 33 [rQd.val q] w2 (fun v w3 => ∃ x, v = .tuple #[x, vint (rounds (gridT c)).length] ∧ Keep [] w2 w3 ∧ New rInt 3 w2 w3 x (pairsI (gridT c)))) (hTda : Td a) (hTdc : Td c) (hv : valid (.bin 45 a c) = true) (hs : Sl rQd w (some ⟨b, 0, none⟩) [qa, qc]) (hTa : TQ lo w a qa) (hTc : TQ lo w c qc) (hnn : nn = (sz a).1 + (sz c).1) (hmm : mm = (sz a).2) : Fn Try.prog 33 [.agg #[.int .u8 (45 : UInt8).toNat, vint nn, vint mm, .slice (some ⟨b, 0, none⟩) 2 cap]] w (fun v w1 => ∃ x, v = .tuple #[x, vint (rounds (gridT (.bin 45 a c))).length] ∧ Keep [] w w1 ∧ New rInt 3 w w1 x (pairsI (gridT (.bin 45 a c)))) := by
  refine Fn.enter (n := 115) Try.func33 rfl rfl rfl ?_
  show WC _ _ _ _ [(0, .agg #[.int .u8 (45 : UInt8).toNat, vint nn, vint mm, .slice (some ⟨b, 0, none⟩) 2 cap])] _
  have hH := Hp.start [] w
  obtain ⟨va, vc, h1, h2⟩ := valid_u hv
  obtain ⟨hGa, hRa, hCa⟩ := gridT_ok hTda.wf va
  obtain ⟨hGc, hRc, hCc⟩ := gridT_ok hTdc.wf vc
  obtain ⟨qa1, qa2, _⟩ := hTa.size
  obtain ⟨qc1, qc2, _⟩ := hTc.size
  obtain ⟨tGa, tRa, tCa⟩ := turnG_ok hGa
  obtain ⟨tGc, tRc, tCc⟩ := turnG_ok hGc
  have bs : Bs (turnG (gridT c)) (turnG (gridT a)) := ⟨tGc, tGa, by omega, by omega⟩
  obtain ⟨sG, sR, sC⟩ := bs.size
  have J := bs.jf
  rw [show nR (turnG (gridT c)) = mm by omega, show nC (turnG (gridT c)) = qc.2.1 by omega, show nC (turnG (gridT a)) = qa.2.1 by omega] at J
  have hgg : (besD (turnG (gridT c)) (turnG (gridT a))).G = (besideG (turnG (gridT c)) (turnG (gridT a))) := rfl
  have htu : turnG (gridT (.bin 45 a c)) = (besideG (turnG (gridT c)) (turnG (gridT a))) := by rw [g_u]; exact turn_under hGa hGc (by omega) (by omega)
  have hGG : GridOk (gridT (.bin 45 a c)) := by rw [g_u]; exact (under_ok hGa hGc (by omega) (by omega)).1
  have hrl := rounds_le hGG
  have hra := turn_rounds hGa
  have hrc := turn_rounds hGc
  have hrt := turn_rounds hGG
  rw [htu] at hrt
  have ht3 : turnK 3 (besideG (turnG (gridT c)) (turnG (gridT a))) = gridT (.bin 45 a c) := by rw [← htu]; exact turn4 hGG
  refine WC.seq ?_
  refine WC.region ?_
  refine WL.box rfl rfl rfl (Wt.plain rfl) hH (fun b1 wn hb1 hk1 hH => ?_)
  refine WL.u rfl rfl (Wt.plain rfl) (Ex.assign rfl) ?_
  refine WL.u rfl rfl (Wt.plain rfl) (Ex.assign rfl) ?_
  refine WL.next ?_
  refine WC.seq ?_
  refine WC.seq ?_
  refine WC.region ?_
  refine WL.u rfl rfl (Wt.plain rfl) (Ex.fieldAddr fd53_0 rfl) ?_
  refine WL.u rfl rfl (Wt.plain rfl) (Ex.loadHp flat5 rfl hH rfl) ?_
  refine WL.next ?_
  refine WC.block ?_
  refine WC.seq ?_
  refine WC.region ?_
  refine WL.u rfl rfl (Wt.plain rfl) (Ex.eql rfl rfl) ?_
  refine WL.u rfl rfl (Wt.plain rfl) (Ex.assign rfl) ?_
  refine WL.next ?_
  refine WC.condF rfl (by decide) ?_
  refine WC.seq ?_
  refine WC.region ?_
  refine WL.u rfl rfl (Wt.plain rfl) (Ex.eql rfl rfl) ?_
  refine WL.u rfl rfl (Wt.plain rfl) (Ex.assign rfl) ?_
  refine WL.next ?_
  refine WC.condF rfl (by decide) ?_
  refine WC.seq ?_
  refine WC.region ?_
  refine WL.u rfl rfl (Wt.plain rfl) (Ex.eql rfl rfl) ?_
  refine WL.u rfl rfl (Wt.plain rfl) (Ex.assign rfl) ?_
  refine WL.next ?_
  refine WC.condF rfl (by decide) ?_
  refine WC.skip ?_
  refine WN.normalBlock ?_
  refine WN.next ?_
  refine WC.seq ?_
  refine WC.region ?_
  refine WL.u rfl rfl (Wt.plain rfl) (Ex.fieldAddr fd53_3 rfl) ?_
  refine WL.u rfl rfl (Wt.plain rfl) (Ex.loadHp flat51 rfl hH rfl) ?_
  refine WL.u rfl rfl (Wt.plain rfl) (Ex.indexAddr Try.underlying51 ty53 rfl rfl (by omega)) ?_
  refine WL.u rfl rfl (Wt.plain rfl) (Ex.loadSlS Try.underlying53 ty53 (hs.kept hH.keep) rfl (rfl) rfl) ?_
  refine WL.call callable33 rfl (Wt.plain rfl) rfl rfl (iha _ qa (hTa.kept hH.keep)) ?_
  rintro _ wn ⟨x, rfl, hC, hN⟩; obtain ⟨bva, capva, curva, rfl, hgeva, hbbva, hova⟩ := hN.own; replace hH := hH.push hC hgeva hbbva; clear hC hN
  refine WL.u rfl rfl (Wt.plain rfl) (Ex.move rfl) ?_
  refine WL.u rfl rfl (Wt.plain rfl) (Ex.extract rfl rfl) ?_
  refine WL.u rfl rfl (Wt.plain rfl) (Ex.extract rfl rfl) ?_
  refine WL.u rfl rfl (Wt.plain rfl) (Ex.assign rfl) ?_
  refine WL.u rfl rfl (Wt.plain rfl) (Ex.assign rfl) ?_
  refine WL.next ?_
  refine WC.seq ?_
  refine WC.region ?_
  refine WL.u rfl rfl (Wt.plain rfl) (Ex.fieldAddr fd53_3 rfl) ?_
  refine WL.u rfl rfl (Wt.plain rfl) (Ex.loadHp flat51 rfl (hH.front 1 rfl) rfl) ?_
  refine WL.u rfl rfl (Wt.plain rfl) (Ex.indexAddr Try.underlying51 ty53 rfl rfl (by omega)) ?_
  refine WL.u rfl rfl (Wt.plain rfl) (Ex.loadSlS Try.underlying53 ty53 (hs.kept hH.keep) rfl (rfl) rfl) ?_
  refine WL.call callable33 rfl (Wt.plain rfl) rfl rfl (ihc _ qc (hTc.kept hH.keep)) ?_
  rintro _ wn ⟨x, rfl, hC, hN⟩; obtain ⟨bvc, capvc, curvc, rfl, hgevc, hbbvc, hovc⟩ := hN.own; replace hH := hH.push hC hgevc hbbvc; clear hC hN
  refine WL.u rfl rfl (Wt.plain rfl) (Ex.move rfl) ?_
  refine WL.u rfl rfl (Wt.plain rfl) (Ex.extract rfl rfl) ?_
  refine WL.u rfl rfl (Wt.plain rfl) (Ex.extract rfl rfl) ?_
  refine WL.u rfl rfl (Wt.plain rfl) (Ex.assign rfl) ?_
  refine WL.u rfl rfl (Wt.plain rfl) (Ex.assign rfl) ?_
  refine WL.next ?_
  refine WC.seq ?_
  refine WC.seq ?_
  refine WC.region ?_
  refine WL.u rfl rfl (Wt.plain rfl) (Ex.fieldAddr fd53_0 rfl) ?_
  replace hH := hH.f2
  refine WL.u rfl rfl (Wt.plain rfl) (Ex.loadHp flat5 rfl hH rfl) ?_
  refine WL.u rfl rfl (Wt.plain rfl) (Ex.eql rfl rfl) ?_
  refine WL.next ?_
  refine WC.condF rfl (by decide) ?_
  refine WC.skip ?_
  refine WN.next ?_
  refine WC.seq ?_
  refine WC.tail 8 rfl (by kernel_rfl) ?_
  replace hH := hH.drew
  refine WS.u rfl rfl (Wt.plain rfl) (Ex.fieldAddr fd53_3 rfl) ?_
  refine WS.u rfl rfl (Wt.plain rfl) (Ex.loadHp flat51 rfl hH rfl) ?_
  refine WS.u rfl rfl (Wt.plain rfl) (Ex.indexAddr Try.underlying51 ty53 rfl rfl (by omega)) ?_
  refine WS.u rfl rfl (Wt.plain rfl) (Ex.fieldAddr fd53_1 rfl) ?_
  refine WS.u rfl rfl (Wt.plain rfl) (Ex.load flat3 rfl (q_at (j := 0) (k := 1) (hs.kept hH.keep) rfl rfl)) ?_
  refine WS.u rfl rfl (Wt.plain rfl) (Ex.fieldAddr fd53_2 rfl) ?_
  refine WS.u rfl rfl (Wt.plain rfl) (Ex.loadHp flat3 rfl hH rfl) ?_
  refine WS.u rfl rfl (Wt.plain rfl) (Ex.move rfl) ?_
  refine WS.nil ?_
  refine WL.call callable45 rfl (Wt.plain rfl) rfl rfl (sl11Turned (gridT a) qa.2.1 mm 1 _ _ _ (hova.slAt hH 2 rfl) hGa (by omega) (by omega) (by decide) (by decide)) ?_
  rintro _ wn ⟨hC, hN⟩; obtain ⟨b76, cap76, cur76, rfl, hge76, hbb76, ho76⟩ := hN.own; replace hH := hH.push hC hge76 hbb76; clear hC hN
  refine WL.u rfl rfl (Wt.plain rfl) (Ex.assign rfl) ?_
  refine WL.next ?_
  refine WC.seq ?_
  refine WC.tail 8 rfl (by kernel_rfl) ?_
  replace hH := hH.drew
  refine WS.u rfl rfl (Wt.plain rfl) (Ex.fieldAddr fd53_3 rfl) ?_
  refine WS.u rfl rfl (Wt.plain rfl) (Ex.loadHp flat51 rfl (hH.front 1 rfl) rfl) ?_
  refine WS.u rfl rfl (Wt.plain rfl) (Ex.indexAddr Try.underlying51 ty53 rfl rfl (by omega)) ?_
  refine WS.u rfl rfl (Wt.plain rfl) (Ex.fieldAddr fd53_1 rfl) ?_
  refine WS.u rfl rfl (Wt.plain rfl) (Ex.load flat3 rfl (q_at (j := 1) (k := 1) (hs.kept hH.keep) rfl rfl)) ?_
  refine WS.u rfl rfl (Wt.plain rfl) (Ex.fieldAddr fd53_2 rfl) ?_
  replace hH := hH.f1
  refine WS.u rfl rfl (Wt.plain rfl) (Ex.loadHp flat3 rfl hH rfl) ?_
  refine WS.u rfl rfl (Wt.plain rfl) (Ex.move rfl) ?_
  refine WS.nil ?_
  refine WL.call callable45 rfl (Wt.plain rfl) rfl rfl (sl11Turned (gridT c) qc.2.1 mm 1 _ _ _ (hovc.slAt hH 2 rfl) hGc (by omega) (by omega) (by decide) (by decide)) ?_
  rintro _ wn ⟨hC, hN⟩; obtain ⟨b85, cap85, cur85, rfl, hge85, hbb85, ho85⟩ := hN.own; replace hH := hH.push hC hge85 hbb85; clear hC hN
  refine WL.u rfl rfl (Wt.plain rfl) (Ex.assign rfl) ?_
  refine WL.next ?_
  refine WC.seq ?_
  have hQ := hH
  refine WC.plan (Keep [] _) [(0, true), (1, true), (2, true), (3, true), (4, true), (5, true), (6, true), (7, true), (8, true), (9, true), (10, true), (11, true), (12, true), (13, true), (14, false), (15, true), (16, true), (17, true), (18, true), (19, true)] rfl (by kernel_rfl) (Keep.drew _ _) (fun hR => ?_)
  replace hH := hH.drew
  refine WPl.q rfl rfl rfl (Wt.plain rfl) (fun w hC => Ex.fieldAddr fd53_2 rfl) ?_
  refine WPl.q rfl rfl rfl (Wt.plain rfl) (fun w hC => Ex.loadK flat3 rfl (hQ.at 1 rfl) hC (by simp) rfl) ?_
  refine WPl.q rfl rfl rfl (Wt.plain rfl) (fun w hC => Ex.fieldAddr fd53_3 rfl) ?_
  refine WPl.q rfl rfl rfl (Wt.plain rfl) (fun w hC => Ex.loadK flat51 rfl (hQ.at 1 rfl) hC (by simp) rfl) ?_
  refine WPl.q rfl rfl rfl (Wt.plain rfl) (fun w hC => Ex.indexAddr Try.underlying51 ty53 rfl rfl (by omega)) ?_
  refine WPl.q rfl rfl rfl (Wt.plain rfl) (fun w hC => Ex.fieldAddr fd53_1 rfl) ?_
  refine WPl.q rfl rfl rfl (Wt.plain rfl) (fun w hC => Ex.load flat3 rfl (q_at (j := 1) (k := 1) ((hs.kept hQ.keep).kept hC) rfl rfl)) ?_
  refine WPl.q rfl rfl rfl (Wt.plain rfl) (fun w hC => Ex.move rfl) ?_
  refine WPl.q rfl rfl rfl (Wt.plain rfl) (fun w hC => Ex.fieldAddr fd53_3 rfl) ?_
  refine WPl.q rfl rfl rfl (Wt.plain rfl) (fun w hC => Ex.loadK flat51 rfl (hQ.at 1 rfl) hC (by simp) rfl) ?_
  refine WPl.q rfl rfl rfl (Wt.plain rfl) (fun w hC => Ex.indexAddr Try.underlying51 ty53 rfl rfl (by omega)) ?_
  refine WPl.q rfl rfl rfl (Wt.plain rfl) (fun w hC => Ex.fieldAddr fd53_1 rfl) ?_
  refine WPl.q rfl rfl rfl (Wt.plain rfl) (fun w hC => Ex.load flat3 rfl (q_at (j := 0) (k := 1) ((hs.kept hQ.keep).kept hC) rfl rfl)) ?_
  refine WPl.q rfl rfl rfl (Wt.plain rfl) (fun w hC => Ex.move rfl) ?_
  refine WPl.f rfl ?_
  refine WL.call callable44 rfl (Wt.plain rfl) rfl rfl (sl6jJoined (besD (turnG (gridT c)) (turnG (gridT a))) (turnG (gridT c)) (turnG (gridT a)) _ _ _ _ _ _ _ _ J (ho85.slAt hH 0 rfl) (ho76.slAt hH 2 rfl)) ?_
  rintro _ wn ⟨x, cc, rfl, hC, hN, hrd⟩; replace hR := hR.trans hC.nil; rw [hgg] at hrd hN; obtain ⟨b101, cap101, cur101, rfl, hge101, hbb101, ho101⟩ := hN.own; replace hH := hH.push hC hge101 hbb101; clear hC hN
  refine WPl.b hR ?_
  refine WPl.q rfl rfl rfl (Wt.plain rfl) (fun w hC => Ex.move rfl) ?_
  refine WPl.q rfl rfl rfl (Wt.plain rfl) (fun w hC => Ex.extract rfl rfl) ?_
  refine WPl.q rfl rfl rfl (Wt.plain rfl) (fun w hC => Ex.extract rfl rfl) ?_
  refine WPl.q rfl rfl rfl (Wt.plain rfl) (fun w hC => Ex.assign rfl) ?_
  refine WPl.q rfl rfl rfl (Wt.plain rfl) (fun w hC => Ex.assign rfl) ?_
  refine WPl.nil (fun hC => ?_); clear hC
  refine WN.next ?_
  refine WC.seq ?_
  refine WC.region ?_
  refine WL.u rfl rfl (Wt.plain rfl) (Ex.fieldAddr fd53_2 rfl) ?_
  replace hH := hH.f2
  refine WL.u rfl rfl (Wt.plain rfl) (Ex.loadHp flat3 rfl hH rfl) ?_
  refine WL.u rfl rfl (Wt.plain rfl) (Ex.fieldAddr fd53_1 rfl) ?_
  refine WL.u rfl rfl (Wt.plain rfl) (Ex.loadHp flat3 rfl hH rfl) ?_
  refine WL.u rfl rfl (Wt.plain rfl) (Ex.move rfl) ?_
  refine WL.call callable45 rfl (Wt.plain rfl) rfl rfl (sl11Turned (besideG (turnG (gridT c)) (turnG (gridT a))) mm nn 3 _ _ _ (ho101.slAt hH 1 rfl) sG (by omega) (by omega) (by decide) (by decide)) ?_
  rintro _ wn ⟨hC, hN⟩; obtain ⟨b109, cap109, cur109, rfl, hge109, hbb109, ho109⟩ := hN.own; replace hH := hH.push hC hge109 hbb109; clear hC hN
  refine WL.u rfl rfl (Wt.plain rfl) (Ex.move rfl) ?_
  refine WL.u rfl rfl (Wt.plain rfl) (Ex.move rfl) ?_
  refine WL.u rfl rfl (Wt.plain rfl) (Ex.add rfl rfl (by omega)) ?_
  refine WL.u rfl rfl (Wt.plain rfl) (Ex.move rfl) ?_
  refine WL.u rfl rfl (Wt.plain rfl) ((Ex.add rfl rfl (by omega)).to (congrArg (Value.int IntKind.i64) (show _ = (((rounds (gridT (.bin 45 a c))).length : Nat) : Int) by omega))) ?_
  refine WL.u rfl rfl (Wt.plain rfl) (Ex.assign rfl) ?_
  refine WL.u rfl rfl (Wt.plain rfl) (Ex.assign rfl) ?_
  refine WL.next ?_
  refine WC.ret ?_
  refine WN.body2 rfl rfl rfl ?_
  have hN := New.of (hH.front 0 rfl) ho109 (hH.base 0 rfl)
  rw [ht3] at hN
  exact ⟨_, by rw [← ht3], hH.keep, hN⟩


theorem sjoinT (lo : Nat) : ∀ (t : Tm), Td t → valid t = true → ∀ (w : World) (q : Qd), TQ lo w t q → Fn Try.prog 33 [rQd.val q] w (fun v w1 => ∃ x, v = .tuple #[x, vint (rounds (gridT t)).length] ∧ Keep [] w w1 ∧ New rInt 3 w w1 x (pairsI (gridT t)))
  | .leaf c, h, _, w, q, ⟨hd, e⟩ => by
    cases h with
    | leaf hc => subst e; exact sjoinLeaf c hd w hc
  | .una s a, h, _, w, q, _ => by cases h
  | .bin s a c, h, hv, w, q, hT => by
    cases h with
    | bin hs ha hc =>
      obtain ⟨b, cap, qa, qc, e, hl, hsl, hTa, hTc⟩ := hT
      subst e
      rcases hs with rfl | rfl
      · obtain ⟨va, vc, _⟩ := valid_b hv
        exact sjoinB lo b cap _ _ a c qa qc w (fun w2 q2 h => sjoinT lo a ha va w2 q2 h) (fun w2 q2 h => sjoinT lo c hc vc w2 q2 h) ha hc hv hsl hTa hTc (by rw [sz_b])
      · obtain ⟨va, vc, _⟩ := valid_u hv
        exact sjoinU lo b cap _ _ a c qa qc w (fun w2 q2 h => sjoinT lo a ha va w2 q2 h) (fun w2 q2 h => sjoinT lo c hc vc w2 q2 h) ha hc hv hsl hTa hTc (by rw [sz_u]) (by rw [sz_u])

theorem sl11Made (s : Str) (w : World) (hs : s.length ≤ 1048577) : Fn Try.prog 20 [vstr s] w (fun v w1 => ∃ x, v = .tuple #[x, vint (termRounds s).1, .bool (termT s).isSome] ∧ Keep [] w w1 ∧ New rInt 3 w w1 x (termPairs s).1) := by
  refine Fn.enter (n := 32) Try.func20 rfl rfl rfl ?_
  show WC _ _ _ _ [(0, vstr s)] _
  have hH := Hp.start [] w
  refine WC.seq ?_
  refine WC.region ?_
  refine WL.u rfl rfl (Wt.plain rfl) (Ex.assign rfl) ?_
  refine WL.u rfl rfl (Wt.plain rfl) (Ex.assign rfl) ?_
  refine WL.u rfl rfl (Wt.plain rfl) (Ex.assign rfl) ?_
  refine WL.next ?_
  refine WC.seq ?_
  refine WC.region ?_
  refine WL.u rfl rfl (Wt.plain rfl) (Ex.move rfl) ?_
  refine WL.call callable30 rfl (Wt.plain rfl) rfl rfl (sl11Of _ _ (by omega)) ?_
  have hsK := hH.keep.size; rintro _ wn ⟨q13, rfl, hC, hT13⟩; obtain ⟨c13, n13, m13, a13, l13, k13⟩ := q13; replace hH := hH.call hC
  have hV := Keep.refl [] wn
  refine WL.u rfl rfl (Wt.plain rfl) (Ex.move rfl) ?_
  refine WL.u rfl rfl (Wt.plain rfl) (Ex.extract rfl rfl) ?_
  refine WL.u rfl rfl (Wt.plain rfl) (Ex.extract rfl rfl) ?_
  have hsV5 := hV.size
  refine WL.alloc ty53 rfl rfl (Wt.plain rfl) hH (fun b5 wn hb5 hk5 hH => ?_)
  replace hV := hV.trans (hk5.nil)
  refine WL.store4 ty53 rfl rfl rfl rfl rfl rfl (Wt.plain rfl) hH (fun wn hk hH => ?_)
  replace hV := hV.shr hk (by intro x hx; rw [List.mem_singleton.1 hx]; omega)
  refine WL.u rfl rfl (Wt.plain rfl) (Ex.assign rfl) ?_
  refine WL.next ?_
  refine WC.seq ?_
  refine WC.seq ?_
  refine WC.region ?_
  refine WL.u rfl rfl (Wt.plain rfl) (Ex.move rfl) ?_
  refine WL.u rfl rfl (Wt.plain rfl) (Ex.not rfl) ?_
  refine WL.next ?_
  refine WC.cond rfl (fun hc1 => ?_) (fun hc1 => ?_)
  · have htn : termT s = none := by simpa using hc1
    refine WC.seq ?_
    refine WC.region ?_
    have hsV18 := hV.size
    refine WL.lit0 Try.underlying22 ty3 rfl (Wt.plain rfl) hH (fun b18 wn hb18 hk18 hH => ?_)
    replace hV := hV.trans (hk18.nil)
    have ho18 := Own.nil rInt
    refine WL.u rfl rfl (Wt.plain rfl) (Ex.assign rfl) ?_
    refine WL.u rfl rfl (Wt.plain rfl) (Ex.assign rfl) ?_
    refine WL.u rfl rfl (Wt.plain rfl) (Ex.assign rfl) ?_
    refine WL.next ?_
    refine WC.ret ?_
    refine WN.retThen ?_
    refine WN.body3 rfl rfl rfl rfl ?_
    have e := termPairs_not htn
    have e2 := termRounds_not htn
    exact ⟨_, by rw [e2, htn] <;> rfl, hH.keep, by rw [e]; exact New.of (hH.front 0 rfl) ho18 (hH.base 0 rfl)⟩
  have hts : (termT s).isSome = true := by simpa using hc1
  obtain ⟨t, ht⟩ := Option.isSome_iff_exists.1 hts
  have hTq := TQ.keep hV (by simp) (hT13 t ht)
  obtain ⟨hW, hv⟩ := termT_ok ht
  have hlt := termT_len ht
  obtain ⟨ht2, hlen2, hgg⟩ := termT_tidy ht
  have hv2 := (tidy_same hW hv).1
  refine WC.skip ?_
  refine WN.next ?_
  refine WC.seq ?_
  refine WC.region ?_
  refine WL.u rfl rfl (Wt.plain rfl) (Ex.loadHp4 Try.underlying53 ty53 rfl hH) ?_
  refine WL.call callable32 rfl (Wt.plain rfl) rfl rfl (stidyT _ t hW (by omega) _ (c13, n13, m13, (a13, l13, k13)) 0 false false (by omega) hTq) ?_
  rintro _ wn ⟨rfl, hC⟩; replace hH := hH.call hC; clear hC
  rw [tidyS_0 hW]
  refine WL.call callable31 rfl (Wt.plain rfl) rfl rfl (sl11Read (textT (tidyT t)) (by omega) ((textT (tidyT t)).length + 1) 0 _ (by omega) (by omega)) ?_
  rintro _ wn ⟨q22, e22, rfl, hC, hR22⟩; obtain ⟨c22, n22, m22, a22, l22, k22⟩ := q22; replace hH := hH.call hC; clear hC; have hTq2 := rd_tq (by omega) ht2 hR22
  have hV := Keep.refl [] wn
  refine WL.u rfl rfl (Wt.plain rfl) (Ex.move rfl) ?_
  refine WL.u rfl rfl (Wt.plain rfl) (Ex.extract rfl rfl) ?_
  refine WL.u rfl rfl (Wt.plain rfl) (Ex.extract rfl rfl) ?_
  have hsV7 := hV.size
  refine WL.alloc ty53 rfl rfl (Wt.plain rfl) hH (fun b7 wn hb7 hk7 hH => ?_)
  replace hV := hV.trans (hk7.nil)
  refine WL.store4 ty53 rfl rfl rfl rfl rfl rfl (Wt.plain rfl) hH (fun wn hk hH => ?_)
  replace hV := hV.shr hk (by intro x hx; rw [List.mem_singleton.1 hx]; omega)
  refine WL.u rfl rfl (Wt.plain rfl) (Ex.assign rfl) ?_
  refine WL.next ?_
  refine WC.seq ?_
  refine WC.region ?_
  refine WL.u rfl rfl (Wt.plain rfl) (Ex.loadHp4 Try.underlying53 ty53 rfl hH) ?_
  refine WL.call callable33 rfl (Wt.plain rfl) rfl rfl (sjoinT _ (tidyT t) (Td.of hW) hv2 _ (c22, n22, m22, (a22, l22, k22)) (TQ.keep hV (by simp) hTq2)) ?_
  rintro _ wn ⟨x, rfl, hC, hN⟩; rw [hgg] at hN ⊢; obtain ⟨b27, cap27, cur27, rfl, hge27, hbb27, ho27⟩ := hN.own; replace hH := hH.push hC hge27 hbb27; clear hC hN
  refine WL.u rfl rfl (Wt.plain rfl) (Ex.move rfl) ?_
  refine WL.u rfl rfl (Wt.plain rfl) (Ex.extract rfl rfl) ?_
  refine WL.u rfl rfl (Wt.plain rfl) (Ex.extract rfl rfl) ?_
  refine WL.u rfl rfl (Wt.plain rfl) (Ex.assign rfl) ?_
  refine WL.u rfl rfl (Wt.plain rfl) (Ex.assign rfl) ?_
  refine WL.next ?_
  refine WC.seq ?_
  refine WC.region ?_
  refine WL.u rfl rfl (Wt.plain rfl) (Ex.move rfl) ?_
  refine WL.u rfl rfl (Wt.plain rfl) (Ex.move rfl) ?_
  refine WL.u rfl rfl (Wt.plain rfl) (Ex.assign rfl) ?_
  refine WL.u rfl rfl (Wt.plain rfl) (Ex.assign rfl) ?_
  refine WL.u rfl rfl (Wt.plain rfl) (Ex.assign rfl) ?_
  refine WL.next ?_
  refine WC.ret ?_
  refine WN.body3 rfl rfl rfl rfl ?_
  exact ⟨_, by rw [termRounds_at ht, ht] <;> rfl, hH.keep, by rw [termPairs_at ht]; exact New.of (hH.front 0 rfl) ho27 (hH.base 0 rfl)⟩

theorem sTermPairs (s : Str) (w : World) (hs : s.length ≤ 1048577) : Fn Try.prog 7 [vstr s] w (fun v w1 => ∃ x, v = .tuple #[x, .bool (termPairs s).2] ∧ Keep [] w w1 ∧ New rInt 3 w w1 x (termPairs s).1) := by
  refine Fn.enter (n := 15) Try.func7 rfl rfl rfl ?_
  show WC _ _ _ _ [(0, vstr s)] _
  have hH := Hp.start [] w
  refine WC.seq ?_
  refine WC.region ?_
  refine WL.u rfl rfl (Wt.plain rfl) (Ex.assign rfl) ?_
  refine WL.u rfl rfl (Wt.plain rfl) (Ex.assign rfl) ?_
  refine WL.next ?_
  refine WC.seq ?_
  refine WC.region ?_
  refine WL.u rfl rfl (Wt.plain rfl) (Ex.move rfl) ?_
  refine WL.call callable20 rfl (Wt.plain rfl) rfl rfl (sl11Made s _ (by omega)) ?_
  rintro _ wn ⟨x, rfl, hC, hN⟩; obtain ⟨b9, cap9, cur9, rfl, hge9, hbb9, ho9⟩ := hN.own; replace hH := hH.push hC hge9 hbb9; clear hC hN
  refine WL.u rfl rfl (Wt.plain rfl) (Ex.move rfl) ?_
  refine WL.u rfl rfl (Wt.plain rfl) (Ex.extract rfl rfl) ?_
  refine WL.u rfl rfl (Wt.plain rfl) (Ex.extract rfl rfl) ?_
  refine WL.u rfl rfl (Wt.plain rfl) (Ex.extract rfl rfl) ?_
  refine WL.u rfl rfl (Wt.plain rfl) (Ex.assign rfl) ?_
  refine WL.u rfl rfl (Wt.plain rfl) (Ex.assign rfl) ?_
  refine WL.u rfl rfl (Wt.plain rfl) (Ex.assign rfl) ?_
  refine WL.next ?_
  refine WC.seq ?_
  refine WC.region ?_
  refine WL.u rfl rfl (Wt.plain rfl) (Ex.move rfl) ?_
  refine WL.u rfl rfl (Wt.plain rfl) (Ex.move rfl) ?_
  refine WL.u rfl rfl (Wt.plain rfl) (Ex.assign rfl) ?_
  refine WL.u rfl rfl (Wt.plain rfl) (Ex.assign rfl) ?_
  refine WL.next ?_
  refine WC.ret ?_
  refine WN.body2 rfl rfl rfl ?_
  exact ⟨_, by rw [(tp_ok s).1]; rfl, hH.keep, New.of hH ho9 (hH.base 0 rfl)⟩

theorem sTermRounds (s : Str) (w : World) (hs : s.length ≤ 1048577) : Fn Try.prog 12 [vstr s] w (fun v w1 => v = .tuple #[vint (termRounds s).1, .bool (termRounds s).2] ∧ Keep [] w w1) := by
  refine Fn.enter (n := 15) Try.func12 rfl rfl rfl ?_
  show WC _ _ _ _ [(0, vstr s)] _
  have hH := Hp.start [] w
  refine WC.seq ?_
  refine WC.region ?_
  refine WL.u rfl rfl (Wt.plain rfl) (Ex.assign rfl) ?_
  refine WL.u rfl rfl (Wt.plain rfl) (Ex.assign rfl) ?_
  refine WL.next ?_
  refine WC.seq ?_
  refine WC.region ?_
  refine WL.u rfl rfl (Wt.plain rfl) (Ex.move rfl) ?_
  refine WL.call callable20 rfl (Wt.plain rfl) rfl rfl (sl11Made s _ (by omega)) ?_
  rintro _ wn ⟨x, rfl, hC, hN⟩; obtain ⟨b9, cap9, cur9, rfl, hge9, hbb9, ho9⟩ := hN.own; replace hH := hH.push hC hge9 hbb9; clear hC hN
  refine WL.u rfl rfl (Wt.plain rfl) (Ex.move rfl) ?_
  refine WL.u rfl rfl (Wt.plain rfl) (Ex.extract rfl rfl) ?_
  refine WL.u rfl rfl (Wt.plain rfl) (Ex.extract rfl rfl) ?_
  refine WL.u rfl rfl (Wt.plain rfl) (Ex.extract rfl rfl) ?_
  refine WL.u rfl rfl (Wt.plain rfl) (Ex.assign rfl) ?_
  refine WL.u rfl rfl (Wt.plain rfl) (Ex.assign rfl) ?_
  refine WL.u rfl rfl (Wt.plain rfl) (Ex.assign rfl) ?_
  refine WL.next ?_
  refine WC.seq ?_
  refine WC.region ?_
  refine WL.u rfl rfl (Wt.plain rfl) (Ex.move rfl) ?_
  refine WL.u rfl rfl (Wt.plain rfl) (Ex.move rfl) ?_
  refine WL.u rfl rfl (Wt.plain rfl) (Ex.assign rfl) ?_
  refine WL.u rfl rfl (Wt.plain rfl) (Ex.assign rfl) ?_
  refine WL.next ?_
  refine WC.ret ?_
  refine WN.body2 rfl rfl rfl ?_
  exact ⟨by rw [(tp_ok s).2]; rfl, hH.keep⟩

theorem lawExactTermPairs (s : Str) (w : World) (hy : (s.length : Int) ≤ 9223372036854775807) : Fn Try.prog 3 [vstr s] w (fun v w1 => v = .bool true ∧ Keep [] w w1) := by
  refine Fn.enter (n := 66) Try.func3 rfl rfl rfl ?_
  show WC _ _ _ _ [(0, vstr s)] _
  have hH := Hp.start [] w
  have hlen := termPairs_len s
  refine WC.seq ?_
  refine WC.region ?_
  refine WL.u rfl rfl (Wt.plain rfl) (Ex.assign rfl) ?_
  refine WL.next ?_
  refine WC.seq ?_
  refine WC.seq ?_
  refine WC.region ?_
  refine WL.u rfl rfl (Wt.plain rfl) (Ex.move rfl) ?_
  refine WL.u rfl rfl (Wt.plain rfl) (Ex.lenStr Try.underlying9 rfl) ?_
  refine WL.u rfl rfl (Wt.plain rfl) (Ex.gtr rfl rfl) ?_
  refine WL.next ?_
  refine WC.cond rfl (fun hc1 => ?_) (fun hc1 => ?_)
  · have hc1' := hc1; try simp only [decide_eq_true_eq, decide_eq_false_iff_not, Bool.not_eq_true', Bool.not_eq_false', Bool.not_eq_true, Bool.not_eq_false] at hc1'
    refine WC.seq ?_
    refine WC.region ?_
    refine WL.u rfl rfl (Wt.plain rfl) (Ex.assign rfl) ?_
    refine WL.next ?_
    refine WC.ret ?_
    refine WN.retThen ?_
    refine WN.body1 rfl rfl ?_
    exact ⟨rfl, hH.keep⟩
  have hc1' := hc1; try simp only [decide_eq_true_eq, decide_eq_false_iff_not, Bool.not_eq_true', Bool.not_eq_false', Bool.not_eq_true, Bool.not_eq_false] at hc1'
  refine WC.skip ?_
  refine WN.next ?_
  refine WC.seq ?_
  refine WC.region ?_
  refine WL.u rfl rfl (Wt.plain rfl) (Ex.move rfl) ?_
  refine WL.call callable7 rfl (Wt.plain rfl) rfl rfl (sTermPairs s _ (by omega)) ?_
  rintro _ wn ⟨x, rfl, hC, hN⟩; obtain ⟨b16, cap16, cur16, rfl, hge16, hbb16, ho16⟩ := hN.own; replace hH := hH.push hC hge16 hbb16; clear hC hN
  refine WL.u rfl rfl (Wt.plain rfl) (Ex.move rfl) ?_
  refine WL.u rfl rfl (Wt.plain rfl) (Ex.extract rfl rfl) ?_
  refine WL.u rfl rfl (Wt.plain rfl) (Ex.extract rfl rfl) ?_
  refine WL.u rfl rfl (Wt.plain rfl) (Ex.assign rfl) ?_
  refine WL.u rfl rfl (Wt.plain rfl) (Ex.assign rfl) ?_
  refine WL.next ?_
  refine WC.seq ?_
  refine WC.region ?_
  refine WL.u rfl rfl (Wt.plain rfl) (Ex.move rfl) ?_
  refine WL.call callable8 rfl (Wt.plain rfl) rfl rfl (iTermPairs s _ (by omega)) ?_
  rintro _ wn ⟨x, rfl, hC, hN⟩; obtain ⟨b21, cap21, cur21, rfl, hge21, hbb21, ho21⟩ := hN.own; replace hH := hH.push hC hge21 hbb21; clear hC hN
  refine WL.u rfl rfl (Wt.plain rfl) (Ex.move rfl) ?_
  refine WL.u rfl rfl (Wt.plain rfl) (Ex.extract rfl rfl) ?_
  refine WL.u rfl rfl (Wt.plain rfl) (Ex.extract rfl rfl) ?_
  refine WL.u rfl rfl (Wt.plain rfl) (Ex.assign rfl) ?_
  refine WL.u rfl rfl (Wt.plain rfl) (Ex.assign rfl) ?_
  refine WL.next ?_
  refine WC.seq ?_
  refine WC.seq ?_
  refine WC.region ?_
  refine WL.u rfl rfl (Wt.plain rfl) (Ex.move rfl) ?_
  refine WL.u rfl rfl (Wt.plain rfl) (Ex.move rfl) ?_
  refine WL.call callable9 rfl (Wt.plain rfl) rfl rfl (eqIntS (termPairs s).1 (termPairs s).1 _ _ _ _ _ (ho21.slAt hH 0 rfl) (ho16.slAt hH 1 rfl)) ?_
  rintro _ wn ⟨rfl, hC⟩; replace hH := hH.dr hC; clear hC
  refine WL.u rfl rfl (Wt.plain rfl) (Ex.not rfl) ?_
  refine WL.u rfl rfl (Wt.plain rfl) (Ex.move rfl) ?_
  refine WL.split (t := 28) rfl (fun hg5_4 => ?_) (fun hg5_4 => ?_)
  · exfalso; simp at hg5_4
  have hg5_4' := hg5_4; try simp only [decide_eq_true_eq, decide_eq_false_iff_not, Bool.not_eq_true', Bool.not_eq_false', Bool.not_eq_true, Bool.not_eq_false] at hg5_4'
  refine WL.u rfl rfl (Wt.guard' rfl rfl rfl hg5_4 rfl) (Ex.move rfl) ?_
  refine WL.u rfl rfl (Wt.guard' rfl rfl rfl hg5_4 rfl) (Ex.move rfl) ?_
  refine WL.u rfl rfl (Wt.guard' rfl rfl rfl hg5_4 rfl) (Ex.neqB Try.underlying4 rfl rfl) ?_
  refine WL.u rfl rfl (Wt.plain rfl) (Ex.pickF rfl hg5_4 rfl) ?_
  refine WL.next ?_
  refine WC.condF rfl (by simp) ?_
  refine WC.skip ?_
  refine WN.next ?_
  refine WC.seq ?_
  refine WC.region ?_
  refine WL.u rfl rfl (Wt.plain rfl) (Ex.assign rfl) ?_
  refine WL.next ?_
  refine WC.seq ?_
  refine WC.region ?_
  refine WL.u rfl rfl (Wt.plain rfl) (Ex.move rfl) ?_
  refine WL.u rfl rfl (Wt.plain rfl) (Ex.move rfl) ?_
  refine WL.call callable10 rfl (Wt.plain rfl) rfl rfl (markIntS b21 cap21 cur21 (termPairs s).1 1 _ (hH.at 0 rfl) ho21 (by omega) (by omega)) ?_
  rintro _ wn ⟨cur1, rfl, hK, hb, ho21⟩; replace hH := hH.turn hK hb; clear hK hb
  refine WL.u rfl rfl (Wt.plain rfl) (Ex.assign rfl) ?_
  refine WL.next ?_
  refine WC.seq ?_
  refine WC.region ?_
  refine WL.u rfl rfl (Wt.plain rfl) (Ex.assign rfl) ?_
  refine WL.next ?_
  refine WC.seq ?_
  refine WC.region ?_
  refine WL.u rfl rfl (Wt.plain rfl) (Ex.move rfl) ?_
  refine WL.u rfl rfl (Wt.plain rfl) (Ex.move rfl) ?_
  refine WL.call callable11 rfl (Wt.plain rfl) rfl rfl (heldIntS (some ⟨b21, 0, none⟩) cap21 1 (termPairs s).1.length _ (ho21.slAt hH 0 rfl) (by omega) (by omega)) ?_
  rintro _ _ ⟨rfl, hw⟩; obtain rfl := hw.symm
  refine WL.u rfl rfl (Wt.plain rfl) (Ex.assign rfl) ?_
  refine WL.next ?_
  refine WC.seq ?_
  refine WC.seq ?_
  refine WC.region ?_
  refine WL.u rfl rfl (Wt.plain rfl) (Ex.move rfl) ?_
  refine WL.u rfl rfl (Wt.plain rfl) (Ex.lss rfl rfl) ?_
  refine WL.next ?_
  refine WC.condF rfl (decide_eq_false (by omega)) ?_
  refine WC.skip ?_
  refine WN.next ?_
  refine WC.seq ?_
  refine WC.seq ?_
  refine WC.region ?_
  refine WL.u rfl rfl (Wt.plain rfl) (Ex.move rfl) ?_
  refine WL.u rfl rfl (Wt.plain rfl) (Ex.move rfl) ?_
  refine WL.u rfl rfl (Wt.plain rfl) (Ex.neq rfl rfl) ?_
  refine WL.next ?_
  refine WC.condF rfl (by simp) ?_
  refine WC.skip ?_
  refine WN.next ?_
  refine WC.seq ?_
  refine WC.region ?_
  refine WL.u rfl rfl (Wt.plain rfl) (Ex.move rfl) ?_
  refine WL.call callable8 rfl (Wt.plain rfl) rfl rfl (iTermPairs s _ (by omega)) ?_
  rintro _ wn ⟨x, rfl, hC, hN⟩; obtain ⟨b46, cap46, cur46, rfl, hge46, hbb46, ho46⟩ := hN.own; replace hH := hH.push hC hge46 hbb46; clear hC hN
  refine WL.u rfl rfl (Wt.plain rfl) (Ex.move rfl) ?_
  refine WL.u rfl rfl (Wt.plain rfl) (Ex.extract rfl rfl) ?_
  refine WL.u rfl rfl (Wt.plain rfl) (Ex.extract rfl rfl) ?_
  refine WL.u rfl rfl (Wt.plain rfl) (Ex.assign rfl) ?_
  refine WL.u rfl rfl (Wt.plain rfl) (Ex.assign rfl) ?_
  refine WL.next ?_
  refine WC.seq ?_
  refine WC.seq ?_
  refine WC.region ?_
  refine WL.u rfl rfl (Wt.plain rfl) (Ex.move rfl) ?_
  refine WL.u rfl rfl (Wt.plain rfl) (Ex.move rfl) ?_
  refine WL.call callable9 rfl (Wt.plain rfl) rfl rfl (eqIntS (termPairs s).1 (termPairs s).1 _ _ _ _ _ (ho46.slAt hH 0 rfl) (ho16.slAt hH 2 rfl)) ?_
  rintro _ wn ⟨rfl, hC⟩; replace hH := hH.dr hC; clear hC
  refine WL.u rfl rfl (Wt.plain rfl) (Ex.not rfl) ?_
  refine WL.u rfl rfl (Wt.plain rfl) (Ex.move rfl) ?_
  refine WL.split (t := 53) rfl (fun hg16_4 => ?_) (fun hg16_4 => ?_)
  · exfalso; simp at hg16_4
  have hg16_4' := hg16_4; try simp only [decide_eq_true_eq, decide_eq_false_iff_not, Bool.not_eq_true', Bool.not_eq_false', Bool.not_eq_true, Bool.not_eq_false] at hg16_4'
  refine WL.u rfl rfl (Wt.guard' rfl rfl rfl hg16_4 rfl) (Ex.move rfl) ?_
  refine WL.u rfl rfl (Wt.guard' rfl rfl rfl hg16_4 rfl) (Ex.move rfl) ?_
  refine WL.u rfl rfl (Wt.guard' rfl rfl rfl hg16_4 rfl) (Ex.neqB Try.underlying4 rfl rfl) ?_
  refine WL.u rfl rfl (Wt.plain rfl) (Ex.pickF rfl hg16_4 rfl) ?_
  refine WL.next ?_
  refine WC.condF rfl (by simp) ?_
  refine WC.skip ?_
  refine WN.next ?_
  refine WC.seq ?_
  refine WC.region ?_
  refine WL.u rfl rfl (Wt.plain rfl) (Ex.assign rfl) ?_
  refine WL.next ?_
  refine WC.seq ?_
  refine WC.region ?_
  refine WL.u rfl rfl (Wt.plain rfl) (Ex.move rfl) ?_
  refine WL.u rfl rfl (Wt.plain rfl) (Ex.move rfl) ?_
  refine WL.call callable11 rfl (Wt.plain rfl) rfl rfl (heldIntS (some ⟨b21, 0, none⟩) cap21 1 (termPairs s).1.length _ (ho21.slAt hH 1 rfl) (by omega) (by omega)) ?_
  rintro _ _ ⟨rfl, hw⟩; obtain rfl := hw.symm
  refine WL.u rfl rfl (Wt.plain rfl) (Ex.assign rfl) ?_
  refine WL.next ?_
  refine WC.seq ?_
  refine WC.seq ?_
  refine WC.region ?_
  refine WL.u rfl rfl (Wt.plain rfl) (Ex.move rfl) ?_
  refine WL.u rfl rfl (Wt.plain rfl) (Ex.lss rfl rfl) ?_
  refine WL.next ?_
  refine WC.condF rfl (decide_eq_false (by omega)) ?_
  refine WC.skip ?_
  refine WN.next ?_
  refine WC.seq ?_
  refine WC.seq ?_
  refine WC.region ?_
  refine WL.u rfl rfl (Wt.plain rfl) (Ex.move rfl) ?_
  refine WL.u rfl rfl (Wt.plain rfl) (Ex.move rfl) ?_
  refine WL.u rfl rfl (Wt.plain rfl) (Ex.neq rfl rfl) ?_
  refine WL.next ?_
  refine WC.condF rfl (by simp) ?_
  refine WC.skip ?_
  refine WN.next ?_
  refine WC.seq ?_
  refine WC.region ?_
  refine WL.u rfl rfl (Wt.plain rfl) (Ex.assign rfl) ?_
  refine WL.next ?_
  refine WC.ret ?_
  refine WN.body1 rfl rfl ?_
  exact ⟨rfl, hH.keep⟩

theorem lawExactTermRounds (s : Str) (w : World) (hy : (s.length : Int) ≤ 9223372036854775807) : Fn Try.prog 4 [vstr s] w (fun v w1 => v = .bool true ∧ Keep [] w w1) := by
  refine Fn.enter (n := 28) Try.func4 rfl rfl rfl ?_
  show WC _ _ _ _ [(0, vstr s)] _
  have hH := Hp.start [] w
  refine WC.seq ?_
  refine WC.region ?_
  refine WL.u rfl rfl (Wt.plain rfl) (Ex.assign rfl) ?_
  refine WL.next ?_
  refine WC.seq ?_
  refine WC.seq ?_
  refine WC.region ?_
  refine WL.u rfl rfl (Wt.plain rfl) (Ex.move rfl) ?_
  refine WL.u rfl rfl (Wt.plain rfl) (Ex.lenStr Try.underlying9 rfl) ?_
  refine WL.u rfl rfl (Wt.plain rfl) (Ex.gtr rfl rfl) ?_
  refine WL.next ?_
  refine WC.cond rfl (fun hc1 => ?_) (fun hc1 => ?_)
  · have hc1' := hc1; try simp only [decide_eq_true_eq, decide_eq_false_iff_not, Bool.not_eq_true', Bool.not_eq_false', Bool.not_eq_true, Bool.not_eq_false] at hc1'
    refine WC.seq ?_
    refine WC.region ?_
    refine WL.u rfl rfl (Wt.plain rfl) (Ex.assign rfl) ?_
    refine WL.next ?_
    refine WC.ret ?_
    refine WN.retThen ?_
    refine WN.body1 rfl rfl ?_
    exact ⟨rfl, hH.keep⟩
  have hc1' := hc1; try simp only [decide_eq_true_eq, decide_eq_false_iff_not, Bool.not_eq_true', Bool.not_eq_false', Bool.not_eq_true, Bool.not_eq_false] at hc1'
  refine WC.skip ?_
  refine WN.next ?_
  refine WC.seq ?_
  refine WC.region ?_
  refine WL.u rfl rfl (Wt.plain rfl) (Ex.move rfl) ?_
  refine WL.call callable12 rfl (Wt.plain rfl) rfl rfl (sTermRounds s _ (by omega)) ?_
  rintro _ wn ⟨rfl, hC⟩; replace hH := hH.call hC; clear hC
  refine WL.u rfl rfl (Wt.plain rfl) (Ex.move rfl) ?_
  refine WL.u rfl rfl (Wt.plain rfl) (Ex.extract rfl rfl) ?_
  refine WL.u rfl rfl (Wt.plain rfl) (Ex.extract rfl rfl) ?_
  refine WL.u rfl rfl (Wt.plain rfl) (Ex.assign rfl) ?_
  refine WL.u rfl rfl (Wt.plain rfl) (Ex.assign rfl) ?_
  refine WL.next ?_
  refine WC.seq ?_
  refine WC.region ?_
  refine WL.u rfl rfl (Wt.plain rfl) (Ex.move rfl) ?_
  refine WL.call callable13 rfl (Wt.plain rfl) rfl rfl (iTermRounds s _ (by omega)) ?_
  rintro _ wn ⟨rfl, hC⟩; replace hH := hH.call hC; clear hC
  refine WL.u rfl rfl (Wt.plain rfl) (Ex.move rfl) ?_
  refine WL.u rfl rfl (Wt.plain rfl) (Ex.extract rfl rfl) ?_
  refine WL.u rfl rfl (Wt.plain rfl) (Ex.extract rfl rfl) ?_
  refine WL.u rfl rfl (Wt.plain rfl) (Ex.assign rfl) ?_
  refine WL.u rfl rfl (Wt.plain rfl) (Ex.assign rfl) ?_
  refine WL.next ?_
  refine WC.seq ?_
  refine WC.seq ?_
  refine WC.region ?_
  refine WL.u rfl rfl (Wt.plain rfl) (Ex.move rfl) ?_
  refine WL.u rfl rfl (Wt.plain rfl) (Ex.move rfl) ?_
  refine WL.u rfl rfl (Wt.plain rfl) (Ex.neq rfl rfl) ?_
  refine WL.u rfl rfl (Wt.plain rfl) (Ex.move rfl) ?_
  refine WL.split (t := 23) rfl (fun hg5_3 => ?_) (fun hg5_3 => ?_)
  · exfalso; simp at hg5_3
  have hg5_3' := hg5_3; try simp only [decide_eq_true_eq, decide_eq_false_iff_not, Bool.not_eq_true', Bool.not_eq_false', Bool.not_eq_true, Bool.not_eq_false] at hg5_3'
  refine WL.u rfl rfl (Wt.guard' rfl rfl rfl hg5_3 rfl) (Ex.move rfl) ?_
  refine WL.u rfl rfl (Wt.guard' rfl rfl rfl hg5_3 rfl) (Ex.move rfl) ?_
  refine WL.u rfl rfl (Wt.guard' rfl rfl rfl hg5_3 rfl) (Ex.neqB Try.underlying4 rfl rfl) ?_
  refine WL.u rfl rfl (Wt.plain rfl) (Ex.pickF rfl hg5_3 rfl) ?_
  refine WL.next ?_
  refine WC.condF rfl (by simp) ?_
  refine WC.skip ?_
  refine WN.next ?_
  refine WC.seq ?_
  refine WC.region ?_
  refine WL.u rfl rfl (Wt.plain rfl) (Ex.assign rfl) ?_
  refine WL.next ?_
  refine WC.ret ?_
  refine WN.body1 rfl rfl ?_
  exact ⟨rfl, hH.keep⟩

theorem iBeamPairsT (g : Grid) (a : Option Addr) (cap : Nat) (w : World) (hg : Sl rStr w a g) (hG : GridOk g) : Fn Try.prog 17 [.slice a g.length cap] w (fun v w1 => ∃ x, v = .tuple #[x, .bool true] ∧ Keep [] w w1 ∧ New rInt 3 w w1 x (pairsI g)) := by
  refine Fn.enter (n := 10) Try.func17 rfl rfl rfl ?_
  show WC _ _ _ _ [(0, .slice a g.length cap)] _
  have hH := Hp.start [] w
  have hgi := (gridOk_iff g).2 hG
  refine WC.seq ?_
  refine WC.region ?_
  refine WL.u rfl rfl (Wt.plain rfl) (Ex.assign rfl) ?_
  refine WL.u rfl rfl (Wt.plain rfl) (Ex.assign rfl) ?_
  refine WL.next ?_
  refine WC.seq ?_
  refine WC.seq ?_
  refine WC.region ?_
  refine WL.u rfl rfl (Wt.plain rfl) (Ex.move rfl) ?_
  refine WL.call callable25 rfl (Wt.plain rfl) rfl rfl (iGridIn _ _ _ _ (hg.kept hH.keep) (gshort hG)) ?_
  rintro _ _ ⟨rfl, hw⟩; obtain rfl := hw.symm
  refine WL.u rfl rfl (Wt.plain rfl) (Ex.not rfl) ?_
  refine WL.next ?_
  refine WC.condF rfl (by rw [hgi]; rfl) ?_
  refine WC.skip ?_
  refine WN.next ?_
  refine WC.seq ?_
  refine WC.region ?_
  refine WL.u rfl rfl (Wt.plain rfl) (Ex.move rfl) ?_
  refine WL.call callable22 rfl (Wt.plain rfl) rfl rfl (ipairsOf g _ _ _ (hg.kept hH.keep) hG) ?_
  rintro _ wn ⟨hC, hN⟩; obtain ⟨b9, cap9, cur9, rfl, hge9, hbb9, ho9⟩ := hN.own; replace hH := hH.push hC hge9 hbb9; clear hC hN
  refine WL.u rfl rfl (Wt.plain rfl) (Ex.assign rfl) ?_
  refine WL.u rfl rfl (Wt.plain rfl) (Ex.assign rfl) ?_
  refine WL.next ?_
  refine WC.ret ?_
  refine WN.body2 rfl rfl rfl ?_
  exact ⟨_, rfl, hH.keep, New.of (hH.front 0 rfl) ho9 (hH.base 0 rfl)⟩

theorem iRoundManyT (g : Grid) (a : Option Addr) (cap : Nat) (w : World) (hg : Sl rStr w a g) (hG : GridOk g) : Fn Try.prog 19 [.slice a g.length cap] w (fun v w1 => v = .tuple #[vint (rounds g).length, .bool true] ∧ Keep [] w w1) := by
  refine Fn.enter (n := 9) Try.func19 rfl rfl rfl ?_
  show WC _ _ _ _ [(0, .slice a g.length cap)] _
  have hH := Hp.start [] w
  have hgi := (gridOk_iff g).2 hG
  refine WC.seq ?_
  refine WC.region ?_
  refine WL.u rfl rfl (Wt.plain rfl) (Ex.assign rfl) ?_
  refine WL.u rfl rfl (Wt.plain rfl) (Ex.assign rfl) ?_
  refine WL.next ?_
  refine WC.seq ?_
  refine WC.seq ?_
  refine WC.region ?_
  refine WL.u rfl rfl (Wt.plain rfl) (Ex.move rfl) ?_
  refine WL.call callable25 rfl (Wt.plain rfl) rfl rfl (iGridIn _ _ _ _ (hg.kept hH.keep) (gshort hG)) ?_
  rintro _ _ ⟨rfl, hw⟩; obtain rfl := hw.symm
  refine WL.u rfl rfl (Wt.plain rfl) (Ex.not rfl) ?_
  refine WL.next ?_
  refine WC.condF rfl (by rw [hgi]; rfl) ?_
  refine WC.skip ?_
  refine WN.next ?_
  refine WC.seq ?_
  refine WC.region ?_
  refine WL.u rfl rfl (Wt.plain rfl) (Ex.move rfl) ?_
  refine WL.call callable23 rfl (Wt.plain rfl) rfl rfl (iroundMany _ _ _ _ (hg.kept hH.keep) hG) ?_
  rintro _ wn ⟨rfl, hC⟩; replace hH := hH.call hC; clear hC
  refine WL.u rfl rfl (Wt.plain rfl) (Ex.assign rfl) ?_
  refine WL.u rfl rfl (Wt.plain rfl) (Ex.assign rfl) ?_
  refine WL.next ?_
  refine WC.ret ?_
  refine WN.body2 rfl rfl rfl ?_
  exact ⟨rfl, hH.keep⟩

theorem sDrawTermRounds (a : Option Addr) (l : List UInt8) (cap : Nat) (w : World) (hc : Sl rByte w a l) (hcap : l.length ≤ cap) : Fn Try.prog 18 [.slice a l.length cap] w (fun v w1 => ∃ s, v = vstr s ∧ s.length ≤ 1000 ∧ Keep [] w w1) := by
  refine Fn.enter (n := 14) Try.func18 rfl rfl rfl ?_
  show WC _ _ _ _ [(0, .slice a l.length cap)] _
  have hH := Hp.start [] w
  replace hc := hc.take 2000
  have hl := List.length_take_le 2000 l
  refine WC.seq ?_
  refine WC.region ?_
  refine WL.u rfl rfl (Wt.plain rfl) (Ex.assign rfl) ?_
  refine WL.next ?_
  refine WC.seq ?_
  refine WC.region ?_
  refine WL.u rfl rfl (Wt.plain rfl) (Ex.move rfl) ?_
  refine WL.call callable26 rfl (Wt.plain rfl) rfl rfl (sl6Open _ _ _ _ hcap) ?_
  rintro _ wn ⟨r, rfl, hrn, hC, hro⟩; have hca := (hc.kept hH.keep).offNew hrn; replace hH := hH.push hC hrn hro; clear hC hro
  refine WL.u rfl rfl (Wt.plain rfl) (Ex.assign rfl) ?_
  refine WL.next ?_
  refine WC.seq ?_
  refine WC.seq ?_
  refine WC.region ?_
  refine WL.u rfl rfl (Wt.plain rfl) (Ex.move rfl) ?_
  refine WL.call callable27 rfl (Wt.plain rfl) rfl rfl (spick _ _ _ _ _ 3 _ (hH.at 0 rfl) (hc.kept hH.keep) hca hl (by omega) (by omega)) ?_
  rintro _ wn ⟨k7, rfl, hk7, hKK, ho⟩; replace hH := hH.turn hKK ho; clear hKK ho
  refine WL.u rfl rfl (Wt.plain rfl) (Ex.eql rfl rfl) ?_
  refine WL.next ?_
  refine WC.cond rfl (fun hc1 => ?_) (fun hc1 => ?_)
  · have hc1' := hc1; try simp only [decide_eq_true_eq, decide_eq_false_iff_not, Bool.not_eq_true', Bool.not_eq_false', Bool.not_eq_true, Bool.not_eq_false] at hc1'
    refine WC.seq ?_
    refine WC.region ?_
    refine WL.u rfl rfl (Wt.plain rfl) (Ex.move rfl) ?_
    refine WL.lit Try.underlying32 ty9 rfl rfl rfl rfl rfl rfl rfl (Wt.plain rfl) hH (fun b10 wn hb10 hk10 hH => ?_)
    have ho10 := Own.strsT ([[40, 40, 114, 124, 102, 41, 45, 40, 102, 124, 114, 41, 41], [62, 40, 40, 114, 124, 102, 41, 45, 40, 102, 124, 114, 41, 41], [40, 40, 114, 45, 102, 41, 124, 40, 102, 45, 114, 41, 41], [40, 40, 40, 114, 124, 102, 41, 124, 114, 41, 45, 40, 40, 102, 124, 114, 41, 124, 46, 41, 41]] : List Str) (by decide)
    replace hH := hH.f1
    refine WL.call callable28 rfl (Wt.plain rfl) rfl rfl (sofT _ _ _ _ _ _ ([[40, 40, 114, 124, 102, 41, 45, 40, 102, 124, 114, 41, 41], [62, 40, 40, 114, 124, 102, 41, 45, 40, 102, 124, 114, 41, 41], [40, 40, 114, 45, 102, 41, 124, 40, 102, 45, 114, 41, 41], [40, 40, 40, 114, 124, 102, 41, 124, 114, 41, 45, 40, 40, 102, 124, 114, 41, 124, 46, 41, 41]] : List Str) _ _ (hH.at 0 rfl) (hc.kept hH.keep) hca hl (by omega) (ho10.slAt hH 1 rfl) (.inr fun p hp => by cases hp; exact hH.nin 1 0 rfl rfl rfl) (by decide)) ?_
    rintro _ wn ⟨t11, ht11, rfl, hKK, ho⟩; replace hH := hH.turn hKK ho; clear hKK ho; have hlt11 : t11.length ≤ 30 := (show ∀ s ∈ ([[40, 40, 114, 124, 102, 41, 45, 40, 102, 124, 114, 41, 41], [62, 40, 40, 114, 124, 102, 41, 45, 40, 102, 124, 114, 41, 41], [40, 40, 114, 45, 102, 41, 124, 40, 102, 45, 114, 41, 41], [40, 40, 40, 114, 124, 102, 41, 124, 114, 41, 45, 40, 40, 102, 124, 114, 41, 124, 46, 41, 41]] : List Str), s.length ≤ 30 by decide) _ ht11
    refine WL.u rfl rfl (Wt.plain rfl) (Ex.assign rfl) ?_
    refine WL.next ?_
    refine WC.ret ?_
    refine WN.retThen ?_
    refine WN.body1 rfl rfl ?_
    exact ⟨_, rfl, by omega, hH.keep⟩
  have hc1' := hc1; try simp only [decide_eq_true_eq, decide_eq_false_iff_not, Bool.not_eq_true', Bool.not_eq_false', Bool.not_eq_true, Bool.not_eq_false] at hc1'
  refine WC.skip ?_
  refine WN.next ?_
  refine WC.seq ?_
  refine WC.region ?_
  refine WL.u rfl rfl (Wt.plain rfl) (Ex.move rfl) ?_
  refine WL.call callable29 rfl (Wt.plain rfl) rfl rfl (sl92Text r a (l.take 2000) cap _ _ (hH.at 0 rfl) (hc.kept hH.keep) hca hl (by omega)) ?_
  rintro _ wn ⟨s, q, rfl, hls, hlq, hKK, ho⟩; replace hH := hH.turn hKK ho; clear hKK ho
  refine WL.u rfl rfl (Wt.plain rfl) (Ex.assign rfl) ?_
  refine WL.next ?_
  refine WC.ret ?_
  refine WN.body1 rfl rfl ?_
  exact ⟨_, rfl, by omega, hH.keep⟩

theorem lawTermPairs (a : Option Addr) (l : List UInt8) (cap : Nat) (w : World) (hc : Sl rByte w a l) (hcap : l.length ≤ cap) : Fn Try.prog 5 [.slice a l.length cap] w (fun v w1 => v = .bool true ∧ Keep [] w w1) := by
  refine Fn.enter (n := 67) Try.func5 rfl rfl rfl ?_
  show WC _ _ _ _ [(0, .slice a l.length cap)] _
  have hH := Hp.start [] w
  refine WC.seq ?_
  refine WC.region ?_
  refine WL.u rfl rfl (Wt.plain rfl) (Ex.assign rfl) ?_
  refine WL.next ?_
  refine WC.seq ?_
  refine WC.seq ?_
  refine WC.region ?_
  refine WL.u rfl rfl (Wt.plain rfl) (Ex.move rfl) ?_
  refine WL.u rfl rfl (Wt.plain rfl) (Ex.lenSl Try.underlying30 rfl) ?_
  refine WL.u rfl rfl (Wt.plain rfl) (Ex.gtr rfl rfl) ?_
  refine WL.next ?_
  refine WC.cond rfl (fun hc1 => ?_) (fun hc1 => ?_)
  · have hc1' := hc1; try simp only [decide_eq_true_eq, decide_eq_false_iff_not, Bool.not_eq_true', Bool.not_eq_false', Bool.not_eq_true, Bool.not_eq_false] at hc1'
    refine WC.seq ?_
    refine WC.region ?_
    refine WL.u rfl rfl (Wt.plain rfl) (Ex.assign rfl) ?_
    refine WL.next ?_
    refine WC.ret ?_
    refine WN.retThen ?_
    refine WN.body1 rfl rfl ?_
    exact ⟨rfl, hH.keep⟩
  have hc1' := hc1; try simp only [decide_eq_true_eq, decide_eq_false_iff_not, Bool.not_eq_true', Bool.not_eq_false', Bool.not_eq_true, Bool.not_eq_false] at hc1'
  refine WC.skip ?_
  refine WN.next ?_
  refine WC.seq ?_
  refine WC.region ?_
  refine WL.u rfl rfl (Wt.plain rfl) (Ex.move rfl) ?_
  refine WL.call callable14 rfl (Wt.plain rfl) rfl rfl (sDrawTermPairs _ _ _ _ (hc.kept hH.keep) hcap) ?_
  rintro _ wn ⟨s, rfl, hls, hC⟩; replace hH := hH.call hC; clear hC
  refine WL.u rfl rfl (Wt.plain rfl) (Ex.assign rfl) ?_
  refine WL.next ?_
  refine WC.seq ?_
  refine WC.region ?_
  refine WL.u rfl rfl (Wt.plain rfl) (Ex.move rfl) ?_
  refine WL.call callable8 rfl (Wt.plain rfl) rfl rfl (iTermPairs s _ (by omega)) ?_
  rintro _ wn ⟨x, rfl, hC, hN⟩; obtain ⟨b19, cap19, cur19, rfl, hge19, hbb19, ho19⟩ := hN.own; replace hH := hH.push hC hge19 hbb19; clear hC hN
  refine WL.u rfl rfl (Wt.plain rfl) (Ex.move rfl) ?_
  refine WL.u rfl rfl (Wt.plain rfl) (Ex.extract rfl rfl) ?_
  refine WL.u rfl rfl (Wt.plain rfl) (Ex.extract rfl rfl) ?_
  refine WL.u rfl rfl (Wt.plain rfl) (Ex.assign rfl) ?_
  refine WL.u rfl rfl (Wt.plain rfl) (Ex.assign rfl) ?_
  refine WL.next ?_
  refine WC.seq ?_
  refine WC.region ?_
  refine WL.u rfl rfl (Wt.plain rfl) (Ex.move rfl) ?_
  refine WL.call callable7 rfl (Wt.plain rfl) rfl rfl (sTermPairs s _ (by omega)) ?_
  rintro _ wn ⟨x, rfl, hC, hN⟩; obtain ⟨b24, cap24, cur24, rfl, hge24, hbb24, ho24⟩ := hN.own; replace hH := hH.push hC hge24 hbb24; clear hC hN
  refine WL.u rfl rfl (Wt.plain rfl) (Ex.move rfl) ?_
  refine WL.u rfl rfl (Wt.plain rfl) (Ex.extract rfl rfl) ?_
  refine WL.u rfl rfl (Wt.plain rfl) (Ex.extract rfl rfl) ?_
  refine WL.u rfl rfl (Wt.plain rfl) (Ex.assign rfl) ?_
  refine WL.u rfl rfl (Wt.plain rfl) (Ex.assign rfl) ?_
  refine WL.next ?_
  refine WC.seq ?_
  refine WC.seq ?_
  refine WC.region ?_
  refine WL.u rfl rfl (Wt.plain rfl) (Ex.move rfl) ?_
  refine WL.u rfl rfl (Wt.plain rfl) (Ex.move rfl) ?_
  refine WL.u rfl rfl (Wt.plain rfl) (Ex.neqB Try.underlying4 rfl rfl) ?_
  refine WL.u rfl rfl (Wt.plain rfl) (Ex.move rfl) ?_
  refine WL.split (t := 30) rfl (fun hg6_3 => ?_) (fun hg6_3 => ?_)
  · exfalso; simp at hg6_3
  have hg6_3' := hg6_3; try simp only [decide_eq_true_eq, decide_eq_false_iff_not, Bool.not_eq_true', Bool.not_eq_false', Bool.not_eq_true, Bool.not_eq_false] at hg6_3'
  refine WL.u rfl rfl (Wt.guard' rfl rfl rfl hg6_3 rfl) (Ex.move rfl) ?_
  refine WL.u rfl rfl (Wt.guard' rfl rfl rfl hg6_3 rfl) (Ex.move rfl) ?_
  refine WL.call callable15 rfl (Wt.guard' rfl rfl rfl hg6_3 rfl) rfl rfl (sameInts (termPairs s).1 (termPairs s).1 _ _ _ _ _ (ho19.slAt hH 1 rfl) (ho24.slAt hH 0 rfl)) ?_
  rintro _ wn ⟨rfl, hC⟩; replace hH := hH.dr hC; clear hC
  refine WL.u rfl rfl (Wt.guard' rfl rfl rfl hg6_3 rfl) (Ex.not rfl) ?_
  refine WL.u rfl rfl (Wt.plain rfl) (Ex.pickF rfl hg6_3 rfl) ?_
  refine WL.u rfl rfl (Wt.plain rfl) (Ex.move rfl) ?_
  refine WL.split (t := 36) rfl (fun hg6_9 => ?_) (fun hg6_9 => ?_)
  · exfalso; simp at hg6_9
  have hg6_9' := hg6_9; try simp only [decide_eq_true_eq, decide_eq_false_iff_not, Bool.not_eq_true', Bool.not_eq_false', Bool.not_eq_true, Bool.not_eq_false] at hg6_9'
  refine WL.u rfl rfl (Wt.guard' rfl rfl rfl hg6_9 rfl) (Ex.move rfl) ?_
  refine WL.u rfl rfl (Wt.guard' rfl rfl rfl hg6_9 rfl) (Ex.not rfl) ?_
  refine WL.u rfl rfl (Wt.plain rfl) (Ex.pickF rfl hg6_9 rfl) ?_
  refine WL.next ?_
  refine WC.cond rfl (fun hc2 => ?_) (fun hc2 => ?_)
  · have hc2' := hc2; try simp only [decide_eq_true_eq, decide_eq_false_iff_not, Bool.not_eq_true', Bool.not_eq_false', Bool.not_eq_true, Bool.not_eq_false] at hc2'
    refine WC.seq ?_
    refine WC.region ?_
    refine WL.u rfl rfl (Wt.plain rfl) (Ex.move rfl) ?_
    refine WL.u rfl rfl (Wt.plain rfl) (Ex.move rfl) ?_
    refine WL.u rfl rfl (Wt.plain rfl) (Ex.eqlB Try.underlying4 rfl rfl) ?_
    refine WL.u rfl rfl (Wt.plain rfl) (Ex.move rfl) ?_
    refine WL.split (t := 43) rfl (fun hg7_3 => ?_) (fun hg7_3 => ?_)
    · have hg7_3' := hg7_3; try simp only [decide_eq_true_eq, decide_eq_false_iff_not, Bool.not_eq_true', Bool.not_eq_false', Bool.not_eq_true, Bool.not_eq_false] at hg7_3'
      refine WL.u rfl rfl (Wt.guard' rfl rfl rfl hg7_3 rfl) (Ex.move rfl) ?_
      refine WL.u rfl rfl (Wt.guard' rfl rfl rfl hg7_3 rfl) (Ex.move rfl) ?_
      refine WL.call callable15 rfl (Wt.guard' rfl rfl rfl hg7_3 rfl) rfl rfl (sameInts (termPairs s).1 (termPairs s).1 _ _ _ _ _ (ho19.slAt hH 1 rfl) (ho24.slAt hH 0 rfl)) ?_
      rintro _ wn ⟨rfl, hC⟩; replace hH := hH.dr hC; clear hC
      refine WL.u rfl rfl (Wt.plain rfl) (Ex.pickT rfl hg7_3 rfl) ?_
      refine WL.u rfl rfl (Wt.plain rfl) (Ex.assign rfl) ?_
      refine WL.next ?_
      refine WC.ret ?_
      refine WN.retThen ?_
      refine WN.body1 rfl rfl ?_
      exact ⟨congrArg Value.bool (decide_eq_true rfl), hH.keep⟩
    exfalso; simp at hg7_3
  have hts : (termT s).isSome = true := by rw [← (tp_ok s).1]; simpa using hc2
  obtain ⟨t, ht⟩ := Option.isSome_iff_exists.1 hts
  obtain ⟨hW, hv⟩ := termT_ok ht
  obtain ⟨hG, _, _⟩ := gridT_ok hW hv
  have e := termGrid_at ht
  have e2 : (termPairs s).1 = pairsI (gridT t) := by rw [termPairs_at ht]
  refine WC.skip ?_
  refine WN.next ?_
  refine WC.seq ?_
  refine WC.region ?_
  refine WL.u rfl rfl (Wt.plain rfl) (Ex.move rfl) ?_
  refine WL.call callable16 rfl (Wt.plain rfl) rfl rfl (iTermGrid s _ (by omega)) ?_
  rintro _ wn ⟨x, rfl, hC, hN⟩; rw [e] at hN ⊢; obtain ⟨b50, cap50, cur50, rfl, hge50, hbb50, ho50⟩ := hN.own; replace hH := hH.push hC hge50 hbb50; clear hC hN
  refine WL.u rfl rfl (Wt.plain rfl) (Ex.move rfl) ?_
  refine WL.u rfl rfl (Wt.plain rfl) (Ex.extract rfl rfl) ?_
  refine WL.u rfl rfl (Wt.plain rfl) (Ex.extract rfl rfl) ?_
  refine WL.u rfl rfl (Wt.plain rfl) (Ex.assign rfl) ?_
  refine WL.u rfl rfl (Wt.plain rfl) (Ex.assign rfl) ?_
  refine WL.next ?_
  refine WC.seq ?_
  refine WC.region ?_
  refine WL.u rfl rfl (Wt.plain rfl) (Ex.move rfl) ?_
  refine WL.call callable17 rfl (Wt.plain rfl) rfl rfl (iBeamPairsT (gridT t) _ _ _ (ho50.slAt hH 0 rfl) hG) ?_
  rintro _ wn ⟨x, rfl, hC, hN⟩; rw [← e2] at hN; obtain ⟨b55, cap55, cur55, rfl, hge55, hbb55, ho55⟩ := hN.own; replace hH := hH.push hC hge55 hbb55; clear hC hN
  refine WL.u rfl rfl (Wt.plain rfl) (Ex.move rfl) ?_
  refine WL.u rfl rfl (Wt.plain rfl) (Ex.extract rfl rfl) ?_
  refine WL.u rfl rfl (Wt.plain rfl) (Ex.extract rfl rfl) ?_
  refine WL.u rfl rfl (Wt.plain rfl) (Ex.assign rfl) ?_
  refine WL.u rfl rfl (Wt.plain rfl) (Ex.assign rfl) ?_
  refine WL.next ?_
  refine WC.seq ?_
  refine WC.region ?_
  refine WL.u rfl rfl (Wt.plain rfl) (Ex.move rfl) ?_
  refine WL.u rfl rfl (Wt.plain rfl) (Ex.move rfl) ?_
  refine WL.u rfl rfl (Wt.guard' rfl rfl rfl (rfl) rfl) (Ex.move rfl) ?_
  refine WL.u rfl rfl (Wt.plain rfl) (Ex.pickT rfl (rfl) rfl) ?_
  refine WL.u rfl rfl (Wt.plain rfl) (Ex.move rfl) ?_
  refine WL.u rfl rfl (Wt.guard' rfl rfl rfl (rfl) rfl) (Ex.move rfl) ?_
  refine WL.u rfl rfl (Wt.guard' rfl rfl rfl (rfl) rfl) (Ex.move rfl) ?_
  refine WL.call callable15 rfl (Wt.guard' rfl rfl rfl (rfl) rfl) rfl rfl (sameInts (termPairs s).1 (termPairs s).1 _ _ _ _ _ (ho55.slAt hH 0 rfl) (ho19.slAt hH 3 rfl)) ?_
  rintro _ wn ⟨rfl, hC⟩; replace hH := hH.dr hC; clear hC
  refine WL.u rfl rfl (Wt.plain rfl) (Ex.pickT rfl (rfl) rfl) ?_
  refine WL.u rfl rfl (Wt.plain rfl) (Ex.assign rfl) ?_
  refine WL.next ?_
  refine WC.ret ?_
  refine WN.body1 rfl rfl ?_
  exact ⟨congrArg Value.bool (decide_eq_true rfl), hH.keep⟩

theorem lawTermRounds (a : Option Addr) (l : List UInt8) (cap : Nat) (w : World) (hc : Sl rByte w a l) (hcap : l.length ≤ cap) : Fn Try.prog 6 [.slice a l.length cap] w (fun v w1 => v = .bool true ∧ Keep [] w w1) := by
  refine Fn.enter (n := 66) Try.func6 rfl rfl rfl ?_
  show WC _ _ _ _ [(0, .slice a l.length cap)] _
  have hH := Hp.start [] w
  refine WC.seq ?_
  refine WC.region ?_
  refine WL.u rfl rfl (Wt.plain rfl) (Ex.assign rfl) ?_
  refine WL.next ?_
  refine WC.seq ?_
  refine WC.seq ?_
  refine WC.region ?_
  refine WL.u rfl rfl (Wt.plain rfl) (Ex.move rfl) ?_
  refine WL.u rfl rfl (Wt.plain rfl) (Ex.lenSl Try.underlying30 rfl) ?_
  refine WL.u rfl rfl (Wt.plain rfl) (Ex.gtr rfl rfl) ?_
  refine WL.next ?_
  refine WC.cond rfl (fun hc1 => ?_) (fun hc1 => ?_)
  · have hc1' := hc1; try simp only [decide_eq_true_eq, decide_eq_false_iff_not, Bool.not_eq_true', Bool.not_eq_false', Bool.not_eq_true, Bool.not_eq_false] at hc1'
    refine WC.seq ?_
    refine WC.region ?_
    refine WL.u rfl rfl (Wt.plain rfl) (Ex.assign rfl) ?_
    refine WL.next ?_
    refine WC.ret ?_
    refine WN.retThen ?_
    refine WN.body1 rfl rfl ?_
    exact ⟨rfl, hH.keep⟩
  have hc1' := hc1; try simp only [decide_eq_true_eq, decide_eq_false_iff_not, Bool.not_eq_true', Bool.not_eq_false', Bool.not_eq_true, Bool.not_eq_false] at hc1'
  refine WC.skip ?_
  refine WN.next ?_
  refine WC.seq ?_
  refine WC.region ?_
  refine WL.u rfl rfl (Wt.plain rfl) (Ex.move rfl) ?_
  refine WL.call callable18 rfl (Wt.plain rfl) rfl rfl (sDrawTermRounds _ _ _ _ (hc.kept hH.keep) hcap) ?_
  rintro _ wn ⟨s, rfl, hls, hC⟩; replace hH := hH.call hC; clear hC
  refine WL.u rfl rfl (Wt.plain rfl) (Ex.assign rfl) ?_
  refine WL.next ?_
  refine WC.seq ?_
  refine WC.region ?_
  refine WL.u rfl rfl (Wt.plain rfl) (Ex.move rfl) ?_
  refine WL.call callable13 rfl (Wt.plain rfl) rfl rfl (iTermRounds s _ (by omega)) ?_
  rintro _ wn ⟨rfl, hC⟩; replace hH := hH.call hC; clear hC
  refine WL.u rfl rfl (Wt.plain rfl) (Ex.move rfl) ?_
  refine WL.u rfl rfl (Wt.plain rfl) (Ex.extract rfl rfl) ?_
  refine WL.u rfl rfl (Wt.plain rfl) (Ex.extract rfl rfl) ?_
  refine WL.u rfl rfl (Wt.plain rfl) (Ex.assign rfl) ?_
  refine WL.u rfl rfl (Wt.plain rfl) (Ex.assign rfl) ?_
  refine WL.next ?_
  refine WC.seq ?_
  refine WC.region ?_
  refine WL.u rfl rfl (Wt.plain rfl) (Ex.move rfl) ?_
  refine WL.call callable12 rfl (Wt.plain rfl) rfl rfl (sTermRounds s _ (by omega)) ?_
  rintro _ wn ⟨rfl, hC⟩; replace hH := hH.call hC; clear hC
  refine WL.u rfl rfl (Wt.plain rfl) (Ex.move rfl) ?_
  refine WL.u rfl rfl (Wt.plain rfl) (Ex.extract rfl rfl) ?_
  refine WL.u rfl rfl (Wt.plain rfl) (Ex.extract rfl rfl) ?_
  refine WL.u rfl rfl (Wt.plain rfl) (Ex.assign rfl) ?_
  refine WL.u rfl rfl (Wt.plain rfl) (Ex.assign rfl) ?_
  refine WL.next ?_
  refine WC.seq ?_
  refine WC.seq ?_
  refine WC.region ?_
  refine WL.u rfl rfl (Wt.plain rfl) (Ex.move rfl) ?_
  refine WL.u rfl rfl (Wt.plain rfl) (Ex.move rfl) ?_
  refine WL.u rfl rfl (Wt.plain rfl) (Ex.neqB Try.underlying4 rfl rfl) ?_
  refine WL.u rfl rfl (Wt.plain rfl) (Ex.move rfl) ?_
  refine WL.split (t := 30) rfl (fun hg6_3 => ?_) (fun hg6_3 => ?_)
  · exfalso; simp at hg6_3
  have hg6_3' := hg6_3; try simp only [decide_eq_true_eq, decide_eq_false_iff_not, Bool.not_eq_true', Bool.not_eq_false', Bool.not_eq_true, Bool.not_eq_false] at hg6_3'
  refine WL.u rfl rfl (Wt.guard' rfl rfl rfl hg6_3 rfl) (Ex.move rfl) ?_
  refine WL.u rfl rfl (Wt.guard' rfl rfl rfl hg6_3 rfl) (Ex.move rfl) ?_
  refine WL.u rfl rfl (Wt.guard' rfl rfl rfl hg6_3 rfl) (Ex.neq rfl rfl) ?_
  refine WL.u rfl rfl (Wt.plain rfl) (Ex.pickF rfl hg6_3 rfl) ?_
  refine WL.u rfl rfl (Wt.plain rfl) (Ex.move rfl) ?_
  refine WL.split (t := 35) rfl (fun hg6_8 => ?_) (fun hg6_8 => ?_)
  · exfalso; simp at hg6_8
  have hg6_8' := hg6_8; try simp only [decide_eq_true_eq, decide_eq_false_iff_not, Bool.not_eq_true', Bool.not_eq_false', Bool.not_eq_true, Bool.not_eq_false] at hg6_8'
  refine WL.u rfl rfl (Wt.guard' rfl rfl rfl hg6_8 rfl) (Ex.move rfl) ?_
  refine WL.u rfl rfl (Wt.guard' rfl rfl rfl hg6_8 rfl) (Ex.not rfl) ?_
  refine WL.u rfl rfl (Wt.plain rfl) (Ex.pickF rfl hg6_8 rfl) ?_
  refine WL.next ?_
  refine WC.cond rfl (fun hc2 => ?_) (fun hc2 => ?_)
  · have hc2' := hc2; try simp only [decide_eq_true_eq, decide_eq_false_iff_not, Bool.not_eq_true', Bool.not_eq_false', Bool.not_eq_true, Bool.not_eq_false] at hc2'
    refine WC.seq ?_
    refine WC.region ?_
    refine WL.u rfl rfl (Wt.plain rfl) (Ex.move rfl) ?_
    refine WL.u rfl rfl (Wt.plain rfl) (Ex.move rfl) ?_
    refine WL.u rfl rfl (Wt.plain rfl) (Ex.eqlB Try.underlying4 rfl rfl) ?_
    refine WL.u rfl rfl (Wt.plain rfl) (Ex.move rfl) ?_
    refine WL.split (t := 42) rfl (fun hg7_3 => ?_) (fun hg7_3 => ?_)
    · have hg7_3' := hg7_3; try simp only [decide_eq_true_eq, decide_eq_false_iff_not, Bool.not_eq_true', Bool.not_eq_false', Bool.not_eq_true, Bool.not_eq_false] at hg7_3'
      refine WL.u rfl rfl (Wt.guard' rfl rfl rfl hg7_3 rfl) (Ex.move rfl) ?_
      refine WL.u rfl rfl (Wt.guard' rfl rfl rfl hg7_3 rfl) (Ex.move rfl) ?_
      refine WL.u rfl rfl (Wt.guard' rfl rfl rfl hg7_3 rfl) (Ex.eql rfl rfl) ?_
      refine WL.u rfl rfl (Wt.plain rfl) (Ex.pickT rfl hg7_3 rfl) ?_
      refine WL.u rfl rfl (Wt.plain rfl) (Ex.assign rfl) ?_
      refine WL.next ?_
      refine WC.ret ?_
      refine WN.retThen ?_
      refine WN.body1 rfl rfl ?_
      exact ⟨congrArg Value.bool (by simp), hH.keep⟩
    exfalso; simp at hg7_3
  have hts : (termT s).isSome = true := by rw [← (tp_ok s).2]; simpa using hc2
  obtain ⟨t, ht⟩ := Option.isSome_iff_exists.1 hts
  obtain ⟨hW, hv⟩ := termT_ok ht
  obtain ⟨hG, _, _⟩ := gridT_ok hW hv
  have e := termGrid_at ht
  have e2 : (termRounds s).1 = ((rounds (gridT t)).length : Int) := by rw [termRounds_at ht]
  have e3 : decide (((rounds (gridT t)).length : Int) = (termRounds s).1) = true := by rw [e2]; exact decide_eq_true rfl
  refine WC.skip ?_
  refine WN.next ?_
  refine WC.seq ?_
  refine WC.region ?_
  refine WL.u rfl rfl (Wt.plain rfl) (Ex.move rfl) ?_
  refine WL.call callable16 rfl (Wt.plain rfl) rfl rfl (iTermGrid s _ (by omega)) ?_
  rintro _ wn ⟨x, rfl, hC, hN⟩; rw [e] at hN ⊢; obtain ⟨b49, cap49, cur49, rfl, hge49, hbb49, ho49⟩ := hN.own; replace hH := hH.push hC hge49 hbb49; clear hC hN
  refine WL.u rfl rfl (Wt.plain rfl) (Ex.move rfl) ?_
  refine WL.u rfl rfl (Wt.plain rfl) (Ex.extract rfl rfl) ?_
  refine WL.u rfl rfl (Wt.plain rfl) (Ex.extract rfl rfl) ?_
  refine WL.u rfl rfl (Wt.plain rfl) (Ex.assign rfl) ?_
  refine WL.u rfl rfl (Wt.plain rfl) (Ex.assign rfl) ?_
  refine WL.next ?_
  refine WC.seq ?_
  refine WC.region ?_
  refine WL.u rfl rfl (Wt.plain rfl) (Ex.move rfl) ?_
  refine WL.call callable19 rfl (Wt.plain rfl) rfl rfl (iRoundManyT (gridT t) _ _ _ (ho49.slAt hH 0 rfl) hG) ?_
  rintro _ wn ⟨rfl, hC⟩; replace hH := hH.call hC; clear hC
  refine WL.u rfl rfl (Wt.plain rfl) (Ex.move rfl) ?_
  refine WL.u rfl rfl (Wt.plain rfl) (Ex.extract rfl rfl) ?_
  refine WL.u rfl rfl (Wt.plain rfl) (Ex.extract rfl rfl) ?_
  refine WL.u rfl rfl (Wt.plain rfl) (Ex.assign rfl) ?_
  refine WL.u rfl rfl (Wt.plain rfl) (Ex.assign rfl) ?_
  refine WL.next ?_
  refine WC.seq ?_
  refine WC.region ?_
  refine WL.u rfl rfl (Wt.plain rfl) (Ex.move rfl) ?_
  refine WL.u rfl rfl (Wt.plain rfl) (Ex.move rfl) ?_
  refine WL.u rfl rfl (Wt.guard' rfl rfl rfl (rfl) rfl) (Ex.move rfl) ?_
  refine WL.u rfl rfl (Wt.plain rfl) (Ex.pickT rfl (rfl) rfl) ?_
  refine WL.u rfl rfl (Wt.plain rfl) (Ex.move rfl) ?_
  refine WL.u rfl rfl (Wt.guard' rfl rfl rfl (rfl) rfl) (Ex.move rfl) ?_
  refine WL.u rfl rfl (Wt.guard' rfl rfl rfl (rfl) rfl) (Ex.move rfl) ?_
  refine WL.u rfl rfl (Wt.guard' rfl rfl rfl (rfl) rfl) (Ex.eql rfl rfl) ?_
  refine WL.u rfl rfl (Wt.plain rfl) (Ex.pickT rfl (rfl) rfl) ?_
  refine WL.u rfl rfl (Wt.plain rfl) (Ex.assign rfl) ?_
  refine WL.next ?_
  refine WC.ret ?_
  refine WN.body1 rfl rfl ?_
  exact ⟨congrArg Value.bool e3, hH.keep⟩

end Go.Proofs.Ytamkbmhgclpidaa
