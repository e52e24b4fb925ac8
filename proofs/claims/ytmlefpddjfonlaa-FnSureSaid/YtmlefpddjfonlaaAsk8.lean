/- What is sure: the reference's; the laws. -/
import Derived.Test.YtmlefpddjfonlaaAsk7
import Derived.Test.YtmlefpddjfonlaaConv
namespace Go.Proofs.Ytmlefpddjfonlaa
set_option maxRecDepth 100000
set_option linter.unusedSimpArgs false
set_option linter.unusedVariables false
open Go Go.RowKit
def rowS (L : List Grid) (m a i : Nat) : List UInt8 := (List.range m).map fun k => sureL L a i k
def rowP (L : List Grid) (m a i j : Nat) : List UInt8 := (List.range m).map fun k => if k < j then sureL L (a + 1) i k else sureL L a i k
theorem rowS_len (L : List Grid) (m a i : Nat) : (rowS L m a i).length = m := by simp [rowS]
theorem rowP_len (L : List Grid) (m a i j : Nat) : (rowP L m a i j).length = m := by simp [rowP]
theorem u8_ext {a b : List UInt8} (hl : a.length = b.length) (h : ∀ k, k < a.length → a.getD k 0 = b.getD k 0) : a = b :=
  List.ext_getElem hl fun k h1 h2 => by
    have := h k h1
    rwa [List.getD_eq_getElem?_getD, List.getD_eq_getElem?_getD, List.getElem?_eq_getElem h1, List.getElem?_eq_getElem h2] at this
theorem rowS_get (L : List Grid) {m a i k : Nat} (h : k < m) : (rowS L m a i).getD k 0 = sureL L a i k := by
  simp [rowS, List.getD_eq_getElem?_getD, h]
theorem rowP_at (L : List Grid) {m a i j k : Nat} (h : k < m) : (rowP L m a i j).getD k 0 = if k < j then sureL L (a + 1) i k else sureL L a i k := by
  simp [rowP, List.getD_eq_getElem?_getD, h]
theorem row_first {L : List Grid} {m i : Nat} (h : ((L.getD 0 []).getD i []).length = m) : (L.getD 0 []).getD i [] = rowS L m 1 i :=
  u8_ext (by rw [h, rowS_len]) fun k hk => by rw [rowS_get L (by omega), sureL_one]; rfl
theorem rowP_zero (L : List Grid) (m a i : Nat) : rowP L m a i 0 = rowS L m a i := by unfold rowP rowS; simp
theorem rowP_end (L : List Grid) (m a i : Nat) : rowP L m a i m = rowS L m (a + 1) i := by
  unfold rowP rowS
  apply List.map_congr_left
  intro k hk
  rw [if_pos (List.mem_range.1 hk)]
theorem rowP_get (L : List Grid) {m a i j : Nat} (h : j < m) : (rowP L m a i j).getD j 0 = sureL L a i j := by
  simp [rowP, List.getD_eq_getElem?_getD, h]
theorem rowP_same {L : List Grid} {m a i j : Nat} (h : sureL L (a + 1) i j = sureL L a i j) : rowP L m a i (j + 1) = rowP L m a i j := by
  unfold rowP
  apply List.map_congr_left
  intro k hk
  by_cases h1 : k < j
  · rw [if_pos h1, if_pos (by omega)]
  · by_cases h2 : k = j
    · subst h2; rw [if_pos (by omega), if_neg (by omega), h]
    · rw [if_neg h1, if_neg (by omega)]
theorem rowP_set {L : List Grid} {m a i j : Nat} (hj : j < m) (h : sureL L (a + 1) i j = 63) : (rowP L m a i j).set j 63 = rowP L m a i (j + 1) := by
  refine u8_ext (by rw [List.length_set, rowP_len, rowP_len]) fun k hk => ?_
  rw [List.length_set, rowP_len] at hk
  rw [rowP_at L hk, List.getD_eq_getElem?_getD, List.getElem?_set]
  by_cases e : j = k
  · subst e; rw [if_pos rfl, if_pos (by rw [rowP_len]; exact hk), if_pos (by omega), h]; rfl
  · rw [if_neg e, ← List.getD_eq_getElem?_getD, rowP_at L hk]
    by_cases h3 : k < j
    · rw [if_pos h3, if_pos (by omega)]
    · rw [if_neg h3, if_neg (by omega)]
theorem sure_ne {L : List Grid} {a i k : Nat} (h : cellG (L.getD a []) i k ≠ sureL L a i k) : sureL L (a + 1) i k = 63 := by
  unfold sureL at h ⊢
  rw [sureB]
  by_cases hb : sureB L i k a = true
  · rw [if_pos (by rw [hb]; rfl)]
  · rw [if_neg hb] at h
    rw [if_pos (by rw [decide_eq_true h, Bool.or_true])]
theorem sure_eq {L : List Grid} {a i k : Nat} (ho : okL (cellG (L.getD a []) i k) = true) (h : cellG (L.getD a []) i k = sureL L a i k) : sureL L (a + 1) i k = sureL L a i k := by
  unfold sureL at h ⊢
  rw [sureB]
  by_cases hb : sureB L i k a = true
  · rw [if_pos hb] at h
    rw [h] at ho
    exact absurd ho (by decide)
  · rw [if_neg hb] at h ⊢
    rw [if_neg]
    rw [h]
    simpa using hb
theorem Gs.moveL {lo b b' : Nat} {X : List Nat} {w w' : World} {hs : List Hd} {L : List Grid} (a : Gs lo (b :: X) w hs L) (hb : b' = b ∨ w.heap.size ≤ b') (k : Keep [b] w w') : Gs lo (b' :: X) w' hs L :=
  ((a.reX (X' := b' :: b :: X) (fun x hx => by
    rcases List.mem_cons.1 hx with rfl | hx
    · rcases hb with rfl | hb
      · exact .inl (by simp)
      · exact .inr hb
    · exact .inl hx)).keep k (fun x hx => .inl (by simp at hx; simp [hx]))).reX (fun x hx => .inl (by
      rcases List.mem_cons.1 hx with rfl | hx
      · simp
      · simp [hx]))
theorem Gs.low {lo : Nat} {X X' : List Nat} {w : World} {hs : List Hd} {L : List Grid} (a : Gs lo X w hs L) (h : ∀ x, x ∈ X' → x ∈ X ∨ x < lo) : Gs lo X' w hs L := ⟨a.len, fun i hd g h1 h2 => by
  obtain ⟨b, cap, cur, k1, k2, k3, k4⟩ := a.get i hd g h1 h2
  refine ⟨b, cap, cur, k1, fun hm => ?_, k3, k4⟩
  rcases h b hm with h5 | h5
  · exact k2 h5
  · omega⟩

set_option maxHeartbeats 2000000 in
theorem sAskSure (n m : Int) (ans : List Int) (a : Option Addr) (cap : Nat) (w : World) (ha : Sl rInt w a ans) : Fn Try.prog 40 [vint n, vint m, .slice a ans.length cap] w (fun v w1 => ∃ x, v = .tuple #[x, .bool (askSure n m ans).2] ∧ Keep [] w w1 ∧ New rStr 9 w w1 x (askSure n m ans).1) := by
  refine Fn.enter (n := 75) Try.func40 rfl rfl rfl ?_
  show WC _ _ _ _ [(0, vint n), (1, vint m), (2, .slice a ans.length cap)] _
  have hH := Hp.start [] w
  refine WC.seq ?_
  refine WC.region ?_
  refine WL.u rfl rfl (Wt.plain rfl) (Ex.assign rfl) ?_
  refine WL.u rfl rfl (Wt.plain rfl) (Ex.assign rfl) ?_
  refine WL.next ?_
  refine WC.seq ?_
  refine WC.region ?_
  refine WL.lit0 Try.underlying22 ty9 rfl (Wt.plain rfl) hH (fun b14 wn hb14 hk14 hH => ?_)
  have ho14 := Own.nil rStr
  refine WL.u rfl rfl (Wt.plain rfl) (Ex.assign rfl) ?_
  refine WL.next ?_
  refine WC.seq ?_
  refine WC.seq ?_
  refine WC.region ?_
  refine WL.u rfl rfl (Wt.plain rfl) (Ex.move rfl) ?_
  refine WL.u rfl rfl (Wt.plain rfl) (Ex.move rfl) ?_
  refine WL.u rfl rfl (Wt.plain rfl) (Ex.move rfl) ?_
  refine WL.call callable62 rfl (Wt.plain rfl) rfl rfl (sl8Given n m ans _ _ _ (ha.kept hH.keep)) ?_
  rintro _ _ ⟨rfl, hw⟩; obtain rfl := hw.symm
  refine WL.u rfl rfl (Wt.plain rfl) (Ex.not rfl) ?_
  refine WL.next ?_
  refine WC.cond rfl (fun hc1 => ?_) (fun hc1 => ?_)
  · have hc1' := hc1; try simp only [decide_eq_true_eq, decide_eq_false_iff_not, Bool.not_eq_true', Bool.not_eq_false', Bool.not_eq_true, Bool.not_eq_false] at hc1'
    have hab : ansB n m ans = false := by simpa using hc1
    refine WC.seq ?_
    refine WC.region ?_
    refine WL.u rfl rfl (Wt.plain rfl) (Ex.move rfl) ?_
    refine WL.u rfl rfl (Wt.plain rfl) (Ex.assign rfl) ?_
    refine WL.u rfl rfl (Wt.plain rfl) (Ex.assign rfl) ?_
    refine WL.next ?_
    refine WC.ret ?_
    refine WN.retThen ?_
    refine WN.body2 rfl rfl rfl ?_
    have e := askSure_not hab
    exact ⟨_, by rw [e] <;> rfl, hH.keep, by rw [e]; exact New.of (hH.front 0 rfl) ho14 (hH.base 0 rfl)⟩
  have hc1' := hc1; try simp only [decide_eq_true_eq, decide_eq_false_iff_not, Bool.not_eq_true', Bool.not_eq_false', Bool.not_eq_true, Bool.not_eq_false] at hc1'
  have hab : ansB n m ans = true := by simpa using hc1
  obtain ⟨n, m, rfl, rfl, hA⟩ := ansB_ex hab
  have hn5 := hA.n5
  have hm5 := hA.m5
  have hO := hA.list
  have hLl := hO.l
  refine WC.skip ?_
  refine WN.next ?_
  refine WC.seq ?_
  refine WC.region ?_
  refine WL.u rfl rfl (Wt.plain rfl) (Ex.move rfl) ?_
  refine WL.u rfl rfl (Wt.plain rfl) (Ex.move rfl) ?_
  refine WL.u rfl rfl (Wt.plain rfl) (Ex.move rfl) ?_
  refine WL.call callable63 rfl (Wt.plain rfl) rfl rfl (sl8All n m ans _ _ _ (ha.kept hH.keep) hA) ?_
  rintro _ wn ⟨hC, hN⟩; have hlt14 := hH.lt 0 rfl; dsimp only at hlt14; obtain ⟨hs, b24, cap24, cur24, rfl, hge24, hbb24, ho24, hgs⟩ := hN; replace hH := hH.push hC hge24 hbb24; have hsl := hgs.len; obtain ⟨lo, hgs⟩ : ∃ lo, Gs lo [b14, b24] wn hs (fits n m ans) := ⟨_, hgs.low (by intro x hx; rcases List.mem_cons.1 hx with h | h; exact .inr (by rw [h]; exact hlt14); exact .inl h)⟩; clear hC
  refine WL.u rfl rfl (Wt.plain rfl) (Ex.assign rfl) ?_
  refine WL.next ?_
  refine WC.seq ?_
  refine WC.seq ?_
  refine WC.region ?_
  refine WL.u rfl rfl (Wt.plain rfl) (Ex.move rfl) ?_
  refine WL.u rfl rfl (Wt.plain rfl) (Ex.lenSl Try.underlying56 rfl) ?_
  refine WL.u rfl rfl (Wt.plain rfl) (Ex.eql rfl rfl) ?_
  refine WL.next ?_
  refine WC.cond rfl (fun hc2 => ?_) (fun hc2 => ?_)
  · have hc2' := hc2; try simp only [decide_eq_true_eq, decide_eq_false_iff_not, Bool.not_eq_true', Bool.not_eq_false', Bool.not_eq_true, Bool.not_eq_false] at hc2'
    have hL0 : (fits n m ans).length = 0 := by omega
    refine WC.seq ?_
    refine WC.region ?_
    refine WL.u rfl rfl (Wt.plain rfl) (Ex.move rfl) ?_
    refine WL.u rfl rfl (Wt.plain rfl) (Ex.assign rfl) ?_
    refine WL.u rfl rfl (Wt.plain rfl) (Ex.assign rfl) ?_
    refine WL.next ?_
    refine WC.ret ?_
    refine WN.retThen ?_
    refine WN.body2 rfl rfl rfl ?_
    have e := askSure_none hL0
    exact ⟨_, by rw [e] <;> rfl, hH.keep, by rw [e]; exact New.of (hH.front 1 rfl) ho14 (hH.base 1 rfl)⟩
  have hc2' := hc2; try simp only [decide_eq_true_eq, decide_eq_false_iff_not, Bool.not_eq_true', Bool.not_eq_false', Bool.not_eq_true, Bool.not_eq_false] at hc2'
  have hL0 : 0 < (fits n m ans).length := by omega
  refine WC.skip ?_
  refine WN.next ?_
  refine WC.seq ?_
  refine WC.seq ?_
  refine WC.region ?_
  refine WL.u rfl rfl (Wt.plain rfl) (Ex.assign rfl) ?_
  refine WL.next ?_
  refine WC.block ?_
  replace hH := hH.f1
  refine WC.loop (ι := Nat × Nat × Nat × (Array Value) × Grid) (fun (i, b14, cap14, cur14, g) => [(0, vint n), (1, vint m), (8, vsl b14 g.length cap14), (9, vsl b24 hs.length cap24), (10, vint i)]) (fun (i, b14, cap14, cur14, g) wn => Hp [] w wn [(b14, .cells cur14 9 (0, 0)), (b24, .cells cur24 22 (0, 0))] ∧ Own rStr cur14 cap14 g ∧ g = (List.range i).map (fun i => rowS (fits n m ans) m (fits n m ans).length i) ∧ Gs lo [b14, b24] wn hs (fits n m ans) ∧ i ≤ n) (fun (i, b14, cap14, cur14, g) => n - i) ((0, b14, 0, #[], [])) (by exact ⟨rfl, rfl, rfl, rfl, rfl, trivial⟩) ?_ ?_
  · exact ⟨hH, ho14, rfl, hgs, Nat.zero_le _⟩
  rintro ⟨i, b14, cap14, cur14, g⟩ wn ⟨hH, ho14, hg, hgs, hi⟩
  have hgl : g.length = i := by rw [hg]; simp
  intro mu0 hmu; try dsimp only at hmu
  show WC _ _ _ _ [(0, vint n), (1, vint m), (8, vsl b14 g.length cap14), (9, vsl b24 hs.length cap24), (10, vint i)] _
  refine WC.seq ?_
  refine WC.seq ?_
  refine WC.region ?_
  refine WL.u rfl rfl (Wt.plain rfl) (Ex.move rfl) ?_
  refine WL.u rfl rfl (Wt.plain rfl) (Ex.move rfl) ?_
  refine WL.u rfl rfl (Wt.plain rfl) (Ex.lss rfl rfl) ?_
  refine WL.next ?_
  refine WC.cond rfl (fun hc3 => ?_) (fun hc3 => ?_)
  · have hc3' := hc3; try simp only [decide_eq_true_eq, decide_eq_false_iff_not, Bool.not_eq_true', Bool.not_eq_false', Bool.not_eq_true, Bool.not_eq_false] at hc3'
    have hli : i < n := by omega
    have hR := hgs.r
    obtain ⟨bz, offz, capz, hvz, hsz⟩ := hR.at (a := 0) (by omega) (hO.g _ (by omega)).1
    have hGz := (hO.g 0 (by omega)).1
    have hnz := (hO.g 0 (by omega)).2.2.1
    have hmz := (hO.g 0 (by omega)).2.2.2
    dsimp only [nR, nC] at hnz hmz
    have hrz := hGz.row i (by omega)
    have hgetz := getD_get ((fits n m ans).getD 0 []) i [] (by omega)
    have hhz := getD_get hs 0 hd0 (by omega)
    have hrow1 := row_first (L := (fits n m ans)) (m := m) (i := i) (by omega)
    refine WC.skip ?_
    refine WN.next ?_
    refine WC.seq ?_
    refine WC.block ?_
    refine WC.seq ?_
    refine WC.region ?_
    refine WL.u rfl rfl (Wt.plain rfl) (Ex.move rfl) ?_
    refine WL.u rfl rfl (Wt.plain rfl) (Ex.indexAddr Try.underlying56 ty22 rfl rfl (by omega)) ?_
    refine WL.u rfl rfl (Wt.plain rfl) ((Ex.loadSl flat22 (ho24.slAt hH 1 rfl) rfl rfl hhz).to hvz) ?_
    refine WL.u rfl rfl (Wt.plain rfl) (Ex.move rfl) ?_
    refine WL.u rfl rfl (Wt.plain rfl) (Ex.indexAddr Try.underlying22 ty9 rfl rfl (by omega)) ?_
    refine WL.u rfl rfl (Wt.plain rfl) (Ex.loadSl flat9 hsz rfl rfl hgetz) ?_
    refine WL.strBytes Try.underlying9 Try.underlying38 Try.underlying5 rfl rfl (Wt.plain rfl) (by omega) hH (fun b40 cap40 cur40 wn hb40 hk40 hH ho40 => ?_)
    have hfz : cur40.size = cur40.size := rfl
    generalize hfq : cur40.size = fz at hH
    replace hgs := (hgs.reX (X' := [b14, b24, b40]) (by intro x hx; simp only [List.mem_cons, List.not_mem_nil, or_false] at hx; rcases hx with h | h | h; exact .inl (by rw [h]; simp); exact .inl (by rw [h]; simp); exact .inr (by rw [h]; exact hb40))).kept hk40
    rw [hrow1] at ho40 ⊢
    refine WL.u rfl rfl (Wt.plain rfl) (Ex.assign rfl) ?_
    refine WL.next ?_
    refine WC.seq ?_
    refine WC.seq ?_
    refine WC.region ?_
    refine WL.u rfl rfl (Wt.plain rfl) (Ex.assign rfl) ?_
    refine WL.next ?_
    refine WC.block ?_
    replace hH := hH.f2
    replace hH := hH.f2
    refine WC.loop (ι := Nat × (Array Value) × (List UInt8)) (fun (a, cur40, row) => [(0, vint n), (1, vint m), (8, vsl b14 g.length cap14), (9, vsl b24 hs.length cap24), (10, vint i), (11, vsl b40 row.length cap40), (12, vint a)]) (fun (a, cur40, row) wn => Hp [] w wn [(b14, .cells cur14 9 (0, 0)), (b24, .cells cur24 22 (0, 0)), (b40, .cells cur40 5 (fz, fz + 1))] ∧ Own rByte cur40 cap40 row ∧ row = rowS (fits n m ans) m a i ∧ Gs lo [b14, b24, b40] wn hs (fits n m ans) ∧ 1 ≤ a ∧ a ≤ (fits n m ans).length ∧ cur40.size = fz) (fun (a, cur40, row) => (fits n m ans).length - a) ((1, cur40, rowS (fits n m ans) m 1 i)) (by exact ⟨rfl, rfl, rfl, rfl, rfl, rfl, rfl, trivial⟩) ?_ ?_
    · exact ⟨hH, ho40, rfl, hgs, Nat.le_refl _, hL0, hfq⟩
    rintro ⟨a, cur40, row⟩ wn ⟨hH, ho40, hrow, hgs, ha1, hal, hfz⟩
    have hrl : row.length = m := by rw [hrow, rowS_len]
    intro mu0 hmu; try dsimp only at hmu
    show WC _ _ _ _ [(0, vint n), (1, vint m), (8, vsl b14 g.length cap14), (9, vsl b24 hs.length cap24), (10, vint i), (11, vsl b40 row.length cap40), (12, vint a)] _
    refine WC.seq ?_
    refine WC.seq ?_
    refine WC.region ?_
    refine WL.u rfl rfl (Wt.plain rfl) (Ex.move rfl) ?_
    refine WL.u rfl rfl (Wt.plain rfl) (Ex.move rfl) ?_
    refine WL.u rfl rfl (Wt.plain rfl) (Ex.lenSl Try.underlying56 rfl) ?_
    refine WL.u rfl rfl (Wt.plain rfl) (Ex.lss rfl rfl) ?_
    refine WL.next ?_
    refine WC.cond rfl (fun hc4 => ?_) (fun hc4 => ?_)
    · have hc4' := hc4; try simp only [decide_eq_true_eq, decide_eq_false_iff_not, Bool.not_eq_true', Bool.not_eq_false', Bool.not_eq_true, Bool.not_eq_false] at hc4'
      have hla : a < (fits n m ans).length := by omega
      refine WC.skip ?_
      refine WN.next ?_
      refine WC.seq ?_
      refine WC.block ?_
      refine WC.seq ?_
      refine WC.region ?_
      refine WL.u rfl rfl (Wt.plain rfl) (Ex.assign rfl) ?_
      refine WL.next ?_
      refine WC.block ?_
      replace hH := hH.f2
      replace hH := hH.f2
      replace hH := hH.f2
      refine WC.loop (ι := Nat × (Array Value) × (List UInt8)) (fun (j, cur40, row) => [(0, vint n), (1, vint m), (8, vsl b14 g.length cap14), (9, vsl b24 hs.length cap24), (10, vint i), (11, vsl b40 row.length cap40), (12, vint a), (13, vint j)]) (fun (j, cur40, row) wn => Hp [] w wn [(b14, .cells cur14 9 (0, 0)), (b24, .cells cur24 22 (0, 0)), (b40, .cells cur40 5 (fz, fz + 1))] ∧ Own rByte cur40 cap40 row ∧ row = rowP (fits n m ans) m a i j ∧ Gs lo [b14, b24, b40] wn hs (fits n m ans) ∧ j ≤ m ∧ cur40.size = fz) (fun (j, cur40, row) => m - j) ((0, cur40, row)) (by exact ⟨rfl, rfl, rfl, rfl, rfl, rfl, rfl, rfl, trivial⟩) ?_ ?_
      · exact ⟨hH, ho40, by rw [rowP_zero]; exact hrow, hgs, Nat.zero_le _, hfz⟩
      rintro ⟨j, cur40, row⟩ wn ⟨hH, ho40, hrow, hgs, hj, hfz⟩
      have hrl : row.length = m := by rw [hrow, rowP_len]
      have hR := hgs.r
      intro mu0 hmu; try dsimp only at hmu
      show WC _ _ _ _ [(0, vint n), (1, vint m), (8, vsl b14 g.length cap14), (9, vsl b24 hs.length cap24), (10, vint i), (11, vsl b40 row.length cap40), (12, vint a), (13, vint j)] _
      refine WC.seq ?_
      refine WC.seq ?_
      refine WC.region ?_
      refine WL.u rfl rfl (Wt.plain rfl) (Ex.move rfl) ?_
      refine WL.u rfl rfl (Wt.plain rfl) (Ex.move rfl) ?_
      refine WL.u rfl rfl (Wt.plain rfl) (Ex.lss rfl rfl) ?_
      refine WL.next ?_
      refine WC.cond rfl (fun hc5 => ?_) (fun hc5 => ?_)
      · have hc5' := hc5; try simp only [decide_eq_true_eq, decide_eq_false_iff_not, Bool.not_eq_true', Bool.not_eq_false', Bool.not_eq_true, Bool.not_eq_false] at hc5'
        have hlj : j < m := by omega
        obtain ⟨bq, offq, capq, hvq, hsq⟩ := hR.at (a := a) (by omega) (hO.g _ (by omega)).1
        have hGq := (hO.g a (by omega)).1
        have hnq := (hO.g a (by omega)).2.2.1
        have hmq := (hO.g a (by omega)).2.2.2
        dsimp only [nR, nC] at hnq hmq
        have hrq := hGq.row i (by omega)
        have hgetq := getD_get ((fits n m ans).getD a []) i [] (by omega)
        have hhq := getD_get hs a hd0 (by omega)
        have hrg := rowP_get (fits n m ans) (a := a) (i := i) hlj
        rw [← hrow] at hrg
        have hoc : okL (cellG ((fits n m ans).getD a []) i j) = true := hGq.ok i (by omega) j (by omega)
        refine WC.skip ?_
        refine WN.next ?_
        refine WC.seq ?_
        refine WC.block ?_
        refine WC.seq ?_
        refine WC.quietK rfl (by kernel_rfl) ?_
        refine WQ.u rfl rfl (Wt.plain rfl) (fun w hC => Ex.move rfl) ?_
        refine WQ.u rfl rfl (Wt.plain rfl) (fun w hC => Ex.move rfl) ?_
        refine WQ.u rfl rfl (Wt.plain rfl) (fun w hC => Ex.indexAddr Try.underlying56 ty22 rfl rfl (by omega)) ?_
        refine WQ.u rfl rfl (Wt.plain rfl) (fun w hC => (Ex.loadSl flat22 (ho24.slAt (hH.call hC) 1 rfl) rfl rfl hhq).to hvq) ?_
        refine WQ.u rfl rfl (Wt.plain rfl) (fun w hC => Ex.move rfl) ?_
        refine WQ.u rfl rfl (Wt.plain rfl) (fun w hC => Ex.indexAddr Try.underlying22 ty9 rfl rfl (by omega)) ?_
        refine WQ.u rfl rfl (Wt.plain rfl) (fun w hC => Ex.loadSl flat9 (hsq.kept hC) rfl rfl hgetq) ?_
        refine WQ.u rfl rfl (Wt.plain rfl) (fun w hC => Ex.move rfl) ?_
        refine WQ.u rfl rfl (Wt.plain rfl) (fun w hC => Ex.indexStr Try.underlying9 rfl rfl (by omega)) ?_
        refine WQ.u rfl rfl (Wt.plain rfl) (fun w hC => Ex.move rfl) ?_
        refine WQ.u rfl rfl (Wt.plain rfl) (fun w hC => Ex.move rfl) ?_
        refine WQ.u rfl rfl (Wt.plain rfl) (fun w hC => Ex.indexAddr Try.underlying38 ty5 rfl rfl (by omega)) ?_
        replace hH := hH.f2
        refine WQ.u rfl rfl (Wt.plain rfl) (fun w hC => Ex.loadHp flat5 rfl (hH.call hC) (ho40.get rfl (getD_get row j 0 (by omega)))) ?_
        refine WQ.u rfl rfl (Wt.plain rfl) (fun w hC => Ex.neq rfl rfl) ?_
        refine WQ.nil ?_
        intro wn hC; replace hH := hH.call hC; replace hgs := hgs.kept hC; clear hC
        refine WN.next ?_
        refine WC.cond rfl (fun hc6 => ?_) (fun hc6 => ?_)
        · rw [u8_ne] at hc6
          have hne := sure_ne (L := (fits n m ans)) (a := a) (i := i) (k := j) (by rw [← hrg]; exact of_decide_eq_true hc6)
          refine WC.region ?_
          refine WL.u rfl rfl (Wt.plain rfl) (Ex.move rfl) ?_
          refine WL.u rfl rfl (Wt.plain rfl) (Ex.move rfl) ?_
          refine WL.u rfl rfl (Wt.plain rfl) (Ex.indexAddr Try.underlying38 ty5 rfl rfl (by omega)) ?_
          refine WL.store1 ty5 rfl rfl rfl (Wt.plain rfl) hH (ho40.idx rfl (by omega)) (by have h1 := ho40.size; have h2 := ho40.le; rw [show rByte.sz = 1 from rfl] at h1; simp; omega) (fun wn hk hH => ?_)
          replace ho40 := ho40.set rfl j 63
          replace hgs := hgs.keep hk (by intro x hx; exact .inl (by rw [List.mem_singleton.1 hx]; simp))
          refine WL.last ?_
          refine WN.normalBlock ?_
          refine WN.next ?_
          refine WC.region ?_
          refine WL.u rfl rfl (Wt.plain rfl) (Ex.move rfl) ?_
          refine WL.u rfl rfl (Wt.plain rfl) (Ex.add rfl rfl (by omega)) ?_
          refine WL.u rfl rfl (Wt.plain rfl) (Ex.assign rfl) ?_
          refine WL.last ?_
          replace hH := hH.f2
          replace hH := hH.f2
          refine WN.round (j + 1, cur40.setIfInBounds (0 + (j : Int).toNat * 1) (rByte.val 63), row.set j 63) (by exact ⟨rfl, rfl, rfl, rfl, rfl, congrArg (fun x : Nat => some (vsl b40 x cap40)) List.length_set.symm, rfl, rfl, trivial⟩) ?_ ?_
          · exact ⟨hH, ho40, by rw [hrow]; exact rowP_set hlj hne, hgs, by omega, by simp [hfz]⟩
          · (try dsimp only); omega
        rw [u8_ne] at hc6
        have heq := sure_eq hoc (by rw [← hrg]; exact Classical.not_not.1 (of_decide_eq_false hc6))
        refine WC.skip ?_
        refine WN.normalBlock ?_
        refine WN.next ?_
        refine WC.region ?_
        refine WL.u rfl rfl (Wt.plain rfl) (Ex.move rfl) ?_
        refine WL.u rfl rfl (Wt.plain rfl) (Ex.add rfl rfl (by omega)) ?_
        refine WL.u rfl rfl (Wt.plain rfl) (Ex.assign rfl) ?_
        refine WL.last ?_
        replace hH := hH.f2
        replace hH := hH.f2
        refine WN.round (j + 1, cur40, row) (by exact ⟨rfl, rfl, rfl, rfl, rfl, rfl, rfl, rfl, trivial⟩) ?_ ?_
        · exact ⟨hH, ho40, by rw [rowP_same heq]; exact hrow, hgs, by omega, hfz⟩
        · (try dsimp only); omega
      have hc5' := hc5; try simp only [decide_eq_true_eq, decide_eq_false_iff_not, Bool.not_eq_true', Bool.not_eq_false', Bool.not_eq_true, Bool.not_eq_false] at hc5'
      have hjm : j = m := by omega
      rw [hjm, rowP_end] at hrow
      refine WC.exit ?_
      refine WN.exitThen ?_
      refine WN.exitThen ?_
      refine WN.exitHere ?_
      refine WN.normalBlock ?_
      refine WN.next ?_
      refine WC.region ?_
      refine WL.u rfl rfl (Wt.plain rfl) (Ex.move rfl) ?_
      refine WL.u rfl rfl (Wt.plain rfl) (Ex.add rfl rfl (by omega)) ?_
      refine WL.u rfl rfl (Wt.plain rfl) (Ex.assign rfl) ?_
      refine WL.last ?_
      replace hH := hH.f2
      replace hH := hH.f2
      replace hH := hH.f2
      refine WN.round (a + 1, cur40, row) (by exact ⟨rfl, rfl, rfl, rfl, rfl, rfl, rfl, trivial⟩) ?_ ?_
      · exact ⟨hH, ho40, hrow, hgs, by omega, by omega, hfz⟩
      · (try dsimp only); omega
    have hc4' := hc4; try simp only [decide_eq_true_eq, decide_eq_false_iff_not, Bool.not_eq_true', Bool.not_eq_false', Bool.not_eq_true, Bool.not_eq_false] at hc4'
    obtain rfl : a = (fits n m ans).length := by omega
    refine WC.exit ?_
    refine WN.exitThen ?_
    refine WN.exitThen ?_
    refine WN.exitHere ?_
    refine WN.next ?_
    refine WC.region ?_
    refine WL.u rfl rfl (Wt.plain rfl) (Ex.move rfl) ?_
    refine WL.u rfl rfl (Wt.plain rfl) (Ex.move rfl) ?_
    refine WL.u rfl rfl (Wt.plain rfl) (Ex.bytesStr Try.underlying38 Try.underlying5 Try.underlying9 rfl (ho40.slAt hH 2 rfl)) ?_
    refine WL.append1 (r := rStr) (u := row) Try.underlying22 ty9 rfl rfl (fun _ => rfl) (fun _ => rfl) rfl rfl (Wt.plain rfl) (fun _ => (Wt.plain rfl)) hH ho14 rfl (by omega) (by omega) (fun b14 cap14 cur14 wn x14 hb14 hk14 hH ho14 => ?_)
    replace hgs := (hgs.moveL hb14 hk14).reX (X' := [b14, b24]) (by intro x hx; simp only [List.mem_cons, List.not_mem_nil, or_false] at hx; rcases hx with h | h; exact .inl (by rw [h]; simp); exact .inl (by rw [h]; simp))
    refine WL.u rfl rfl (Wt.plain rfl) (Ex.assign rfl) ?_
    refine WL.last ?_
    refine WN.normalBlock ?_
    refine WN.next ?_
    refine WC.region ?_
    refine WL.u rfl rfl (Wt.plain rfl) (Ex.move rfl) ?_
    refine WL.u rfl rfl (Wt.plain rfl) (Ex.add rfl rfl (by omega)) ?_
    refine WL.u rfl rfl (Wt.plain rfl) (Ex.assign rfl) ?_
    refine WL.last ?_
    replace hH := hH.f1
    replace hH := hH.f1
    replace hH := hH.first2
    refine WN.round (i + 1, b14, cap14, cur14, g ++ [row]) (by exact ⟨rfl, rfl, rfl, rfl, rfl, trivial⟩) ?_ ?_
    · exact ⟨hH, ho14, by rw [range_snoc, ← hg, ← hrow], hgs, by omega⟩
    · (try dsimp only); omega
  have hc3' := hc3; try simp only [decide_eq_true_eq, decide_eq_false_iff_not, Bool.not_eq_true', Bool.not_eq_false', Bool.not_eq_true, Bool.not_eq_false] at hc3'
  refine WC.exit ?_
  refine WN.exitThen ?_
  refine WN.exitThen ?_
  refine WN.exitHere ?_
  refine WN.next ?_
  refine WC.seq ?_
  refine WC.region ?_
  refine WL.u rfl rfl (Wt.plain rfl) (Ex.move rfl) ?_
  refine WL.u rfl rfl (Wt.plain rfl) (Ex.assign rfl) ?_
  refine WL.u rfl rfl (Wt.plain rfl) (Ex.assign rfl) ?_
  refine WL.next ?_
  refine WC.ret ?_
  refine WN.body2 rfl rfl rfl ?_
  obtain rfl : i = n := by omega
  have e := askSure_some hA hL0
  have e2 : sureG i m (fits i m ans) = g := by rw [hg]; rfl
  exact ⟨_, by rw [e], hH.keep, by rw [e]; show New rStr _ _ _ _ (sureG i m (fits i m ans)); rw [e2]; exact New.of (hH.front 0 rfl) ho14 (hH.base 0 rfl)⟩

set_option maxHeartbeats 1000000 in
theorem lawExactAskSure (n m : Int) (ans : List Int) (a : Option Addr) (cap : Nat) (w : World) (ha : Sl rInt w a ans) (hb : ∀ x ∈ ans, -9223372036854775808 ≤ x ∧ x ≤ 9223372036854775807) : Fn Try.prog 11 [vint n, vint m, .slice a ans.length cap] w (fun v w1 => v = .bool true ∧ Keep [] w w1) := by
  refine Fn.enter (n := 103) Try.func11 rfl rfl rfl ?_
  show WC _ _ _ _ [(0, vint n), (1, vint m), (2, .slice a ans.length cap)] _
  have hH := Hp.start [] w
  have hlen : ((askSure n m ans).1).length ≤ 1000 := askSure_len n m ans
  refine WC.seq ?_
  refine WC.region ?_
  refine WL.u rfl rfl (Wt.plain rfl) (Ex.assign rfl) ?_
  refine WL.next ?_
  refine WC.seq ?_
  refine WC.seq ?_
  refine WC.region ?_
  refine WL.u rfl rfl (Wt.plain rfl) (Ex.move rfl) ?_
  refine WL.u rfl rfl (Wt.plain rfl) (Ex.lenSl Try.underlying24 rfl) ?_
  refine WL.u rfl rfl (Wt.plain rfl) (Ex.gtr rfl rfl) ?_
  refine WL.next ?_
  refine WC.cond rfl (fun hc1 => ?_) (fun hc1 => ?_)
  · have hc1' := hc1; try simp only [decide_eq_true_eq, decide_eq_false_iff_not, Bool.not_eq_true', Bool.not_eq_false', Bool.not_eq_true, Bool.not_eq_false] at hc1'
    refine WC.seq ?_
    refine WC.region ?_
    refine WL.u rfl rfl (Wt.plain rfl) (Ex.assign rfl) ?_
    refine WL.next ?_
    refine WC.ret ?_
    refine WN.retThen ?_
    refine WN.body1 rfl rfl ?_
    exact ⟨rfl, hH.keep⟩
  have hc1' := hc1; try simp only [decide_eq_true_eq, decide_eq_false_iff_not, Bool.not_eq_true', Bool.not_eq_false', Bool.not_eq_true, Bool.not_eq_false] at hc1'
  refine WC.skip ?_
  refine WN.next ?_
  refine WC.seq ?_
  refine WC.region ?_
  refine WL.u rfl rfl (Wt.plain rfl) (Ex.move rfl) ?_
  refine WL.u rfl rfl (Wt.plain rfl) (Ex.move rfl) ?_
  refine WL.u rfl rfl (Wt.plain rfl) (Ex.move rfl) ?_
  refine WL.call callable27 rfl (Wt.plain rfl) rfl rfl (toIntS ans _ _ _ (ha.kept hH.keep) (by omega)) ?_
  rintro _ wn ⟨hC, hN⟩; obtain ⟨b101, cap101, cur101, rfl, hge, hbb, ho101⟩ := hN.own; replace hH := hH.push hC hge hbb; clear hC hN
  refine WL.call callable40 rfl (Wt.plain rfl) rfl rfl (sAskSure n m ans _ _ _ (ho101.slAt hH 0 rfl)) ?_
  rintro _ wn ⟨x, rfl, hC, hN⟩; obtain ⟨b25, cap25, cur25, rfl, hge25, hbb25, ho25⟩ := hN.own; replace hH := hH.push hC hge25 hbb25; clear hC hN
  refine WL.u rfl rfl (Wt.plain rfl) (Ex.move rfl) ?_
  refine WL.u rfl rfl (Wt.plain rfl) (Ex.extract rfl rfl) ?_
  refine WL.u rfl rfl (Wt.plain rfl) (Ex.extract rfl rfl) ?_
  refine WL.u rfl rfl (Wt.plain rfl) (Ex.assign rfl) ?_
  refine WL.u rfl rfl (Wt.plain rfl) (Ex.assign rfl) ?_
  refine WL.next ?_
  refine WC.seq ?_
  refine WC.region ?_
  refine WL.u rfl rfl (Wt.plain rfl) (Ex.move rfl) ?_
  refine WL.call callable27 rfl (Wt.plain rfl) rfl rfl (toIntS ans _ _ _ (ha.kept hH.keep) (by omega)) ?_
  rintro _ wn ⟨hC, hN⟩; obtain ⟨b102, cap102, cur102, rfl, hge, hbb, ho102⟩ := hN.own; replace hH := hH.push hC hge hbb; clear hC hN
  refine WL.u rfl rfl (Wt.plain rfl) (Ex.assign rfl) ?_
  refine WL.next ?_
  refine WC.seq ?_
  refine WC.region ?_
  refine WL.u rfl rfl (Wt.plain rfl) (Ex.move rfl) ?_
  refine WL.u rfl rfl (Wt.plain rfl) (Ex.move rfl) ?_
  refine WL.u rfl rfl (Wt.plain rfl) (Ex.move rfl) ?_
  refine WL.call callable41 rfl (Wt.plain rfl) rfl rfl (iAskSure n m ans _ _ _ (ho102.slAt hH 0 rfl)) ?_
  rintro _ wn ⟨x, rfl, hC, hN⟩; obtain ⟨b34, cap34, cur34, rfl, hge34, hbb34, ho34⟩ := hN.own; replace hH := hH.push hC hge34 hbb34; clear hC hN
  refine WL.u rfl rfl (Wt.plain rfl) (Ex.move rfl) ?_
  refine WL.u rfl rfl (Wt.plain rfl) (Ex.extract rfl rfl) ?_
  refine WL.u rfl rfl (Wt.plain rfl) (Ex.extract rfl rfl) ?_
  refine WL.u rfl rfl (Wt.plain rfl) (Ex.assign rfl) ?_
  refine WL.u rfl rfl (Wt.plain rfl) (Ex.assign rfl) ?_
  refine WL.next ?_
  refine WC.seq ?_
  refine WC.seq ?_
  refine WC.region ?_
  refine WL.u rfl rfl (Wt.plain rfl) (Ex.move rfl) ?_
  refine WL.u rfl rfl (Wt.plain rfl) (Ex.move rfl) ?_
  refine WL.call callable22 rfl (Wt.plain rfl) rfl rfl (eqStringS ((askSure n m ans).1) ((askSure n m ans).1) _ _ _ _ _ (ho34.slAt hH 0 rfl) (ho25.slAt hH 2 rfl)) ?_
  rintro _ wn ⟨rfl, hC⟩; replace hH := hH.dr hC; clear hC
  refine WL.u rfl rfl (Wt.plain rfl) (Ex.not rfl) ?_
  refine WL.u rfl rfl (Wt.plain rfl) (Ex.move rfl) ?_
  refine WL.split (t := 41) rfl (fun hg6_4 => ?_) (fun hg6_4 => ?_)
  · exfalso; simp at hg6_4
  have hg6_4' := hg6_4; try simp only [decide_eq_true_eq, decide_eq_false_iff_not, Bool.not_eq_true', Bool.not_eq_false', Bool.not_eq_true, Bool.not_eq_false] at hg6_4'
  refine WL.u rfl rfl (Wt.guard' rfl rfl rfl hg6_4 rfl) (Ex.move rfl) ?_
  refine WL.u rfl rfl (Wt.guard' rfl rfl rfl hg6_4 rfl) (Ex.move rfl) ?_
  refine WL.u rfl rfl (Wt.guard' rfl rfl rfl hg6_4 rfl) (Ex.neqB Try.underlying4 rfl rfl) ?_
  refine WL.u rfl rfl (Wt.plain rfl) (Ex.pickF rfl hg6_4 rfl) ?_
  refine WL.next ?_
  refine WC.condF rfl (by simp) ?_
  refine WC.skip ?_
  refine WN.next ?_
  refine WC.seq ?_
  refine WC.seq ?_
  refine WC.region ?_
  refine WL.u rfl rfl (Wt.plain rfl) (Ex.move rfl) ?_
  refine WL.u rfl rfl (Wt.plain rfl) (Ex.move rfl) ?_
  refine WL.call callable27 rfl (Wt.plain rfl) rfl rfl (toIntS ans _ _ _ (ha.kept hH.keep) (by omega)) ?_
  rintro _ wn ⟨hC, hN⟩; obtain ⟨b103, cap103, cur103, rfl, hge, hbb, ho103⟩ := hN.own; replace hH := hH.push hC hge hbb; clear hC hN
  refine WL.call callable21 rfl (Wt.plain rfl) rfl rfl (eqIntS ans ans _ _ _ _ _ (ho102.slAt hH 2 rfl) (ho103.slAt hH 0 rfl)) ?_
  rintro _ wn ⟨rfl, hC⟩; replace hH := hH.dr hC; clear hC
  refine WL.u rfl rfl (Wt.plain rfl) (Ex.not rfl) ?_
  refine WL.next ?_
  refine WC.condF rfl (by simp) ?_
  refine WC.skip ?_
  refine WN.next ?_
  refine WC.seq ?_
  refine WC.region ?_
  refine WL.u rfl rfl (Wt.plain rfl) (Ex.assign rfl) ?_
  refine WL.next ?_
  refine WC.seq ?_
  refine WC.region ?_
  refine WL.u rfl rfl (Wt.plain rfl) (Ex.move rfl) ?_
  refine WL.u rfl rfl (Wt.plain rfl) (Ex.move rfl) ?_
  replace hH := hH.f2
  refine WL.call callable24 rfl (Wt.plain rfl) rfl rfl (markIntL b102 cap102 cur102 (ans) 1 _ (hH.at 0 rfl) ho102 (by omega) (by omega)) ?_
  rintro _ wn ⟨cur102m, rfl, hK, hb, ho102⟩; replace hH := hH.turn hK hb; clear hK hb
  refine WL.u rfl rfl (Wt.plain rfl) (Ex.assign rfl) ?_
  refine WL.next ?_
  refine WC.seq ?_
  refine WC.seq ?_
  refine WC.region ?_
  refine WL.u rfl rfl (Wt.plain rfl) (Ex.move rfl) ?_
  refine WL.u rfl rfl (Wt.plain rfl) (Ex.lss rfl rfl) ?_
  refine WL.u rfl rfl (Wt.plain rfl) (Ex.move rfl) ?_
  refine WL.u rfl rfl (Wt.guard' rfl rfl rfl (decide_eq_false (by omega)) rfl) (Ex.move rfl) ?_
  refine WL.u rfl rfl (Wt.guard' rfl rfl rfl (decide_eq_false (by omega)) rfl) (Ex.move rfl) ?_
  refine WL.call callable22 rfl (Wt.guard' rfl rfl rfl (decide_eq_false (by omega)) rfl) rfl rfl (eqStringS ((askSure n m ans).1) ((askSure n m ans).1) _ _ _ _ _ (ho34.slAt hH 2 rfl) (ho25.slAt hH 3 rfl)) ?_
  rintro _ wn ⟨rfl, hC⟩; replace hH := hH.dr hC; clear hC
  refine WL.u rfl rfl (Wt.guard' rfl rfl rfl (decide_eq_false (by omega)) rfl) (Ex.not rfl) ?_
  refine WL.u rfl rfl (Wt.plain rfl) (Ex.pickF rfl (decide_eq_false (by omega)) rfl) ?_
  refine WL.u rfl rfl (Wt.plain rfl) (Ex.move rfl) ?_
  refine WL.u rfl rfl (Wt.guard' rfl rfl rfl (show (!_) = false by simp) rfl) (Ex.move rfl) ?_
  refine WL.u rfl rfl (Wt.guard' rfl rfl rfl (show (!_) = false by simp) rfl) (Ex.move rfl) ?_
  refine WL.u rfl rfl (Wt.guard' rfl rfl rfl (show (!_) = false by simp) rfl) (Ex.neqB Try.underlying4 rfl rfl) ?_
  refine WL.u rfl rfl (Wt.plain rfl) (Ex.pickF rfl (show (!_) = false by simp) rfl) ?_
  refine WL.next ?_
  refine WC.condF rfl (by simp) ?_
  refine WC.skip ?_
  refine WN.next ?_
  refine WC.seq ?_
  refine WC.region ?_
  refine WL.u rfl rfl (Wt.plain rfl) (Ex.assign rfl) ?_
  refine WL.next ?_
  refine WC.seq ?_
  refine WC.region ?_
  refine WL.u rfl rfl (Wt.plain rfl) (Ex.move rfl) ?_
  refine WL.u rfl rfl (Wt.plain rfl) (Ex.move rfl) ?_
  replace hH := hH.f2
  refine WL.call callable23 rfl (Wt.plain rfl) rfl rfl (markStringS b34 cap34 cur34 ((askSure n m ans).1) 1 _ (hH.at 0 rfl) ho34 (by omega) (by omega)) ?_
  rintro _ wn ⟨cur34m, rfl, hK, hb, ho34⟩; replace hH := hH.turn hK hb; clear hK hb
  refine WL.u rfl rfl (Wt.plain rfl) (Ex.assign rfl) ?_
  refine WL.next ?_
  refine WC.seq ?_
  refine WC.region ?_
  refine WL.u rfl rfl (Wt.plain rfl) (Ex.assign rfl) ?_
  refine WL.next ?_
  refine WC.seq ?_
  refine WC.region ?_
  refine WL.u rfl rfl (Wt.plain rfl) (Ex.move rfl) ?_
  refine WL.u rfl rfl (Wt.plain rfl) (Ex.move rfl) ?_
  refine WL.call callable36 rfl (Wt.plain rfl) rfl rfl (heldStringS (some ⟨b34, 0, none⟩) cap34 1 ((askSure n m ans).1).length _ (ho34.slAt hH 0 rfl) (by omega) (by omega)) ?_
  rintro _ wn ⟨rfl, hC⟩; replace hH := hH.call hC; clear hC
  refine WL.u rfl rfl (Wt.plain rfl) (Ex.assign rfl) ?_
  refine WL.next ?_
  refine WC.seq ?_
  refine WC.seq ?_
  refine WC.region ?_
  refine WL.u rfl rfl (Wt.plain rfl) (Ex.move rfl) ?_
  refine WL.u rfl rfl (Wt.plain rfl) (Ex.lss rfl rfl) ?_
  refine WL.next ?_
  refine WC.condF rfl (decide_eq_false (by omega)) ?_
  refine WC.skip ?_
  refine WN.next ?_
  refine WC.seq ?_
  refine WC.seq ?_
  refine WC.region ?_
  refine WL.u rfl rfl (Wt.plain rfl) (Ex.move rfl) ?_
  refine WL.u rfl rfl (Wt.plain rfl) (Ex.move rfl) ?_
  refine WL.u rfl rfl (Wt.plain rfl) (Ex.neq rfl rfl) ?_
  refine WL.next ?_
  refine WC.condF rfl (by simp) ?_
  refine WC.skip ?_
  refine WN.next ?_
  refine WC.seq ?_
  refine WC.region ?_
  refine WL.u rfl rfl (Wt.plain rfl) (Ex.move rfl) ?_
  refine WL.u rfl rfl (Wt.plain rfl) (Ex.move rfl) ?_
  refine WL.u rfl rfl (Wt.plain rfl) (Ex.move rfl) ?_
  refine WL.call callable27 rfl (Wt.plain rfl) rfl rfl (toIntS ans _ _ _ (ha.kept hH.keep) (by omega)) ?_
  rintro _ wn ⟨hC, hN⟩; obtain ⟨b104, cap104, cur104, rfl, hge, hbb, ho104⟩ := hN.own; replace hH := hH.push hC hge hbb; clear hC hN
  refine WL.call callable41 rfl (Wt.plain rfl) rfl rfl (iAskSure n m ans _ _ _ (ho104.slAt hH 0 rfl)) ?_
  rintro _ wn ⟨x, rfl, hC, hN⟩; obtain ⟨b83, cap83, cur83, rfl, hge83, hbb83, ho83⟩ := hN.own; replace hH := hH.push hC hge83 hbb83; clear hC hN
  refine WL.u rfl rfl (Wt.plain rfl) (Ex.move rfl) ?_
  refine WL.u rfl rfl (Wt.plain rfl) (Ex.extract rfl rfl) ?_
  refine WL.u rfl rfl (Wt.plain rfl) (Ex.extract rfl rfl) ?_
  refine WL.u rfl rfl (Wt.plain rfl) (Ex.assign rfl) ?_
  refine WL.u rfl rfl (Wt.plain rfl) (Ex.assign rfl) ?_
  refine WL.next ?_
  refine WC.seq ?_
  refine WC.seq ?_
  refine WC.region ?_
  refine WL.u rfl rfl (Wt.plain rfl) (Ex.move rfl) ?_
  refine WL.u rfl rfl (Wt.plain rfl) (Ex.move rfl) ?_
  refine WL.call callable22 rfl (Wt.plain rfl) rfl rfl (eqStringS ((askSure n m ans).1) ((askSure n m ans).1) _ _ _ _ _ (ho83.slAt hH 0 rfl) (ho25.slAt hH 5 rfl)) ?_
  rintro _ wn ⟨rfl, hC⟩; replace hH := hH.dr hC; clear hC
  refine WL.u rfl rfl (Wt.plain rfl) (Ex.not rfl) ?_
  refine WL.u rfl rfl (Wt.plain rfl) (Ex.move rfl) ?_
  refine WL.split (t := 90) rfl (fun hg23_4 => ?_) (fun hg23_4 => ?_)
  · exfalso; simp at hg23_4
  have hg23_4' := hg23_4; try simp only [decide_eq_true_eq, decide_eq_false_iff_not, Bool.not_eq_true', Bool.not_eq_false', Bool.not_eq_true, Bool.not_eq_false] at hg23_4'
  refine WL.u rfl rfl (Wt.guard' rfl rfl rfl hg23_4 rfl) (Ex.move rfl) ?_
  refine WL.u rfl rfl (Wt.guard' rfl rfl rfl hg23_4 rfl) (Ex.move rfl) ?_
  refine WL.u rfl rfl (Wt.guard' rfl rfl rfl hg23_4 rfl) (Ex.neqB Try.underlying4 rfl rfl) ?_
  refine WL.u rfl rfl (Wt.plain rfl) (Ex.pickF rfl hg23_4 rfl) ?_
  refine WL.next ?_
  refine WC.condF rfl (by simp) ?_
  refine WC.skip ?_
  refine WN.next ?_
  refine WC.seq ?_
  refine WC.region ?_
  refine WL.u rfl rfl (Wt.plain rfl) (Ex.assign rfl) ?_
  refine WL.next ?_
  refine WC.seq ?_
  refine WC.region ?_
  refine WL.u rfl rfl (Wt.plain rfl) (Ex.move rfl) ?_
  refine WL.u rfl rfl (Wt.plain rfl) (Ex.move rfl) ?_
  refine WL.call callable36 rfl (Wt.plain rfl) rfl rfl (heldStringS (some ⟨b34, 0, none⟩) cap34 1 ((askSure n m ans).1).length _ (ho34.slAt hH 2 rfl) (by omega) (by omega)) ?_
  rintro _ wn ⟨rfl, hC⟩; replace hH := hH.call hC; clear hC
  refine WL.u rfl rfl (Wt.plain rfl) (Ex.assign rfl) ?_
  refine WL.next ?_
  refine WC.seq ?_
  refine WC.seq ?_
  refine WC.region ?_
  refine WL.u rfl rfl (Wt.plain rfl) (Ex.move rfl) ?_
  refine WL.u rfl rfl (Wt.plain rfl) (Ex.lss rfl rfl) ?_
  refine WL.next ?_
  refine WC.condF rfl (decide_eq_false (by omega)) ?_
  refine WC.skip ?_
  refine WN.next ?_
  refine WC.seq ?_
  refine WC.seq ?_
  refine WC.region ?_
  refine WL.u rfl rfl (Wt.plain rfl) (Ex.move rfl) ?_
  refine WL.u rfl rfl (Wt.plain rfl) (Ex.move rfl) ?_
  refine WL.u rfl rfl (Wt.plain rfl) (Ex.neq rfl rfl) ?_
  refine WL.next ?_
  refine WC.condF rfl (by simp) ?_
  refine WC.skip ?_
  refine WN.next ?_
  refine WC.seq ?_
  refine WC.region ?_
  refine WL.u rfl rfl (Wt.plain rfl) (Ex.assign rfl) ?_
  refine WL.next ?_
  refine WC.ret ?_
  refine WN.body1 rfl rfl ?_
  exact ⟨rfl, hH.keep⟩

end Go.Proofs.Ytmlefpddjfonlaa
