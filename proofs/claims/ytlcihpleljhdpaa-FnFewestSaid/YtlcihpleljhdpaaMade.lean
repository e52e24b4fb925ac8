/- The grids that have a pairing, by the program and by the reference, and their fewest mirrors. -/
import Derived.Test.YtlcihpleljhdpaaFew
namespace Go.Proofs.Ytlcihpleljhdpaa
set_option maxRecDepth 100000
set_option linter.unusedSimpArgs false
set_option linter.unusedVariables false
open Go Go.RowKit
theorem gshortM {g : Grid} (h : GridOk g) : Short g := fun i => by
  by_cases hi : i < g.length
  · have h1 := h.row i hi
    have h2 := h.m5
    omega
  · have e : g.getD i [] = [] := by simp [List.getD_eq_getElem?_getD, List.getElem?_eq_none (Nat.le_of_not_lt hi)]
    rw [e]; simp
theorem cntN_le {g : Grid} (hG : GridOk g) {i : Nat} (hi : i ≤ g.length) : cntN g i ≤ i * nC g := by
  have := grid_both hG i hi; omega
theorem dotN_le {g : Grid} (hG : GridOk g) {i : Nat} (hi : i ≤ g.length) : dotN g i ≤ i * nC g := by
  have := grid_both hG i hi; omega
theorem dotR_le (r : Str) (k : Nat) : dotR r k ≤ k := by have := row_both r k; omega
theorem cnt_25 {g : Grid} (hG : GridOk g) {i : Nat} (hi : i ≤ g.length) : cntN g i ≤ 25 ∧ dotN g i ≤ 25 := by
  have h1 := cntN_le hG hi
  have h2 := dotN_le hG hi
  have h3 : i * nC g ≤ 5 * 5 := Nat.mul_le_mul (by have := hG.n5; omega) hG.m5
  omega
theorem row_5 {g : Grid} (hG : GridOk g) {i : Nat} (hi : i < g.length) : (g.getD i []).length ≤ 5 := by
  rw [hG.row i hi]; exact hG.m5
theorem madeB_few {n m : Int} {l : List Int} (h : makeB n m l = true) : fewB n m 6 = true ∧ pairB n m l = true := by
  rw [makeB_eq, Bool.and_eq_true] at h; exact h
theorem made_grid {n m : Nat} {l : List Int} (hA : MakeOk n m l) {i : Nat} (hi : i < (made n m l).length) : GridOk ((made n m l).getD i []) ∧ cntG ((made n m l).getD i []) ≤ n * m := by
  have hm := List.mem_of_getElem? (getD_get (made n m l) i [] hi)
  obtain ⟨k, _, e, _⟩ := madeL_mem.1 hm
  rw [e]
  have hG := hA.grid k
  have h1 := cnt_dot hG
  have h2 : nR (numG n m k) = n := gridOf_nR _ _ _
  have h3 : nC (numG n m k) = m := gridOf_nC _ _ hA.n1
  rw [h2, h3] at h1
  exact ⟨hG, by omega⟩
theorem num_cnt {n m : Nat} {l : List Int} (hA : MakeOk n m l) (k : Nat) : cntG (numG n m k) + dotN (numG n m k) (numG n m k).length = n * m := by
  have h1 := cnt_dot (hA.grid k)
  have h2 : nR (numG n m k) = n := gridOf_nR _ _ _
  have h3 : nC (numG n m k) = m := gridOf_nC _ _ hA.n1
  rwa [h2, h3] at h1
theorem bestM_bd (n m : Nat) (L : List Grid) : -1 ≤ bestM n m L ∧ bestM n m L ≤ ((n * m : Nat) : Int) := by
  unfold bestM
  split
  · omega
  · have := least_le n m L; omega
theorem bestM_no {n m : Nat} {l : List Int} {k : Nat} (h : ¬ pairsI (numG n m k) = l) : bestM n m (madeL n m l (k + 1)) = bestM n m (madeL n m l k) := by
  rw [madeL, if_neg h]
theorem bestM_hit {n m : Nat} {l : List Int} (hA : MakeOk n m l) {k : Nat} (h : pairsI (numG n m k) = l) (hb : bestM n m (madeL n m l k) < 0 ∨ (cntG (numG n m k) : Int) < bestM n m (madeL n m l k)) : bestM n m (madeL n m l (k + 1)) = (cntG (numG n m k) : Int) := by
  rw [madeL, if_pos h, bestM_snoc (by have := num_cnt hA k; omega), if_pos hb]
theorem bestM_same {n m : Nat} {l : List Int} (hA : MakeOk n m l) {k : Nat} (hb : ¬ (bestM n m (madeL n m l k) < 0 ∨ (cntG (numG n m k) : Int) < bestM n m (madeL n m l k))) : bestM n m (madeL n m l (k + 1)) = bestM n m (madeL n m l k) := by
  by_cases h : pairsI (numG n m k) = l
  · rw [madeL, if_pos h, bestM_snoc (by have := num_cnt hA k; omega), if_neg hb]
  · exact bestM_no h
theorem bestM_neg {n m : Nat} {L : List Grid} (h : bestM n m L < 0) : L = [] := by
  unfold bestM at h
  split at h
  · assumption
  · omega
theorem bestM_pos {n m : Nat} {L : List Grid} (h : ¬ bestM n m L < 0) : L ≠ [] ∧ bestM n m L = (leastM n m L : Nat) := by
  unfold bestM at h ⊢
  split at h
  · omega
  · next e => exact ⟨e, if_neg e⟩

theorem iGridCount (g : Grid) (a : Option Addr) (cap : Nat) (w : World) (hg : Sl rStr w a g) (hG : GridOk g) : Fn Try.prog 11 [.slice a g.length cap] w (fun v w1 => v = .tuple #[vint (cntG g), .bool true] ∧ w1 = w) := by
  refine Fn.enter (n := 31) Try.func11 rfl rfl rfl ?_
  show WC _ _ _ _ [(0, .slice a g.length cap)] _
  have hn5 := hG.n5
  refine WC.seq ?_
  refine WC.region ?_
  refine WL.u rfl rfl (Wt.plain rfl) (Ex.assign rfl) ?_
  refine WL.u rfl rfl (Wt.plain rfl) (Ex.assign rfl) ?_
  refine WL.next ?_
  refine WC.seq ?_
  refine WC.seq ?_
  refine WC.region ?_
  refine WL.u rfl rfl (Wt.plain rfl) (Ex.move rfl) ?_
  refine WL.call callable33 rfl (Wt.plain rfl) rfl rfl (iGridIn _ _ _ _ hg (gshortM hG)) ?_
  rintro _ _ ⟨rfl, hw⟩; obtain rfl := hw.symm
  refine WL.u rfl rfl (Wt.plain rfl) (Ex.not rfl) ?_
  refine WL.next ?_
  refine WC.condF rfl (by rw [(gridOk_iff g).2 hG] <;> rfl) ?_
  refine WC.skip ?_
  refine WN.next ?_
  refine WC.seq ?_
  refine WC.region ?_
  refine WL.u rfl rfl (Wt.plain rfl) (Ex.assign rfl) ?_
  refine WL.next ?_
  refine WC.seq ?_
  refine WC.seq ?_
  refine WC.region ?_
  refine WL.u rfl rfl (Wt.plain rfl) (Ex.move rfl) ?_
  refine WL.u rfl rfl (Wt.plain rfl) (Ex.lenSl Try.underlying35 rfl) ?_
  refine WL.u rfl rfl (Wt.plain rfl) (Ex.move rfl) ?_
  refine WL.next ?_
  refine WC.block ?_
  refine WC.loop (ι := Nat) (fun i => [(0, .slice a g.length cap), (4, vint (cntN g i)), (11, .slice a g.length cap), (12, vint g.length), (13, vint i)]) (fun i wn => w = wn ∧ i ≤ g.length) (fun i => g.length - i) (0) (by exact ⟨rfl, rfl, rfl, rfl, rfl, trivial⟩) ?_ ?_
  · exact ⟨rfl, Nat.zero_le _⟩
  rintro i wn ⟨rfl, hi⟩
  intro mu0 hmu; try dsimp only at hmu
  show WC _ _ _ _ [(0, .slice a g.length cap), (4, vint (cntN g i)), (11, .slice a g.length cap), (12, vint g.length), (13, vint i)] _
  refine WC.seq ?_
  refine WC.region ?_
  refine WL.u rfl rfl (Wt.plain rfl) (Ex.lss rfl rfl) ?_
  refine WL.next ?_
  refine WC.seq ?_
  refine WC.cond rfl (fun hc2 => ?_) (fun hc2 => ?_)
  · have hc2' := hc2; try simp only [decide_eq_true_eq, decide_eq_false_iff_not, Bool.not_eq_true', Bool.not_eq_false', Bool.not_eq_true, Bool.not_eq_false] at hc2'
    have hlt : i < g.length := by omega
    have h25 := (cnt_25 hG hi).1
    have h5 := row_5 hG hlt
    obtain ⟨b, off, rfl⟩ := hg.addr (by omega)
    refine WC.skip ?_
    refine WN.next ?_
    refine WC.seq ?_
    refine WC.block ?_
    refine WC.seq ?_
    refine WC.region ?_
    refine WL.u rfl rfl (Wt.plain rfl) (Ex.indexAddr Try.underlying35 ty9 rfl rfl (by omega)) ?_
    refine WL.u rfl rfl (Wt.plain rfl) (Ex.loadSl flat9 hg rfl rfl (getD_get g i [] hlt)) ?_
    refine WL.u rfl rfl (Wt.plain rfl) (Ex.assign rfl) ?_
    refine WL.next ?_
    refine WC.seq ?_
    refine WC.region ?_
    refine WL.u rfl rfl (Wt.plain rfl) (Ex.move rfl) ?_
    refine WL.u rfl rfl (Wt.plain rfl) (Ex.lenStr Try.underlying9 rfl) ?_
    refine WL.u rfl rfl (Wt.plain rfl) (Ex.move rfl) ?_
    refine WL.next ?_
    refine WC.block ?_
    refine WC.loop (ι := Nat) (fun k => [(0, .slice (some ⟨b, off, none⟩) g.length cap), (4, vint (cntN g i + cntR (g.getD i []) k : Nat)), (6, vstr (g.getD i [])), (11, .slice (some ⟨b, off, none⟩) g.length cap), (12, vint g.length), (13, vint i), (17, vstr (g.getD i [])), (18, vint (g.getD i []).length), (19, vint k)]) (fun k wn => w = wn ∧ k ≤ (g.getD i []).length) (fun k => (g.getD i []).length - k) (0) (by exact ⟨rfl, rfl, rfl, rfl, rfl, rfl, rfl, rfl, rfl, trivial⟩) ?_ ?_
    · exact ⟨rfl, Nat.zero_le _⟩
    rintro k wn ⟨rfl, hk⟩
    have hcr := cntR_le (g.getD i []) k
    intro mu0 hmu; try dsimp only at hmu
    show WC _ _ _ _ [(0, .slice (some ⟨b, off, none⟩) g.length cap), (4, vint (cntN g i + cntR (g.getD i []) k : Nat)), (6, vstr (g.getD i [])), (11, .slice (some ⟨b, off, none⟩) g.length cap), (12, vint g.length), (13, vint i), (17, vstr (g.getD i [])), (18, vint (g.getD i []).length), (19, vint k)] _
    refine WC.seq ?_
    refine WC.region ?_
    refine WL.u rfl rfl (Wt.plain rfl) (Ex.lss rfl rfl) ?_
    refine WL.next ?_
    refine WC.seq ?_
    refine WC.cond rfl (fun hc3 => ?_) (fun hc3 => ?_)
    · have hc3' := hc3; try simp only [decide_eq_true_eq, decide_eq_false_iff_not, Bool.not_eq_true', Bool.not_eq_false', Bool.not_eq_true, Bool.not_eq_false] at hc3'
      have hlk : k < (g.getD i []).length := by omega
      refine WC.skip ?_
      refine WN.next ?_
      refine WC.seq ?_
      refine WC.block ?_
      refine WC.seq ?_
      refine WC.region ?_
      refine WL.u rfl rfl (Wt.plain rfl) (Ex.move rfl) ?_
      refine WL.u rfl rfl (Wt.plain rfl) (Ex.assign rfl) ?_
      refine WL.next ?_
      refine WC.seq ?_
      refine WC.region ?_
      refine WL.u rfl rfl (Wt.plain rfl) (Ex.move rfl) ?_
      refine WL.u rfl rfl (Wt.plain rfl) (Ex.move rfl) ?_
      refine WL.u rfl rfl (Wt.plain rfl) (Ex.indexStr Try.underlying9 rfl rfl (by (try simp only [List.length_cons, List.length_nil]); omega)) ?_
      refine WL.u rfl rfl (Wt.plain rfl) (Ex.neq rfl rfl) ?_
      refine WL.next ?_
      refine WC.cond rfl (fun hc4 => ?_) (fun hc4 => ?_)
      · have hc4' := hc4; try simp only [decide_eq_true_eq, decide_eq_false_iff_not, Bool.not_eq_true', Bool.not_eq_false', Bool.not_eq_true, Bool.not_eq_false] at hc4'
        refine WC.region ?_
        refine WL.u rfl rfl (Wt.plain rfl) (Ex.move rfl) ?_
        refine WL.u rfl rfl (Wt.plain rfl) (Ex.add rfl rfl (by omega)) ?_
        refine WL.u rfl rfl (Wt.plain rfl) (Ex.assign rfl) ?_
        refine WL.last ?_
        refine WN.normalBlock ?_
        refine WN.next ?_
        refine WC.region ?_
        refine WL.u rfl rfl (Wt.plain rfl) (Ex.add rfl rfl (by omega)) ?_
        refine WL.u rfl rfl (Wt.plain rfl) (Ex.move rfl) ?_
        refine WL.last ?_
        have hne : (g.getD i []).getD k 0 ≠ 46 := fun e => of_decide_eq_true hc4 ((u8eq _ 46 (by decide)).2 e)
        refine WN.round (k + 1) (by exact ⟨rfl, congrArg (fun x : Int => some (vint x)) (show _ = ((cntN g i + cntR (g.getD i []) (k + 1) : Nat) : Int) by rw [cntR, if_neg hne]; omega), rfl, rfl, rfl, rfl, rfl, rfl, rfl, trivial⟩) ?_ ?_
        · exact ⟨rfl, by omega⟩
        · (try dsimp only); omega
      have hc4' := hc4; try simp only [decide_eq_true_eq, decide_eq_false_iff_not, Bool.not_eq_true', Bool.not_eq_false', Bool.not_eq_true, Bool.not_eq_false] at hc4'
      refine WC.skip ?_
      refine WN.normalBlock ?_
      refine WN.next ?_
      refine WC.region ?_
      refine WL.u rfl rfl (Wt.plain rfl) (Ex.add rfl rfl (by omega)) ?_
      refine WL.u rfl rfl (Wt.plain rfl) (Ex.move rfl) ?_
      refine WL.last ?_
      have he : (g.getD i []).getD k 0 = 46 := (u8eq _ 46 (by decide)).1 (Classical.not_not.1 (of_decide_eq_false hc4))
      refine WN.round (k + 1) (by exact ⟨rfl, congrArg (fun x : Int => some (vint x)) (show _ = ((cntN g i + cntR (g.getD i []) (k + 1) : Nat) : Int) by rw [cntR, if_pos he]; omega), rfl, rfl, rfl, rfl, rfl, rfl, rfl, trivial⟩) ?_ ?_
      · exact ⟨rfl, by omega⟩
      · (try dsimp only); omega
    have hc3' := hc3; try simp only [decide_eq_true_eq, decide_eq_false_iff_not, Bool.not_eq_true', Bool.not_eq_false', Bool.not_eq_true, Bool.not_eq_false] at hc3'
    have hke : k = (g.getD i []).length := by omega
    refine WC.exit ?_
    refine WN.exitThen ?_
    refine WN.exitThen ?_
    refine WN.exitHere ?_
    refine WN.normalBlock ?_
    refine WN.next ?_
    refine WC.region ?_
    refine WL.u rfl rfl (Wt.plain rfl) (Ex.add rfl rfl (by omega)) ?_
    refine WL.u rfl rfl (Wt.plain rfl) (Ex.move rfl) ?_
    refine WL.last ?_
    refine WN.round (i + 1) (by exact ⟨rfl, congrArg (fun x : Int => some (vint x)) (show _ = ((cntN g (i + 1) : Nat) : Int) by rw [cntN, hke]), rfl, rfl, rfl, trivial⟩) ?_ ?_
    · exact ⟨rfl, by omega⟩
    · (try dsimp only); omega
  have hc2' := hc2; try simp only [decide_eq_true_eq, decide_eq_false_iff_not, Bool.not_eq_true', Bool.not_eq_false', Bool.not_eq_true, Bool.not_eq_false] at hc2'
  obtain rfl : i = g.length := by omega
  refine WC.exit ?_
  refine WN.exitThen ?_
  refine WN.exitThen ?_
  refine WN.exitHere ?_
  refine WN.next ?_
  refine WC.seq ?_
  refine WC.region ?_
  refine WL.u rfl rfl (Wt.plain rfl) (Ex.move rfl) ?_
  refine WL.u rfl rfl (Wt.plain rfl) (Ex.assign rfl) ?_
  refine WL.u rfl rfl (Wt.plain rfl) (Ex.assign rfl) ?_
  refine WL.next ?_
  refine WC.ret ?_
  refine WN.body2 rfl rfl rfl ?_
  exact ⟨rfl, rfl⟩

theorem sl1Count (g : Grid) (a : Option Addr) (cap : Nat) (w : World) (hg : Sl rStr w a g) (hG : GridOk g) : Fn Try.prog 15 [.slice a g.length cap, .int .u8 46] w (fun v w1 => v = vint (dotN g g.length) ∧ w1 = w) := by
  refine Fn.enter (n := 34) Try.func15 rfl rfl rfl ?_
  show WC _ _ _ _ [(0, .slice a g.length cap), (1, .int .u8 46)] _
  have hn5 := hG.n5
  refine WC.seq ?_
  refine WC.region ?_
  refine WL.u rfl rfl (Wt.plain rfl) (Ex.assign rfl) ?_
  refine WL.next ?_
  refine WC.seq ?_
  refine WC.region ?_
  refine WL.u rfl rfl (Wt.plain rfl) (Ex.assign rfl) ?_
  refine WL.next ?_
  refine WC.seq ?_
  refine WC.seq ?_
  refine WC.region ?_
  refine WL.u rfl rfl (Wt.plain rfl) (Ex.assign rfl) ?_
  refine WL.next ?_
  refine WC.block ?_
  refine WC.loop (ι := Nat) (fun i => [(0, .slice a g.length cap), (1, .int .u8 46), (5, vint (dotN g i)), (6, vint i)]) (fun i wn => w = wn ∧ i ≤ g.length) (fun i => g.length - i) (0) (by exact ⟨rfl, rfl, rfl, rfl, trivial⟩) ?_ ?_
  · exact ⟨rfl, Nat.zero_le _⟩
  rintro i wn ⟨rfl, hi⟩
  intro mu0 hmu; try dsimp only at hmu
  show WC _ _ _ _ [(0, .slice a g.length cap), (1, .int .u8 46), (5, vint (dotN g i)), (6, vint i)] _
  refine WC.seq ?_
  refine WC.seq ?_
  refine WC.region ?_
  refine WL.u rfl rfl (Wt.plain rfl) (Ex.move rfl) ?_
  refine WL.u rfl rfl (Wt.plain rfl) (Ex.move rfl) ?_
  refine WL.u rfl rfl (Wt.plain rfl) (Ex.lenSl Try.underlying35 rfl) ?_
  refine WL.u rfl rfl (Wt.plain rfl) (Ex.lss rfl rfl) ?_
  refine WL.next ?_
  refine WC.cond rfl (fun hc1 => ?_) (fun hc1 => ?_)
  · have hc1' := hc1; try simp only [decide_eq_true_eq, decide_eq_false_iff_not, Bool.not_eq_true', Bool.not_eq_false', Bool.not_eq_true, Bool.not_eq_false] at hc1'
    have hlt : i < g.length := by omega
    have h25 := (cnt_25 hG hi).2
    have h5 := row_5 hG hlt
    obtain ⟨b, off, rfl⟩ := hg.addr (by omega)
    refine WC.skip ?_
    refine WN.next ?_
    refine WC.seq ?_
    refine WC.block ?_
    refine WC.seq ?_
    refine WC.region ?_
    refine WL.u rfl rfl (Wt.plain rfl) (Ex.assign rfl) ?_
    refine WL.next ?_
    refine WC.block ?_
    refine WC.loop (ι := Nat) (fun k => [(0, .slice (some ⟨b, off, none⟩) g.length cap), (1, .int .u8 46), (5, vint (dotN g i + dotR (g.getD i []) k : Nat)), (6, vint i), (7, vint k)]) (fun k wn => w = wn ∧ k ≤ (g.getD i []).length) (fun k => (g.getD i []).length - k) (0) (by exact ⟨rfl, rfl, rfl, rfl, rfl, trivial⟩) ?_ ?_
    · exact ⟨rfl, Nat.zero_le _⟩
    rintro k wn ⟨rfl, hk⟩
    have hcr := dotR_le (g.getD i []) k
    intro mu0 hmu; try dsimp only at hmu
    show WC _ _ _ _ [(0, .slice (some ⟨b, off, none⟩) g.length cap), (1, .int .u8 46), (5, vint (dotN g i + dotR (g.getD i []) k : Nat)), (6, vint i), (7, vint k)] _
    refine WC.seq ?_
    refine WC.seq ?_
    refine WC.region ?_
    refine WL.u rfl rfl (Wt.plain rfl) (Ex.move rfl) ?_
    refine WL.u rfl rfl (Wt.plain rfl) (Ex.move rfl) ?_
    refine WL.u rfl rfl (Wt.plain rfl) (Ex.move rfl) ?_
    refine WL.u rfl rfl (Wt.plain rfl) (Ex.indexAddr Try.underlying35 ty9 rfl rfl (by omega)) ?_
    refine WL.u rfl rfl (Wt.plain rfl) (Ex.loadSl flat9 hg rfl rfl (getD_get g i [] hlt)) ?_
    refine WL.u rfl rfl (Wt.plain rfl) (Ex.lenStr Try.underlying9 rfl) ?_
    refine WL.u rfl rfl (Wt.plain rfl) (Ex.lss rfl rfl) ?_
    refine WL.next ?_
    refine WC.cond rfl (fun hc2 => ?_) (fun hc2 => ?_)
    · have hc2' := hc2; try simp only [decide_eq_true_eq, decide_eq_false_iff_not, Bool.not_eq_true', Bool.not_eq_false', Bool.not_eq_true, Bool.not_eq_false] at hc2'
      have hlk : k < (g.getD i []).length := by omega
      refine WC.skip ?_
      refine WN.next ?_
      refine WC.seq ?_
      refine WC.block ?_
      refine WC.seq ?_
      refine WC.region ?_
      refine WL.u rfl rfl (Wt.plain rfl) (Ex.move rfl) ?_
      refine WL.u rfl rfl (Wt.plain rfl) (Ex.move rfl) ?_
      refine WL.u rfl rfl (Wt.plain rfl) (Ex.indexAddr Try.underlying35 ty9 rfl rfl (by omega)) ?_
      refine WL.u rfl rfl (Wt.plain rfl) (Ex.loadSl flat9 hg rfl rfl (getD_get g i [] hlt)) ?_
      refine WL.u rfl rfl (Wt.plain rfl) (Ex.move rfl) ?_
      refine WL.u rfl rfl (Wt.plain rfl) (Ex.indexStr Try.underlying9 rfl rfl (by (try simp only [List.length_cons, List.length_nil]); omega)) ?_
      refine WL.u rfl rfl (Wt.plain rfl) (Ex.move rfl) ?_
      refine WL.u rfl rfl (Wt.plain rfl) (Ex.eql rfl rfl) ?_
      refine WL.next ?_
      refine WC.cond rfl (fun hc3 => ?_) (fun hc3 => ?_)
      · have hc3' := hc3; try simp only [decide_eq_true_eq, decide_eq_false_iff_not, Bool.not_eq_true', Bool.not_eq_false', Bool.not_eq_true, Bool.not_eq_false] at hc3'
        refine WC.region ?_
        refine WL.u rfl rfl (Wt.plain rfl) (Ex.move rfl) ?_
        refine WL.u rfl rfl (Wt.plain rfl) (Ex.add rfl rfl (by omega)) ?_
        refine WL.u rfl rfl (Wt.plain rfl) (Ex.assign rfl) ?_
        refine WL.last ?_
        refine WN.normalBlock ?_
        refine WN.next ?_
        refine WC.region ?_
        refine WL.u rfl rfl (Wt.plain rfl) (Ex.move rfl) ?_
        refine WL.u rfl rfl (Wt.plain rfl) (Ex.add rfl rfl (by omega)) ?_
        refine WL.u rfl rfl (Wt.plain rfl) (Ex.assign rfl) ?_
        refine WL.last ?_
        have he : (g.getD i []).getD k 0 = 46 := (u8eq _ 46 (by decide)).1 (of_decide_eq_true hc3)
        refine WN.round (k + 1) (by exact ⟨rfl, rfl, congrArg (fun x : Int => some (vint x)) (show _ = ((dotN g i + dotR (g.getD i []) (k + 1) : Nat) : Int) by rw [dotR, if_pos he]; omega), rfl, rfl, trivial⟩) ?_ ?_
        · exact ⟨rfl, by omega⟩
        · (try dsimp only); omega
      have hc3' := hc3; try simp only [decide_eq_true_eq, decide_eq_false_iff_not, Bool.not_eq_true', Bool.not_eq_false', Bool.not_eq_true, Bool.not_eq_false] at hc3'
      refine WC.skip ?_
      refine WN.normalBlock ?_
      refine WN.next ?_
      refine WC.region ?_
      refine WL.u rfl rfl (Wt.plain rfl) (Ex.move rfl) ?_
      refine WL.u rfl rfl (Wt.plain rfl) (Ex.add rfl rfl (by omega)) ?_
      refine WL.u rfl rfl (Wt.plain rfl) (Ex.assign rfl) ?_
      refine WL.last ?_
      have hne : (g.getD i []).getD k 0 ≠ 46 := fun e => of_decide_eq_false hc3 ((u8eq _ 46 (by decide)).2 e)
      refine WN.round (k + 1) (by exact ⟨rfl, rfl, congrArg (fun x : Int => some (vint x)) (show _ = ((dotN g i + dotR (g.getD i []) (k + 1) : Nat) : Int) by rw [dotR, if_neg hne]; omega), rfl, rfl, trivial⟩) ?_ ?_
      · exact ⟨rfl, by omega⟩
      · (try dsimp only); omega
    have hc2' := hc2; try simp only [decide_eq_true_eq, decide_eq_false_iff_not, Bool.not_eq_true', Bool.not_eq_false', Bool.not_eq_true, Bool.not_eq_false] at hc2'
    have hke : k = (g.getD i []).length := by omega
    refine WC.exit ?_
    refine WN.exitThen ?_
    refine WN.exitThen ?_
    refine WN.exitHere ?_
    refine WN.normalBlock ?_
    refine WN.next ?_
    refine WC.region ?_
    refine WL.u rfl rfl (Wt.plain rfl) (Ex.move rfl) ?_
    refine WL.u rfl rfl (Wt.plain rfl) (Ex.add rfl rfl (by omega)) ?_
    refine WL.u rfl rfl (Wt.plain rfl) (Ex.assign rfl) ?_
    refine WL.last ?_
    refine WN.round (i + 1) (by exact ⟨rfl, rfl, congrArg (fun x : Int => some (vint x)) (show _ = ((dotN g (i + 1) : Nat) : Int) by rw [dotN, hke]), rfl, trivial⟩) ?_ ?_
    · exact ⟨rfl, by omega⟩
    · (try dsimp only); omega
  have hc1' := hc1; try simp only [decide_eq_true_eq, decide_eq_false_iff_not, Bool.not_eq_true', Bool.not_eq_false', Bool.not_eq_true, Bool.not_eq_false] at hc1'
  obtain rfl : i = g.length := by omega
  refine WC.exit ?_
  refine WN.exitThen ?_
  refine WN.exitThen ?_
  refine WN.exitHere ?_
  refine WN.next ?_
  refine WC.seq ?_
  refine WC.region ?_
  refine WL.u rfl rfl (Wt.plain rfl) (Ex.move rfl) ?_
  refine WL.u rfl rfl (Wt.plain rfl) (Ex.assign rfl) ?_
  refine WL.next ?_
  refine WC.ret ?_
  refine WN.body1 rfl rfl ?_
  exact ⟨rfl, rfl⟩

theorem imade1 (g : Grid) (a a3 : Option Addr) (cap cap3 b5 bvc bvr capvr : Nat) (curvr : Array Value) (hs : List Hd) (ans : List Int) (w : World) (hg : Sl rStr w a g) (hga : Off [bvr, bvc] a g) (hG : GridOk g) (hal : ans.length = ports g) (ha : Sl rInt w a3 ans) (haa : Off [bvr, bvc] a3 ans) (hne : bvr ≠ bvc) (hbr : w.heap[bvr]? = some (.cells curvr 35 (0, 0))) (hbc : w.heap[bvc]? = some (.cells #[vsl bvr hs.length capvr] 32 (0, 0))) (hovr : Own rHd curvr capvr hs) (hlen : hs.length ≤ 1000) (hn5 : b5 ∉ [bvr, bvc]) (h5 : w.cell? ⟨b5, 0, none⟩ = some (.slice a3 ans.length cap3)) : Fn Try.prog 30 [.slice a g.length cap, vptr b5 0, vptr bvc 0] w (fun v w1 => ∃ b81 cap81 cur81 hs1, Keep [bvr, bvc] w w1 ∧ (b81 = bvr ∨ w.heap.size ≤ b81) ∧ b81 ≠ bvc ∧ w1.heap[bvc]? = some (.cells #[vsl b81 hs1.length cap81] 32 (0, 0)) ∧ w1.heap[b81]? = some (.cells cur81 35 (0, 0)) ∧ Own rHd cur81 cap81 hs1 ∧ hs1 = (if pairsI g = ans then hs ++ [((a, g.length, cap) : Hd)] else hs)) := by
  refine Fn.enter (n := 12) Try.func30 rfl rfl rfl ?_
  show WC _ _ _ _ [(0, .slice a g.length cap), (1, vptr b5 0), (2, vptr bvc 0)] _
  have hH := Hp.pair hbr hbc hne
  have hpl := ports_le hG
  refine WC.seq ?_
  have hQ := hH
  refine WC.plan (Keep [] _) [(0, true), (2, true), (1, false), (3, false)] rfl (by kernel_rfl) (Keep.drew _ _) (fun hR => ?_)
  replace hH := hH.drew
  refine WPl.q rfl rfl rfl (Wt.plain rfl) (fun w hC => Ex.move rfl) ?_
  refine WPl.q rfl rfl rfl (Wt.plain rfl) (fun w hC => Ex.load flat23 rfl (hC.cell (hQ.keep.cell h5 hn5) (by simp))) ?_
  refine WPl.f rfl ?_
  refine WL.call callable32 rfl (Wt.plain rfl) rfl rfl (ipairsOf g _ _ _ (hg.keepO hH.keep hga) hG) ?_
  rintro _ wn ⟨hC, hN⟩; replace hR := hR.trans hC.nil; obtain ⟨bvp, capvp, curvp, rfl, hgep, hbbp, hovp⟩ := hN.own; replace hH := hH.push hC hgep hbbp; clear hC hN
  refine WPl.b hR ?_
  refine WPl.f rfl ?_
  refine WL.call callable31 rfl (Wt.plain rfl) rfl rfl (iequal (pairsI g) ans _ _ _ _ _ (hovp.slAt hH 0 rfl) (ha.keepO hH.keep haa) (by rw [pairsI_len, hal])) ?_
  rintro _ wn ⟨rfl, hC⟩; replace hR := hR.trans (hC.keep _); replace hH := hH.dr hC; clear hC
  refine WPl.b hR ?_
  refine WPl.nil (fun hC => ?_); clear hC
  refine WN.next ?_
  refine WC.cond rfl (fun hc1 => ?_) (fun hc1 => ?_)
  · have heq : pairsI g = ans := of_decide_eq_true hc1
    have hsz := hH.keep.size
    refine WC.region ?_
    replace hH := hH.f2
    refine WL.u rfl rfl (Wt.plain rfl) (Ex.loadHp flat32 rfl hH rfl) ?_
    refine WL.u rfl rfl (Wt.plain rfl) (Ex.move rfl) ?_
    replace hH := hH.f2
    refine WL.append1 (r := rHd) (u := ((a, g.length, cap) : Hd)) Try.underlying32 ty35 rfl rfl (fun _ => rfl) (fun _ => rfl) rfl rfl (Wt.plain rfl) (fun _ => (Wt.plain rfl)) hH hovr rfl (by omega) (by omega) (fun bvr capvr curvr wn xvr hbvr hkvr hH hovr => ?_)
    replace hH := hH.f1
    refine WL.store1 ty32 rfl rfl rfl (Wt.plain rfl) hH (by first | decide | simp) rfl (fun wn hk hH => ?_)
    refine WL.last ?_
    refine WN.body0n rfl ?_
    exact ⟨bvr, capvr, curvr, _, hH.keep, hbvr.imp id (fun h => Nat.le_trans hsz h), (fun e => hH.nin 1 0 rfl rfl rfl (by rw [e]; simp)), (hH.at 0 rfl), (hH.at 1 rfl), hovr, by rw [if_pos heq]⟩
  have hc1' := hc1; try simp only [decide_eq_true_eq, decide_eq_false_iff_not, Bool.not_eq_true', Bool.not_eq_false', Bool.not_eq_true, Bool.not_eq_false] at hc1'
  refine WC.skip ?_
  refine WN.body0n rfl ?_
  have hne2 : ¬ pairsI g = ans := of_decide_eq_false hc1
  exact ⟨bvr, capvr, curvr, hs, hH.keep, .inl rfl, hne, (hH.at 2 rfl), (hH.at 1 rfl), hovr, by rw [if_neg hne2]⟩


def MJ (n m lo b5 b7 : Nat) (a3 : Option Addr) (cap3 : Nat) (ans : List Int) (i : Nat) (U : List Nat) (w : World) : Prop := ∃ b8 cap8 cur8 hs, U = [b8, b7] ∧ b8 ≠ b7 ∧ w.heap[b7]? = some (.cells #[vsl b8 hs.length cap8] 32 (0, 0)) ∧ w.heap[b8]? = some (.cells cur8 35 (0, 0)) ∧ Own rHd cur8 cap8 hs ∧ Gs lo [b8, b7] w hs (madeL n m ans i) ∧ b5 ∉ [b8, b7] ∧ w.cell? ⟨b5, 0, none⟩ = some (.slice a3 ans.length cap3) ∧ Sl rInt w a3 ans ∧ Off [b8, b7] a3 ans
theorem eachMade {n m lo b5 b7 b8 : Nat} {a3 : Option Addr} {cap3 : Nat} {ans : List Int} {w : World} (hA : MakeOk n m ans) (hlo : lo ≤ w.heap.size) (h8 : b8 < w.heap.size) (h7 : b7 < w.heap.size) (h0 : MJ n m lo b5 b7 a3 cap3 ans 0 [b8, b7] w) : Each Try.prog 30 [vptr b5 0, vptr b7 0] (numG n m) (3 ^ (n * m)) [b8, b7] (MJ n m lo b5 b7 a3 cap3 ans) w where
  fn := callable30
  lt := fun k hk => by
    rcases List.mem_cons.1 hk with rfl | hk
    · exact h8
    · rw [List.mem_singleton.1 hk]; exact h7
  keep := fun i U w2 w3 ⟨b, c, cur, hs, h1, h2, h3, h4, h5, h6, h7, h8, h9, h10⟩ hk => ⟨b, c, cur, hs, h1, h2, hk.heap h3 (by simp), hk.heap h4 (by simp), h5, h6.kept hk, h7, hk.cell h8 (by simp), h9.kept hk, h10⟩
  start := h0
  call := fun w2 i b cap cur2 U hK hi ⟨b8, cap8, cur8, hs, hU, hne, hb7, hb8, ho, hgs, hn5, h5, ha, haa⟩ hl hbU hbw hbg hog => by
    have hg := hog.sl0 hbg
    subst hU
    have hfl := madeL_le n m ans i
    have hp81 := hA.pow
    have hblt := (Array.getElem?_eq_some_iff.1 hbg).1
    refine (imade1 (numG n m i) _ a3 cap cap3 b5 b7 b8 cap8 cur8 hs ans w2 hg (.inr (fun p hp => by cases hp; exact hbU)) (hA.grid i) (by rw [hA.ports i]; exact hA.len) ha haa hne hb8 hb7 ho (by rw [hgs.len]; omega) hn5 h5).mono fun v w3 ⟨b81, cap81, cur81, hs1, k1, k2, k3, k4, k5, k6, k7⟩ => ?_
    have hlt81 := (Array.getElem?_eq_some_iff.1 k5).1
    have hlt5 := World.block_lt_of_cell? w2 _ h5
    dsimp only at hlt5
    have hg1 := hgs.move2 k2 k1
    have hb81 : b ∉ [b81, b7] := fun hm => by
      rcases List.mem_cons.1 hm with e | e
      · rcases k2 with e2 | e2
        · exact hbU (by rw [e, e2]; simp)
        · omega
      · exact hbU (by rw [List.mem_singleton.1 e]; simp)
    have hlt7 := (Array.getElem?_eq_some_iff.1 k4).1
    refine ⟨[b81, b7], ⟨b81, cap81, cur81, hs1, rfl, k3, k4, k5, k6, ?_, ?_, k1.cell h5 hn5, ha.keepO k1 haa, haa.swap ha k2⟩, k1, ?_⟩
    · rw [k7, madeL]
      by_cases hf : pairsI (numG n m i) = ans
      · rw [if_pos hf, if_pos hf]
        exact hg1.snoc ⟨b, cap, cur2, rfl, hb81, by omega, k1.heap hbg hbU, hog⟩
      · rw [if_neg hf, if_neg hf]; exact hg1
    · intro hm
      rcases List.mem_cons.1 hm with e | e
      · rcases k2 with e2 | e2
        · exact hn5 (by rw [e, e2]; simp)
        · omega
      · exact hn5 (by rw [List.mem_singleton.1 e]; simp)
    · intro k hk
      rcases List.mem_cons.1 hk with rfl | hk
      · rcases k2 with e2 | e2
        · exact .inl (by rw [e2]; simp)
        · exact .inr ⟨e2, hlt81⟩
      · exact .inl (by rw [List.mem_singleton.1 hk]; simp)

theorem imadeN (n m : Int) (l : List Int) (a : Option Addr) (cap : Nat) (w : World) (hl : Sl rInt w a l) (hno : makeB n m l = false) : Fn Try.prog 10 [vint n, vint m, .slice a l.length cap] w (fun v w1 => v = .tuple #[.slice none 0 0, .bool false] ∧ Keep [] w w1) := by
  refine Fn.enter (n := 26) Try.func10 rfl rfl rfl ?_
  show WC _ _ _ _ [(0, vint n), (1, vint m), (2, .slice a l.length cap)] _
  have hH := Hp.start [] w
  have hlm := hl.1
  rw [makeB_eq] at hno
  refine WC.seq ?_
  refine WC.region ?_
  refine WL.box rfl rfl rfl (Wt.plain rfl) hH (fun b5 wn hb5 hk5 hH => ?_)
  refine WL.u rfl rfl (Wt.plain rfl) (Ex.assign rfl) ?_
  refine WL.u rfl rfl (Wt.plain rfl) (Ex.assign rfl) ?_
  refine WL.next ?_
  refine WC.seq ?_
  refine WC.seq ?_
  refine WC.region ?_
  refine WL.u rfl rfl (Wt.plain rfl) (Ex.move rfl) ?_
  refine WL.u rfl rfl (Wt.plain rfl) (Ex.move rfl) ?_
  refine WL.call callable27 rfl (Wt.plain rfl) rfl rfl (ifewOk n m 6 _) ?_
  rintro _ _ ⟨rfl, hw⟩; obtain rfl := hw.symm
  refine WL.u rfl rfl (Wt.plain rfl) (Ex.not rfl) ?_
  refine WL.u rfl rfl (Wt.plain rfl) (Ex.move rfl) ?_
  refine WL.split (t := 13) rfl (fun hg1_4 => ?_) (fun hg1_4 => ?_)
  · have hfe : fewB n m 6 = false := by simpa using hg1_4
    refine WL.pass rfl rfl (Wt.guard' rfl rfl rfl hg1_4 rfl) ?_
    refine WL.pass rfl rfl (Wt.guard' rfl rfl rfl hg1_4 rfl) ?_
    refine WL.pass rfl rfl (Wt.guard' rfl rfl rfl hg1_4 rfl) ?_
    refine WL.pass rfl rfl (Wt.guard' rfl rfl rfl hg1_4 rfl) ?_
    refine WL.pass rfl rfl (Wt.guard' rfl rfl rfl hg1_4 rfl) ?_
    refine WL.u rfl rfl (Wt.plain rfl) (Ex.pickT rfl hg1_4 rfl) ?_
    refine WL.next ?_
    refine WC.condT rfl rfl ?_
    refine WC.seq ?_
    refine WC.region ?_
    refine WL.u rfl rfl (Wt.plain rfl) (Ex.assign rfl) ?_
    refine WL.u rfl rfl (Wt.plain rfl) (Ex.assign rfl) ?_
    refine WL.next ?_
    refine WC.ret ?_
    refine WN.retThen ?_
    refine WN.body2 rfl rfl rfl ?_
    exact ⟨rfl, hH.keep⟩
  have hfe : fewB n m 6 = true := by simpa using hg1_4
  rw [hfe, Bool.true_and] at hno
  refine WL.u rfl rfl (Wt.guard' rfl rfl rfl hg1_4 rfl) (Ex.move rfl) ?_
  refine WL.u rfl rfl (Wt.guard' rfl rfl rfl hg1_4 rfl) (Ex.move rfl) ?_
  refine WL.u rfl rfl (Wt.guard' rfl rfl rfl hg1_4 rfl) (Ex.loadHp flat23 rfl hH rfl) ?_
  refine WL.call callable28 rfl (Wt.guard' rfl rfl rfl hg1_4 rfl) rfl rfl (ipairingOk n m l _ _ _ (hl.kept hH.keep)) ?_
  rintro _ _ ⟨rfl, hw⟩; obtain rfl := hw.symm
  refine WL.u rfl rfl (Wt.guard' rfl rfl rfl hg1_4 rfl) (Ex.not rfl) ?_
  refine WL.u rfl rfl (Wt.plain rfl) (Ex.pickF rfl hg1_4 rfl) ?_
  refine WL.next ?_
  refine WC.condT rfl (by rw [hno] <;> rfl) ?_
  refine WC.seq ?_
  refine WC.region ?_
  refine WL.u rfl rfl (Wt.plain rfl) (Ex.assign rfl) ?_
  refine WL.u rfl rfl (Wt.plain rfl) (Ex.assign rfl) ?_
  refine WL.next ?_
  refine WC.ret ?_
  refine WN.retThen ?_
  refine WN.body2 rfl rfl rfl ?_
  exact ⟨rfl, hH.keep⟩

theorem imadeY (n m : Nat) (l : List Int) (a : Option Addr) (cap : Nat) (w : World) (hl : Sl rInt w a l) (hb : makeB n m l = true) (hA : MakeOk n m l) : Fn Try.prog 10 [vint n, vint m, .slice a l.length cap] w (fun v w1 => ∃ x, v = .tuple #[x, .bool true] ∧ Keep [] w w1 ∧ NewGs w w1 x (made n m l)) := by
  refine Fn.enter (n := 26) Try.func10 rfl rfl rfl ?_
  show WC _ _ _ _ [(0, vint n), (1, vint m), (2, .slice a l.length cap)] _
  have hH := Hp.start [] w
  have hlm := hl.1
  obtain ⟨hfe, hpb⟩ := madeB_few hb
  obtain ⟨h1, h2, h3, h4, h9, hll⟩ := id hA
  have hp81 := hA.pow
  refine WC.seq ?_
  refine WC.region ?_
  refine WL.box rfl rfl rfl (Wt.plain rfl) hH (fun b5 wn hb5 hk5 hH => ?_)
  refine WL.u rfl rfl (Wt.plain rfl) (Ex.assign rfl) ?_
  refine WL.u rfl rfl (Wt.plain rfl) (Ex.assign rfl) ?_
  refine WL.next ?_
  refine WC.seq ?_
  refine WC.seq ?_
  refine WC.region ?_
  refine WL.u rfl rfl (Wt.plain rfl) (Ex.move rfl) ?_
  refine WL.u rfl rfl (Wt.plain rfl) (Ex.move rfl) ?_
  refine WL.call callable27 rfl (Wt.plain rfl) rfl rfl (ifewOk n m 6 _) ?_
  rintro _ _ ⟨rfl, hw⟩; obtain rfl := hw.symm
  refine WL.u rfl rfl (Wt.plain rfl) (Ex.not rfl) ?_
  refine WL.u rfl rfl (Wt.plain rfl) (Ex.move rfl) ?_
  refine WL.u rfl rfl (Wt.guard' rfl rfl rfl (by rw [hfe] <;> rfl) rfl) (Ex.move rfl) ?_
  refine WL.u rfl rfl (Wt.guard' rfl rfl rfl (by rw [hfe] <;> rfl) rfl) (Ex.move rfl) ?_
  refine WL.u rfl rfl (Wt.guard' rfl rfl rfl (by rw [hfe] <;> rfl) rfl) (Ex.loadHp flat23 rfl hH rfl) ?_
  refine WL.call callable28 rfl (Wt.guard' rfl rfl rfl (by rw [hfe] <;> rfl) rfl) rfl rfl (ipairingOk n m l _ _ _ (hl.kept hH.keep)) ?_
  rintro _ _ ⟨rfl, hw⟩; obtain rfl := hw.symm
  refine WL.u rfl rfl (Wt.guard' rfl rfl rfl (by rw [hfe] <;> rfl) rfl) (Ex.not rfl) ?_
  refine WL.u rfl rfl (Wt.plain rfl) (Ex.pickF rfl (by rw [hfe] <;> rfl) rfl) ?_
  refine WL.next ?_
  refine WC.condF rfl (by rw [hpb] <;> rfl) ?_
  refine WC.skip ?_
  refine WN.next ?_
  refine WC.seq ?_
  refine WC.region ?_
  refine WL.lit0 Try.underlying32 ty35 rfl (Wt.plain rfl) hH (fun b20 wn hb20 hk20 hH => ?_)
  have ho20 := Own.nil rHd
  refine WL.alloc ty32 rfl rfl (Wt.plain rfl) hH (fun b8 wn hb8 hk8 hH => ?_)
  refine WL.store1 ty32 rfl rfl rfl (Wt.plain rfl) hH (by first | decide | simp) rfl (fun wn hk hH => ?_)
  refine WL.next ?_
  refine WC.seq ?_
  have hne87 := hH.nin 1 0 rfl rfl rfl
  have hc5 := hH.cellAt 2 rfl 0 rfl
  have hn5 := hH.nin2 2 1 0 rfl rfl rfl rfl rfl
  have hb8t := (hH.at 1 rfl)
  have hb7t := (hH.at 0 rfl)
  have hlt8 := (Array.getElem?_eq_some_iff.1 hb8t).1
  have hlt7 := (Array.getElem?_eq_some_iff.1 hb7t).1
  have hge8 := hH.base 1 rfl
  have hge7 := hH.base 0 rfl
  have hsz0 := hH.keep.size
  dsimp only at hlt8 hlt7 hge8 hge7 hb8t hb7t
  refine WC.region ?_
  refine WL.u rfl rfl (Wt.plain rfl) (Ex.move rfl) ?_
  refine WL.u rfl rfl (Wt.plain rfl) (Ex.move rfl) ?_
  refine WL.u rfl rfl (Wt.plain rfl) (Ex.makeFunc rfl) ?_
  refine WL.call callable29 rfl (Wt.plain rfl) rfl rfl (iallGrids n m 30 _ [vptr b5 0, vptr b8 0] [b20, b8] (MJ n m w.heap.size b5 b8 a cap l) _ rfl h1 h2 h3 h4 (eachMade hA hsz0 hlt8 hlt7 ⟨b20, 0, #[], [], rfl, (fun e => hne87 (by rw [e]; simp)), hb7t, hb8t, ho20, Gs.nil _ _ _, hn5, hc5, hl.kept hH.keep, hl.offNews hge8 hge7⟩)) ?_
  rintro _ wn ⟨U, ⟨b81, cap81, cur81, hs, hUe, hne, hb7, hb8, ho, hgs, _⟩, hK, hU⟩; have hk81 := hU b81 (by rw [hUe]; simp); have hfin : Keep [] w wn := hH.keep.shrink hK (by intro x hx; simp only [List.mem_cons, List.not_mem_nil, or_false] at hx; rcases hx with rfl | rfl <;> assumption); have hge81 : w.heap.size ≤ b81 := (by rcases hk81.2 with h | h; simp only [List.mem_cons, List.not_mem_nil, or_false] at h; rcases h with rfl | rfl <;> assumption; omega)
  refine WL.next ?_
  refine WC.seq ?_
  refine WC.region ?_
  refine WL.u rfl rfl (Wt.plain rfl) (Ex.load flat32 rfl ((cell_of_row _ b8 0 _ _ _ hb7).trans rfl)) ?_
  refine WL.u rfl rfl (Wt.plain rfl) (Ex.assign rfl) ?_
  refine WL.u rfl rfl (Wt.plain rfl) (Ex.assign rfl) ?_
  refine WL.next ?_
  refine WC.ret ?_
  refine WN.body2 rfl rfl rfl ?_
  exact ⟨_, rfl, hfin, hs, b81, cap81, cur81, rfl, hge81, hb8, ho, hgs.reX (fun x hx => .inl (by simp at hx; simp [hx]))⟩

theorem iMakeFewestN (n m : Int) (l : List Int) (a : Option Addr) (cap : Nat) (w : World) (hl : Sl rInt w a l) (hno : makeB n m l = false) : Fn Try.prog 5 [vint n, vint m, .slice a l.length cap] w (fun v w1 => v = .tuple #[vint (fewest n m l).1, .bool (fewest n m l).2] ∧ Keep [] w w1) := by
  refine Fn.enter (n := 44) Try.func5 rfl rfl rfl ?_
  show WC _ _ _ _ [(0, vint n), (1, vint m), (2, .slice a l.length cap)] _
  have hH := Hp.start [] w
  refine WC.seq ?_
  refine WC.region ?_
  refine WL.u rfl rfl (Wt.plain rfl) (Ex.assign rfl) ?_
  refine WL.u rfl rfl (Wt.plain rfl) (Ex.assign rfl) ?_
  refine WL.next ?_
  refine WC.seq ?_
  refine WC.region ?_
  refine WL.u rfl rfl (Wt.plain rfl) (Ex.move rfl) ?_
  refine WL.u rfl rfl (Wt.plain rfl) (Ex.move rfl) ?_
  refine WL.u rfl rfl (Wt.plain rfl) (Ex.move rfl) ?_
  refine WL.call callable10 rfl (Wt.plain rfl) rfl rfl (imadeN n m l _ _ _ (hl.kept hH.keep) hno) ?_
  rintro _ wn ⟨rfl, hC⟩; replace hH := hH.call hC; clear hC
  refine WL.u rfl rfl (Wt.plain rfl) (Ex.move rfl) ?_
  refine WL.u rfl rfl (Wt.plain rfl) (Ex.extract rfl rfl) ?_
  refine WL.u rfl rfl (Wt.plain rfl) (Ex.extract rfl rfl) ?_
  refine WL.u rfl rfl (Wt.plain rfl) (Ex.assign rfl) ?_
  refine WL.u rfl rfl (Wt.plain rfl) (Ex.assign rfl) ?_
  refine WL.next ?_
  refine WC.seq ?_
  refine WC.seq ?_
  refine WC.region ?_
  refine WL.u rfl rfl (Wt.plain rfl) (Ex.move rfl) ?_
  refine WL.u rfl rfl (Wt.plain rfl) (Ex.lenSl Try.underlying32 rfl) ?_
  refine WL.u rfl rfl (Wt.plain rfl) (Ex.eql rfl rfl) ?_
  refine WL.next ?_
  refine WC.condT rfl (decide_eq_true rfl) ?_
  refine WC.seq ?_
  refine WC.region ?_
  refine WL.u rfl rfl (Wt.plain rfl) (Ex.assign rfl) ?_
  refine WL.u rfl rfl (Wt.plain rfl) (Ex.assign rfl) ?_
  refine WL.next ?_
  refine WC.ret ?_
  refine WN.retThen ?_
  refine WN.body2 rfl rfl rfl ?_
  exact ⟨by rw [fewest_not hno] <;> rfl, hH.keep⟩

theorem iMakeFewestY (n m : Nat) (l : List Int) (a : Option Addr) (cap : Nat) (w : World) (hl : Sl rInt w a l) (hb : makeB n m l = true) (hA : MakeOk n m l) : Fn Try.prog 5 [vint n, vint m, .slice a l.length cap] w (fun v w1 => v = .tuple #[vint (fewest n m l).1, .bool (fewest n m l).2] ∧ Keep [] w w1) := by
  refine Fn.enter (n := 44) Try.func5 rfl rfl rfl ?_
  show WC _ _ _ _ [(0, vint n), (1, vint m), (2, .slice a l.length cap)] _
  have hH := Hp.start [] w
  have hmI : (n : Int) * (m : Int) = ((n * m : Nat) : Int) := (Int.natCast_mul n m).symm
  have h6 := hA.six
  have hp81 := hA.pow
  have hml : (made n m l).length ≤ 3 ^ (n * m) := madeL_le n m l (3 ^ (n * m))
  refine WC.seq ?_
  refine WC.region ?_
  refine WL.u rfl rfl (Wt.plain rfl) (Ex.assign rfl) ?_
  refine WL.u rfl rfl (Wt.plain rfl) (Ex.assign rfl) ?_
  refine WL.next ?_
  refine WC.seq ?_
  refine WC.region ?_
  refine WL.u rfl rfl (Wt.plain rfl) (Ex.move rfl) ?_
  refine WL.u rfl rfl (Wt.plain rfl) (Ex.move rfl) ?_
  refine WL.u rfl rfl (Wt.plain rfl) (Ex.move rfl) ?_
  refine WL.call callable10 rfl (Wt.plain rfl) rfl rfl (imadeY n m l _ _ _ (hl.kept hH.keep) hb hA) ?_
  rintro _ w19 ⟨x, rfl, hC, hs, b19, cap19, cur19, rfl, hge19, hbb19, ho19, hgs⟩; replace hH := hH.push hC hge19 hbb19; clear hC; have hR := hgs.r; have hRl := hgs.len; have hV : Keep [] w19 w19 := Keep.refl _ _
  refine WL.u rfl rfl (Wt.plain rfl) (Ex.move rfl) ?_
  refine WL.u rfl rfl (Wt.plain rfl) (Ex.extract rfl rfl) ?_
  refine WL.u rfl rfl (Wt.plain rfl) (Ex.extract rfl rfl) ?_
  refine WL.u rfl rfl (Wt.plain rfl) (Ex.assign rfl) ?_
  refine WL.u rfl rfl (Wt.plain rfl) (Ex.assign rfl) ?_
  refine WL.next ?_
  refine WC.seq ?_
  refine WC.seq ?_
  refine WC.region ?_
  refine WL.u rfl rfl (Wt.plain rfl) (Ex.move rfl) ?_
  refine WL.u rfl rfl (Wt.plain rfl) (Ex.lenSl Try.underlying32 rfl) ?_
  refine WL.u rfl rfl (Wt.plain rfl) (Ex.eql rfl rfl) ?_
  refine WL.next ?_
  refine WC.cond rfl (fun hc1 => ?_) (fun hc1 => ?_)
  · have hc1' := hc1; try simp only [decide_eq_true_eq, decide_eq_false_iff_not, Bool.not_eq_true', Bool.not_eq_false', Bool.not_eq_true, Bool.not_eq_false] at hc1'
    have hnil : (made n m l) = [] := List.eq_nil_of_length_eq_zero (by omega)
    refine WC.seq ?_
    refine WC.region ?_
    refine WL.u rfl rfl (Wt.plain rfl) (Ex.assign rfl) ?_
    refine WL.u rfl rfl (Wt.plain rfl) (Ex.assign rfl) ?_
    refine WL.next ?_
    refine WC.ret ?_
    refine WN.retThen ?_
    refine WN.body2 rfl rfl rfl ?_
    exact ⟨by rw [fewest_none hnil] <;> rfl, hH.keep⟩
  have hc1' := hc1; try simp only [decide_eq_true_eq, decide_eq_false_iff_not, Bool.not_eq_true', Bool.not_eq_false', Bool.not_eq_true, Bool.not_eq_false] at hc1'
  have hnn : (made n m l) ≠ [] := fun e => by
    have h0 : hs.length = 0 := by rw [hRl, e] <;> rfl
    omega
  refine WC.skip ?_
  refine WN.next ?_
  refine WC.seq ?_
  refine WC.region ?_
  refine WL.u rfl rfl (Wt.plain rfl) (Ex.move rfl) ?_
  refine WL.u rfl rfl (Wt.plain rfl) (Ex.move rfl) ?_
  refine WL.u rfl rfl (Wt.plain rfl) ((Ex.mul rfl rfl (by omega)).to (congrArg (Value.int IntKind.i64) hmI)) ?_
  refine WL.u rfl rfl (Wt.plain rfl) (Ex.assign rfl) ?_
  refine WL.next ?_
  refine WC.seq ?_
  refine WC.seq ?_
  refine WC.region ?_
  refine WL.u rfl rfl (Wt.plain rfl) (Ex.move rfl) ?_
  refine WL.u rfl rfl (Wt.plain rfl) (Ex.lenSl Try.underlying32 rfl) ?_
  refine WL.u rfl rfl (Wt.plain rfl) (Ex.move rfl) ?_
  refine WL.next ?_
  refine WC.block ?_
  refine WC.loop (ι := Nat) (fun i => [(0, vint n), (1, vint m), (10, vint (minK (n * m) (made n m l) i : Nat)), (28, vsl b19 hs.length cap19), (29, vint hs.length), (30, vint i)]) (fun i wn => Hp [] w wn [(b19, .cells cur19 35 (0, 0))] ∧ Keep [] w19 wn ∧ i ≤ hs.length) (fun i => hs.length - i) (0) (by exact ⟨rfl, rfl, rfl, rfl, rfl, rfl, trivial⟩) ?_ ?_
  · exact ⟨hH, hV, Nat.zero_le _⟩
  rintro i wn ⟨hH, hV, hi⟩
  have hmk := minK_le (n * m) (made n m l) i
  have hml2 : (made n m l).length ≤ 3 ^ (n * m) := hml
  intro mu0 hmu; try dsimp only at hmu
  show WC _ _ _ _ [(0, vint n), (1, vint m), (10, vint (minK (n * m) (made n m l) i : Nat)), (28, vsl b19 hs.length cap19), (29, vint hs.length), (30, vint i)] _
  refine WC.seq ?_
  refine WC.region ?_
  refine WL.u rfl rfl (Wt.plain rfl) (Ex.lss rfl rfl) ?_
  refine WL.next ?_
  refine WC.seq ?_
  refine WC.cond rfl (fun hc2 => ?_) (fun hc2 => ?_)
  · have hc2' := hc2; try simp only [decide_eq_true_eq, decide_eq_false_iff_not, Bool.not_eq_true', Bool.not_eq_false', Bool.not_eq_true, Bool.not_eq_false] at hc2'
    have hli : i < (made n m l).length := by omega
    have hgi := hR.get i hli
    obtain ⟨hGi, hci⟩ := made_grid hA hli
    refine WC.skip ?_
    refine WN.next ?_
    refine WC.seq ?_
    refine WC.block ?_
    refine WC.seq ?_
    refine WC.region ?_
    refine WL.u rfl rfl (Wt.plain rfl) (Ex.indexAddr Try.underlying32 ty35 rfl rfl (by omega)) ?_
    refine WL.u rfl rfl (Wt.plain rfl) ((Ex.loadHp flat35 rfl hH (ho19.get rfl (getD_get hs i hd0 (by omega)))).to hgi.1) ?_
    refine WL.u rfl rfl (Wt.plain rfl) (Ex.assign rfl) ?_
    refine WL.next ?_
    refine WC.seq ?_
    refine WC.region ?_
    refine WL.u rfl rfl (Wt.plain rfl) (Ex.move rfl) ?_
    refine WL.call callable11 rfl (Wt.plain rfl) rfl rfl (iGridCount ((made n m l).getD i []) _ _ _ (hgi.2.kept hV) hGi) ?_
    rintro _ _ ⟨rfl, hw⟩; obtain rfl := hw.symm
    refine WL.u rfl rfl (Wt.plain rfl) (Ex.move rfl) ?_
    refine WL.u rfl rfl (Wt.plain rfl) (Ex.extract rfl rfl) ?_
    refine WL.u rfl rfl (Wt.plain rfl) (Ex.extract rfl rfl) ?_
    refine WL.u rfl rfl (Wt.plain rfl) (Ex.assign rfl) ?_
    refine WL.u rfl rfl (Wt.plain rfl) (Ex.assign rfl) ?_
    refine WL.next ?_
    refine WC.region ?_
    refine WL.u rfl rfl (Wt.plain rfl) (Ex.move rfl) ?_
    refine WL.u rfl rfl (Wt.plain rfl) (Ex.move rfl) ?_
    refine WL.u rfl rfl (Wt.plain rfl) ((Ex.min rfl rfl).to (congrArg (Value.int IntKind.i64) (show _ = ((minK (n * m) (made n m l) (i + 1) : Nat) : Int) by rw [minK]; omega))) ?_
    refine WL.u rfl rfl (Wt.plain rfl) (Ex.assign rfl) ?_
    refine WL.last ?_
    refine WN.normalBlock ?_
    refine WN.next ?_
    refine WC.region ?_
    refine WL.u rfl rfl (Wt.plain rfl) (Ex.add rfl rfl (by omega)) ?_
    refine WL.u rfl rfl (Wt.plain rfl) (Ex.move rfl) ?_
    refine WL.last ?_
    refine WN.round (i + 1) (by exact ⟨rfl, rfl, rfl, rfl, rfl, rfl, trivial⟩) ?_ ?_
    · exact ⟨hH, hV, by omega⟩
    · (try dsimp only); omega
  have hc2' := hc2; try simp only [decide_eq_true_eq, decide_eq_false_iff_not, Bool.not_eq_true', Bool.not_eq_false', Bool.not_eq_true, Bool.not_eq_false] at hc2'
  have hie : i = (made n m l).length := by omega
  refine WC.exit ?_
  refine WN.exitThen ?_
  refine WN.exitThen ?_
  refine WN.exitHere ?_
  refine WN.next ?_
  refine WC.seq ?_
  refine WC.region ?_
  refine WL.u rfl rfl (Wt.plain rfl) (Ex.move rfl) ?_
  refine WL.u rfl rfl (Wt.plain rfl) (Ex.assign rfl) ?_
  refine WL.u rfl rfl (Wt.plain rfl) (Ex.assign rfl) ?_
  refine WL.next ?_
  refine WC.ret ?_
  refine WN.body2 rfl rfl rfl ?_
  exact ⟨by rw [fewest_at hb hnn, hie] <;> rfl, hH.keep⟩


theorem iMakeFewest (n m : Int) (l : List Int) (a : Option Addr) (cap : Nat) (w : World) (hl : Sl rInt w a l) : Fn Try.prog 5 [vint n, vint m, .slice a l.length cap] w (fun v w1 => v = .tuple #[vint (fewest n m l).1, .bool (fewest n m l).2] ∧ Keep [] w w1) := by
  cases hb : makeB n m l with
  | false => exact iMakeFewestN n m l a cap w hl hb
  | true =>
    obtain ⟨n, m, rfl, rfl, hA⟩ := makeB_ex hb
    exact iMakeFewestY n m l a cap w hl hb hA

theorem sMakeFewestN (n m : Int) (l : List Int) (a : Option Addr) (cap : Nat) (w : World) (hl : Sl rInt w a l) (hno : makeB n m l = false) : Fn Try.prog 6 [vint n, vint m, .slice a l.length cap] w (fun v w1 => v = .tuple #[vint (fewest n m l).1, .bool (fewest n m l).2] ∧ Keep [] w w1) := by
  refine Fn.enter (n := 52) Try.func6 rfl rfl rfl ?_
  show WC _ _ _ _ [(0, vint n), (1, vint m), (2, .slice a l.length cap)] _
  have hH := Hp.start [] w
  refine WC.seq ?_
  refine WC.region ?_
  refine WL.u rfl rfl (Wt.plain rfl) (Ex.assign rfl) ?_
  refine WL.u rfl rfl (Wt.plain rfl) (Ex.assign rfl) ?_
  refine WL.next ?_
  refine WC.seq ?_
  refine WC.seq ?_
  refine WC.region ?_
  refine WL.u rfl rfl (Wt.plain rfl) (Ex.move rfl) ?_
  refine WL.u rfl rfl (Wt.plain rfl) (Ex.move rfl) ?_
  refine WL.u rfl rfl (Wt.plain rfl) (Ex.move rfl) ?_
  refine WL.call callable12 rfl (Wt.plain rfl) rfl rfl (sl7Given n m l _ _ _ (hl.kept hH.keep)) ?_
  rintro _ _ ⟨rfl, hw⟩; obtain rfl := hw.symm
  refine WL.u rfl rfl (Wt.plain rfl) (Ex.not rfl) ?_
  refine WL.next ?_
  refine WC.condT rfl (by rw [hno] <;> rfl) ?_
  refine WC.seq ?_
  refine WC.region ?_
  refine WL.u rfl rfl (Wt.plain rfl) (Ex.assign rfl) ?_
  refine WL.u rfl rfl (Wt.plain rfl) (Ex.assign rfl) ?_
  refine WL.next ?_
  refine WC.ret ?_
  refine WN.retThen ?_
  refine WN.body2 rfl rfl rfl ?_
  exact ⟨by rw [fewest_not hno] <;> rfl, hH.keep⟩

theorem sMakeFewestY (n m : Nat) (l : List Int) (a : Option Addr) (cap : Nat) (w : World) (hl : Sl rInt w a l) (hb : makeB n m l = true) (hA : MakeOk n m l) : Fn Try.prog 6 [vint n, vint m, .slice a l.length cap] w (fun v w1 => v = .tuple #[vint (fewest n m l).1, .bool (fewest n m l).2] ∧ Keep [] w w1) := by
  refine Fn.enter (n := 52) Try.func6 rfl rfl rfl ?_
  show WC _ _ _ _ [(0, vint n), (1, vint m), (2, .slice a l.length cap)] _
  have hH := Hp.start [] w
  have hmI : (n : Int) * (m : Int) = ((n * m : Nat) : Int) := (Int.natCast_mul n m).symm
  obtain ⟨h1, h2, h3, h4, h6, hll⟩ := id hA
  have hp81 := hA.pow
  refine WC.seq ?_
  refine WC.region ?_
  refine WL.u rfl rfl (Wt.plain rfl) (Ex.assign rfl) ?_
  refine WL.u rfl rfl (Wt.plain rfl) (Ex.assign rfl) ?_
  refine WL.next ?_
  refine WC.seq ?_
  refine WC.seq ?_
  refine WC.region ?_
  refine WL.u rfl rfl (Wt.plain rfl) (Ex.move rfl) ?_
  refine WL.u rfl rfl (Wt.plain rfl) (Ex.move rfl) ?_
  refine WL.u rfl rfl (Wt.plain rfl) (Ex.move rfl) ?_
  refine WL.call callable12 rfl (Wt.plain rfl) rfl rfl (sl7Given n m l _ _ _ (hl.kept hH.keep)) ?_
  rintro _ _ ⟨rfl, hw⟩; obtain rfl := hw.symm
  refine WL.u rfl rfl (Wt.plain rfl) (Ex.not rfl) ?_
  refine WL.next ?_
  refine WC.condF rfl (by rw [hb] <;> rfl) ?_
  refine WC.skip ?_
  refine WN.next ?_
  refine WC.seq ?_
  refine WC.region ?_
  refine WL.u rfl rfl (Wt.plain rfl) (Ex.assign rfl) ?_
  refine WL.next ?_
  refine WC.seq ?_
  refine WC.seq ?_
  refine WC.region ?_
  refine WL.u rfl rfl (Wt.plain rfl) (Ex.assign rfl) ?_
  refine WL.next ?_
  refine WC.block ?_
  refine WC.loop (ι := Nat) (fun i => [(0, vint n), (1, vint m), (2, .slice a l.length cap), (8, vint (bestM n m (madeL n m l i))), (9, vint i)]) (fun i wn => Hp [] w wn [] ∧ i ≤ 3 ^ (n * m)) (fun i => 3 ^ (n * m) - i) (0) (by exact ⟨rfl, rfl, rfl, rfl, rfl, trivial⟩) ?_ ?_
  · exact ⟨hH, Nat.zero_le _⟩
  rintro i wn ⟨hH, hi⟩
  have hbd := bestM_bd n m (madeL n m l i)
  intro mu0 hmu; try dsimp only at hmu
  show WC _ _ _ _ [(0, vint n), (1, vint m), (2, .slice a l.length cap), (8, vint (bestM n m (madeL n m l i))), (9, vint i)] _
  refine WC.seq ?_
  refine WC.seq ?_
  refine WC.region ?_
  refine WL.u rfl rfl (Wt.plain rfl) (Ex.move rfl) ?_
  refine WL.u rfl rfl (Wt.plain rfl) (Ex.move rfl) ?_
  refine WL.u rfl rfl (Wt.plain rfl) (Ex.move rfl) ?_
  refine WL.u rfl rfl (Wt.plain rfl) ((Ex.mul rfl rfl (by omega)).to (congrArg (Value.int IntKind.i64) hmI)) ?_
  refine WL.call callable13 rfl (Wt.plain rfl) rfl rfl (sl1Power (n * m) _ _ rfl (by omega)) ?_
  rintro _ _ ⟨rfl, hw⟩; obtain rfl := hw.symm
  refine WL.u rfl rfl (Wt.plain rfl) (Ex.lss rfl rfl) ?_
  refine WL.next ?_
  refine WC.cond rfl (fun hc2 => ?_) (fun hc2 => ?_)
  · have hc2' := hc2; try simp only [decide_eq_true_eq, decide_eq_false_iff_not, Bool.not_eq_true', Bool.not_eq_false', Bool.not_eq_true, Bool.not_eq_false] at hc2'
    have hlt : i < 3 ^ (n * m) := by omega
    have hGi := hA.grid i
    have hPi := hA.ports i
    have hnc := num_cnt hA i
    refine WC.skip ?_
    refine WN.next ?_
    refine WC.seq ?_
    refine WC.block ?_
    refine WC.seq ?_
    refine WC.region ?_
    refine WL.u rfl rfl (Wt.plain rfl) (Ex.move rfl) ?_
    refine WL.u rfl rfl (Wt.plain rfl) (Ex.move rfl) ?_
    refine WL.u rfl rfl (Wt.plain rfl) (Ex.move rfl) ?_
    refine WL.call callable14 rfl (Wt.plain rfl) rfl rfl (sl1Of n m i _ h2 h4 (by omega)) ?_
    rintro _ wn ⟨hC, hN⟩; obtain ⟨b28, cap28, cur28, rfl, hge28, hbb28, ho28⟩ := hN.own; replace hH := hH.push hC hge28 hbb28; clear hC hN
    refine WL.u rfl rfl (Wt.plain rfl) (Ex.assign rfl) ?_
    refine WL.next ?_
    refine WC.seq ?_
    refine WC.region ?_
    refine WL.u rfl rfl (Wt.plain rfl) (Ex.move rfl) ?_
    refine WL.u rfl rfl (Wt.plain rfl) (Ex.move rfl) ?_
    refine WL.u rfl rfl (Wt.plain rfl) ((Ex.mul rfl rfl (by omega)).to (congrArg (Value.int IntKind.i64) hmI)) ?_
    refine WL.u rfl rfl (Wt.plain rfl) (Ex.move rfl) ?_
    refine WL.call callable15 rfl (Wt.plain rfl) rfl rfl (sl1Count (numG n m i) _ _ _ (ho28.slAt hH 0 rfl) hGi) ?_
    rintro _ _ ⟨rfl, hw⟩; obtain rfl := hw.symm
    refine WL.u rfl rfl (Wt.plain rfl) ((Ex.sub rfl rfl (by omega)).to (congrArg (Value.int IntKind.i64) (show _ = ((cntG (numG n m i) : Nat) : Int) by omega))) ?_
    refine WL.u rfl rfl (Wt.plain rfl) (Ex.assign rfl) ?_
    refine WL.next ?_
    refine WC.seq ?_
    refine WC.region ?_
    refine WL.u rfl rfl (Wt.plain rfl) (Ex.move rfl) ?_
    refine WL.u rfl rfl (Wt.plain rfl) (Ex.lss rfl rfl) ?_
    refine WL.u rfl rfl (Wt.plain rfl) (Ex.move rfl) ?_
    refine WL.split (t := 37) rfl (fun hg9_2 => ?_) (fun hg9_2 => ?_)
    · have hg9_2' := hg9_2; try simp only [decide_eq_true_eq, decide_eq_false_iff_not, Bool.not_eq_true', Bool.not_eq_false', Bool.not_eq_true, Bool.not_eq_false] at hg9_2'
      have hcond : bestM n m (madeL n m l i) < 0 ∨ (cntG (numG n m i) : Int) < bestM n m (madeL n m l i) := .inl hg9_2'
      refine WL.pass rfl rfl (Wt.guard' rfl rfl rfl hg9_2 rfl) ?_
      refine WL.pass rfl rfl (Wt.guard' rfl rfl rfl hg9_2 rfl) ?_
      refine WL.pass rfl rfl (Wt.guard' rfl rfl rfl hg9_2 rfl) ?_
      refine WL.u rfl rfl (Wt.plain rfl) (Ex.pickT rfl hg9_2 rfl) ?_
      refine WL.u rfl rfl (Wt.plain rfl) (Ex.move rfl) ?_
      refine WL.u rfl rfl (Wt.guard' rfl rfl rfl rfl rfl) (Ex.move rfl) ?_
      refine WL.call callable17 rfl (Wt.guard' rfl rfl rfl rfl rfl) rfl rfl (sl2Pairs (numG n m i) _ _ _ (ho28.slAt hH 0 rfl) hGi) ?_
      rintro _ wn ⟨hC, hN⟩; obtain ⟨b44, cap44, cur44, rfl, hge44, hbb44, ho44⟩ := hN.own; replace hH := hH.push hC hge44 hbb44; clear hC hN
      refine WL.u rfl rfl (Wt.guard' rfl rfl rfl rfl rfl) (Ex.move rfl) ?_
      refine WL.call callable16 rfl (Wt.guard' rfl rfl rfl rfl rfl) rfl rfl (sl7Equal (pairsI (numG n m i)) l _ _ _ _ _ (ho44.slAt hH 0 rfl) (hl.kept hH.keep) (by rw [pairsI_len, hPi, hll])) ?_
      rintro _ wn ⟨rfl, hC⟩; replace hH := hH.dr hC; clear hC
      refine WL.u rfl rfl (Wt.plain rfl) (Ex.pickT rfl rfl rfl) ?_
      refine WL.next ?_
      refine WC.cond rfl (fun hc3 => ?_) (fun hc3 => ?_)
      · have heq : pairsI (numG n m i) = l := of_decide_eq_true hc3
        have hsame := bestM_hit hA heq hcond
        refine WC.region ?_
        refine WL.u rfl rfl (Wt.plain rfl) (Ex.move rfl) ?_
        refine WL.u rfl rfl (Wt.plain rfl) (Ex.assign rfl) ?_
        refine WL.last ?_
        refine WN.normalBlock ?_
        refine WN.next ?_
        refine WC.region ?_
        refine WL.u rfl rfl (Wt.plain rfl) (Ex.move rfl) ?_
        refine WL.u rfl rfl (Wt.plain rfl) (Ex.add rfl rfl (by omega)) ?_
        refine WL.u rfl rfl (Wt.plain rfl) (Ex.assign rfl) ?_
        refine WL.last ?_
        replace hH := hH.first0
        refine WN.round (i + 1) (by exact ⟨rfl, rfl, rfl, congrArg (fun x : Int => some (vint x)) hsame.symm, rfl, trivial⟩) ?_ ?_
        · exact ⟨hH.first0, by omega⟩
        · (try dsimp only); omega
      have hsame := bestM_no (n := n) (m := m) (l := l) (k := i) (of_decide_eq_false hc3)
      refine WC.skip ?_
      refine WN.normalBlock ?_
      refine WN.next ?_
      refine WC.region ?_
      refine WL.u rfl rfl (Wt.plain rfl) (Ex.move rfl) ?_
      refine WL.u rfl rfl (Wt.plain rfl) (Ex.add rfl rfl (by omega)) ?_
      refine WL.u rfl rfl (Wt.plain rfl) (Ex.assign rfl) ?_
      refine WL.last ?_
      replace hH := hH.first0
      refine WN.round (i + 1) (by exact ⟨rfl, rfl, rfl, congrArg (fun x : Int => some (vint x)) hsame.symm, rfl, trivial⟩) ?_ ?_
      · exact ⟨hH.first0, by omega⟩
      · (try dsimp only); omega
    have hg9_2' := hg9_2; try simp only [decide_eq_true_eq, decide_eq_false_iff_not, Bool.not_eq_true', Bool.not_eq_false', Bool.not_eq_true, Bool.not_eq_false] at hg9_2'
    refine WL.u rfl rfl (Wt.guard' rfl rfl rfl hg9_2 rfl) (Ex.move rfl) ?_
    refine WL.u rfl rfl (Wt.guard' rfl rfl rfl hg9_2 rfl) (Ex.move rfl) ?_
    refine WL.u rfl rfl (Wt.guard' rfl rfl rfl hg9_2 rfl) (Ex.lss rfl rfl) ?_
    refine WL.u rfl rfl (Wt.plain rfl) (Ex.pickF rfl hg9_2 rfl) ?_
    refine WL.u rfl rfl (Wt.plain rfl) (Ex.move rfl) ?_
    refine WL.split (t := 42) rfl (fun hg9_7 => ?_) (fun hg9_7 => ?_)
    · have hg9_7' := hg9_7; try simp only [decide_eq_true_eq, decide_eq_false_iff_not, Bool.not_eq_true', Bool.not_eq_false', Bool.not_eq_true, Bool.not_eq_false] at hg9_7'
      have hcond : bestM n m (madeL n m l i) < 0 ∨ (cntG (numG n m i) : Int) < bestM n m (madeL n m l i) := .inr hg9_7'
      refine WL.u rfl rfl (Wt.guard' rfl rfl rfl hg9_7 rfl) (Ex.move rfl) ?_
      refine WL.call callable17 rfl (Wt.guard' rfl rfl rfl hg9_7 rfl) rfl rfl (sl2Pairs (numG n m i) _ _ _ (ho28.slAt hH 0 rfl) hGi) ?_
      rintro _ wn ⟨hC, hN⟩; obtain ⟨b44, cap44, cur44, rfl, hge44, hbb44, ho44⟩ := hN.own; replace hH := hH.push hC hge44 hbb44; clear hC hN
      refine WL.u rfl rfl (Wt.guard' rfl rfl rfl hg9_7 rfl) (Ex.move rfl) ?_
      refine WL.call callable16 rfl (Wt.guard' rfl rfl rfl hg9_7 rfl) rfl rfl (sl7Equal (pairsI (numG n m i)) l _ _ _ _ _ (ho44.slAt hH 0 rfl) (hl.kept hH.keep) (by rw [pairsI_len, hPi, hll])) ?_
      rintro _ wn ⟨rfl, hC⟩; replace hH := hH.dr hC; clear hC
      refine WL.u rfl rfl (Wt.plain rfl) (Ex.pickT rfl hg9_7 rfl) ?_
      refine WL.next ?_
      refine WC.cond rfl (fun hc3 => ?_) (fun hc3 => ?_)
      · have heq : pairsI (numG n m i) = l := of_decide_eq_true hc3
        have hsame := bestM_hit hA heq hcond
        refine WC.region ?_
        refine WL.u rfl rfl (Wt.plain rfl) (Ex.move rfl) ?_
        refine WL.u rfl rfl (Wt.plain rfl) (Ex.assign rfl) ?_
        refine WL.last ?_
        refine WN.normalBlock ?_
        refine WN.next ?_
        refine WC.region ?_
        refine WL.u rfl rfl (Wt.plain rfl) (Ex.move rfl) ?_
        refine WL.u rfl rfl (Wt.plain rfl) (Ex.add rfl rfl (by omega)) ?_
        refine WL.u rfl rfl (Wt.plain rfl) (Ex.assign rfl) ?_
        refine WL.last ?_
        replace hH := hH.first0
        refine WN.round (i + 1) (by exact ⟨rfl, rfl, rfl, congrArg (fun x : Int => some (vint x)) hsame.symm, rfl, trivial⟩) ?_ ?_
        · exact ⟨hH.first0, by omega⟩
        · (try dsimp only); omega
      have hsame := bestM_no (n := n) (m := m) (l := l) (k := i) (of_decide_eq_false hc3)
      refine WC.skip ?_
      refine WN.normalBlock ?_
      refine WN.next ?_
      refine WC.region ?_
      refine WL.u rfl rfl (Wt.plain rfl) (Ex.move rfl) ?_
      refine WL.u rfl rfl (Wt.plain rfl) (Ex.add rfl rfl (by omega)) ?_
      refine WL.u rfl rfl (Wt.plain rfl) (Ex.assign rfl) ?_
      refine WL.last ?_
      replace hH := hH.first0
      refine WN.round (i + 1) (by exact ⟨rfl, rfl, rfl, congrArg (fun x : Int => some (vint x)) hsame.symm, rfl, trivial⟩) ?_ ?_
      · exact ⟨hH.first0, by omega⟩
      · (try dsimp only); omega
    have hg9_7' := hg9_7; try simp only [decide_eq_true_eq, decide_eq_false_iff_not, Bool.not_eq_true', Bool.not_eq_false', Bool.not_eq_true, Bool.not_eq_false] at hg9_7'
    have hsame := bestM_same hA (k := i) (by omega)
    refine WL.pass rfl rfl (Wt.guard' rfl rfl rfl hg9_7 rfl) ?_
    refine WL.pass rfl rfl (Wt.guard' rfl rfl rfl hg9_7 rfl) ?_
    refine WL.pass rfl rfl (Wt.guard' rfl rfl rfl hg9_7 rfl) ?_
    refine WL.pass rfl rfl (Wt.guard' rfl rfl rfl hg9_7 rfl) ?_
    refine WL.u rfl rfl (Wt.plain rfl) (Ex.pickF rfl hg9_7 rfl) ?_
    refine WL.next ?_
    refine WC.condF rfl rfl ?_
    refine WC.skip ?_
    refine WN.normalBlock ?_
    refine WN.next ?_
    refine WC.region ?_
    refine WL.u rfl rfl (Wt.plain rfl) (Ex.move rfl) ?_
    refine WL.u rfl rfl (Wt.plain rfl) (Ex.add rfl rfl (by omega)) ?_
    refine WL.u rfl rfl (Wt.plain rfl) (Ex.assign rfl) ?_
    refine WL.last ?_
    replace hH := hH.first0
    refine WN.round (i + 1) (by exact ⟨rfl, rfl, rfl, congrArg (fun x : Int => some (vint x)) hsame.symm, rfl, trivial⟩) ?_ ?_
    · exact ⟨hH.first0, by omega⟩
    · (try dsimp only); omega
  have hc2' := hc2; try simp only [decide_eq_true_eq, decide_eq_false_iff_not, Bool.not_eq_true', Bool.not_eq_false', Bool.not_eq_true, Bool.not_eq_false] at hc2'
  have hie : i = 3 ^ (n * m) := by omega
  rw [hie, show madeL n m l (3 ^ (n * m)) = made n m l from rfl] at *
  refine WC.exit ?_
  refine WN.exitThen ?_
  refine WN.exitThen ?_
  refine WN.exitHere ?_
  refine WN.next ?_
  refine WC.seq ?_
  refine WC.seq ?_
  refine WC.region ?_
  refine WL.u rfl rfl (Wt.plain rfl) (Ex.move rfl) ?_
  refine WL.u rfl rfl (Wt.plain rfl) (Ex.lss rfl rfl) ?_
  refine WL.next ?_
  refine WC.cond rfl (fun hc4 => ?_) (fun hc4 => ?_)
  · have hc4' := hc4; try simp only [decide_eq_true_eq, decide_eq_false_iff_not, Bool.not_eq_true', Bool.not_eq_false', Bool.not_eq_true, Bool.not_eq_false] at hc4'
    have hnil := bestM_neg hc4'
    refine WC.seq ?_
    refine WC.region ?_
    refine WL.u rfl rfl (Wt.plain rfl) (Ex.assign rfl) ?_
    refine WL.u rfl rfl (Wt.plain rfl) (Ex.assign rfl) ?_
    refine WL.next ?_
    refine WC.ret ?_
    refine WN.retThen ?_
    refine WN.body2 rfl rfl rfl ?_
    exact ⟨by rw [fewest_none hnil] <;> rfl, hH.keep⟩
  have hc4' := hc4; try simp only [decide_eq_true_eq, decide_eq_false_iff_not, Bool.not_eq_true', Bool.not_eq_false', Bool.not_eq_true, Bool.not_eq_false] at hc4'
  obtain ⟨hnn, hbe⟩ := bestM_pos (n := n) (m := m) (L := made n m l) (by omega)
  refine WC.skip ?_
  refine WN.next ?_
  refine WC.seq ?_
  refine WC.region ?_
  refine WL.u rfl rfl (Wt.plain rfl) (Ex.move rfl) ?_
  refine WL.u rfl rfl (Wt.plain rfl) (Ex.assign rfl) ?_
  refine WL.u rfl rfl (Wt.plain rfl) (Ex.assign rfl) ?_
  refine WL.next ?_
  refine WC.ret ?_
  refine WN.body2 rfl rfl rfl ?_
  exact ⟨by rw [fewest_at hb hnn, hbe], hH.keep⟩


theorem sMakeFewest (n m : Int) (l : List Int) (a : Option Addr) (cap : Nat) (w : World) (hl : Sl rInt w a l) : Fn Try.prog 6 [vint n, vint m, .slice a l.length cap] w (fun v w1 => v = .tuple #[vint (fewest n m l).1, .bool (fewest n m l).2] ∧ Keep [] w w1) := by
  cases hb : makeB n m l with
  | false => exact sMakeFewestN n m l a cap w hl hb
  | true =>
    obtain ⟨n, m, rfl, rfl, hA⟩ := makeB_ex hb
    exact sMakeFewestY n m l a cap w hl hb hA

end Go.Proofs.Ytlcihpleljhdpaa
