/- The program's least cells of rounds, and its proofs of a round. -/
import Derived.Test.YtmhmdlgcdeodmaaDoorDoPr
import Derived.Test.YtmhmdlgcdeodmaaDoorDoLp
namespace Go.Proofs.YtmhmdlgcdeodmaaDoor
set_option maxRecDepth 100000
set_option linter.unusedSimpArgs false
set_option linter.unusedVariables false
open Go Go.RowKit
theorem Keep.shr {S T : List Nat} {a b c : World} (h : Keep T a b) (k : Keep S b c) (hs : ∀ x ∈ S, a.heap.size ≤ x) : Keep T a c :=
  ⟨k.os.trans h.os, k.tape.trans h.tape, k.output.trans h.output, Nat.le_trans h.size k.size, fun i hi hn => (k.block i (Nat.lt_of_lt_of_le hi h.size) (fun hm => by have := hs i hm; omega)).trans (h.block i hi hn)⟩
theorem proofRound_off {g : Grid} (h : (roundLeast g).2 = false) : proofRound g = ([], false) := by
  unfold roundLeast at h
  split at h
  · split at h
    · next ho => exact proofRound_none ho
    · cases h
  · next hg => exact proofRound_not (by simpa using hg)
theorem roundLeast_on {g : Grid} (h : (roundLeast g).2 = true) : gridIn g = true ∧ ∃ x, offAt g = some x ∧ (roundLeast g).1 = x / 4 := by
  obtain ⟨h1, x, h2, h3⟩ := least_some (g := g) (c := (roundLeast g).1) (by rw [← h])
  exact ⟨h1, x, h2, h3.symm⟩

theorem iroundTimes (g : Grid) (a : Option Addr) (cap : Nat) (w : World) (hg : Sl rStr w a g) (hG : GridOk g) : Fn Tryd.prog 54 [.slice a g.length cap] w (fun v w1 => Keep [] w w1 ∧ New rInt 3 w w1 v (times g)) := by
  refine Fn.enter (n := 40) Tryd.func54 rfl rfl rfl ?_
  show WC _ _ _ _ [(0, .slice a g.length cap)] _
  have hH := Hp.start [] w
  have hz := hG.sz
  have hcl := cells_le hG
  have hrl := rounds_len g
  refine WC.seq ?_
  refine WC.region ?_
  refine WL.u rfl rfl (Wt.plain rfl) (Ex.assign rfl) ?_
  refine WL.next ?_
  refine WC.seq ?_
  refine WC.region ?_
  refine WL.u rfl rfl (Wt.plain rfl) (Ex.move rfl) ?_
  refine WL.call callable50 rfl (Wt.plain rfl) rfl rfl (icells _ _ _ _ (hg.kept hH.keep) hG) ?_
  rintro _ _ ⟨rfl, hw⟩; obtain rfl := hw.symm
  refine WL.makeSlice Tryd.underlying34 ty3 rfl rfl (by omega) (by omega) rfl (Wt.plain rfl) hH (fun b12 wn hb12 hk12 hH => ?_)
  have ho12 := Own.made rInt (z := vint 0) 0 rfl rfl (k := nR g * nC g) (by omega)
  refine WL.u rfl rfl (Wt.plain rfl) (Ex.assign rfl) ?_
  refine WL.next ?_
  refine WC.seq ?_
  refine WC.region ?_
  refine WL.u rfl rfl (Wt.plain rfl) (Ex.move rfl) ?_
  refine WL.call callable52 rfl (Wt.plain rfl) rfl rfl (iallPaths _ _ _ _ (hg.kept hH.keep) hG) ?_
  have hltb := hH.lt 0 rfl; dsimp only at hltb; rintro _ w15 ⟨x, y, rfl, hC, hs, hN, hl, hRd⟩; obtain ⟨b15, cap15, cur15, rfl, hge15, hbb15, ho15⟩ := hN.own; replace hH := hH.push hC hge15 hbb15; clear hC hN; have hV : Keep [b12] w15 w15 := Keep.refl _ _; have hsl := hRd.len
  refine WL.u rfl rfl (Wt.plain rfl) (Ex.move rfl) ?_
  refine WL.u rfl rfl (Wt.plain rfl) (Ex.extract rfl rfl) ?_
  refine WL.u rfl rfl (Wt.plain rfl) (Ex.extract rfl rfl) ?_
  refine WL.u rfl rfl (Wt.plain rfl) (Ex.assign rfl) ?_
  refine WL.u rfl rfl (Wt.plain rfl) (Ex.assign rfl) ?_
  refine WL.next ?_
  refine WC.seq ?_
  refine WC.seq ?_
  refine WC.region ?_
  refine WL.u rfl rfl (Wt.plain rfl) (Ex.move rfl) ?_
  refine WL.u rfl rfl (Wt.plain rfl) (Ex.lenSl Tryd.underlying64 rfl) ?_
  refine WL.u rfl rfl (Wt.plain rfl) (Ex.move rfl) ?_
  refine WL.next ?_
  refine WC.block ?_
  replace hH := hH.f1
  refine WC.loop (ι := Nat × (Array Value) × (List Int)) (fun (i, cur12, q) => [(0, .slice a g.length cap), (3, vsl b12 (nR g * nC g) (nR g * nC g)), (18, vsl b15 hs.length cap15), (19, vint hs.length), (20, vint i)]) (fun (i, cur12, q) wn => Hp [] w wn [(b12, .cells cur12 3 (0, 0)), (b15, .cells cur15 61 (0, 0))] ∧ Own rInt cur12 (nR g * nC g) q ∧ q = tallyL (nR g * nC g) ((rounds g).take i).flatten ∧ Keep [b12] w15 wn ∧ i ≤ hs.length) (fun (i, cur12, q) => hs.length - i) ((0, madeCells (vint 0).cells ((nR g * nC g) * 1), List.replicate (nR g * nC g) 0)) (by exact ⟨rfl, rfl, rfl, rfl, rfl, trivial⟩) ?_ ?_
  · exact ⟨hH, ho12, rfl, hV, Nat.zero_le _⟩
  rintro ⟨i, cur12, q⟩ wn ⟨hH, ho12, hq, hV, hi⟩
  intro mu0 hmu; try dsimp only at hmu
  show WC _ _ _ _ [(0, .slice a g.length cap), (3, vsl b12 (nR g * nC g) (nR g * nC g)), (18, vsl b15 hs.length cap15), (19, vint hs.length), (20, vint i)] _
  refine WC.seq ?_
  refine WC.region ?_
  refine WL.u rfl rfl (Wt.plain rfl) (Ex.lss rfl rfl) ?_
  refine WL.next ?_
  refine WC.seq ?_
  refine WC.cond rfl (fun hc1 => ?_) (fun hc1 => ?_)
  · have hc1' := hc1; try simp only [decide_eq_true_eq, decide_eq_false_iff_not, Bool.not_eq_true', Bool.not_eq_false', Bool.not_eq_true, Bool.not_eq_false] at hc1'
    have hli : i < (rounds g).length := by omega
    have hmr : (rounds g).getD i [] ∈ rounds g := List.mem_of_getElem? (getD_get (rounds g) i [] hli)
    have hrk := rounds_ok hz hmr
    obtain ⟨a7, c7, hv7, hs7, hb7⟩ := hRd.ex hli
    have hap7 : Apart [b12] a7 := fun q hq hm => by have h1 := hb7 q hq; have h2 := List.mem_singleton.1 hm; omega
    have hfl := flat_len 100 (rounds g) (fun r hr => by have := (rounds_ok hz hr).2; omega) i
    have hft := flat_take (rounds g) i hli
    have hfo : ∀ s ∈ ((rounds g).take i).flatten, Ok g s := fun s hs => by
      obtain ⟨r, hr, h⟩ := List.mem_flatten.1 hs
      exact ((rounds_ok hz (List.mem_of_mem_take hr)).1 s h).1
    generalize (rounds g).getD i [] = r at *
    refine WC.skip ?_
    refine WN.next ?_
    refine WC.seq ?_
    refine WC.block ?_
    refine WC.seq ?_
    refine WC.region ?_
    refine WL.u rfl rfl (Wt.plain rfl) (Ex.indexAddr Tryd.underlying64 ty61 rfl rfl (by omega)) ?_
    refine WL.u rfl rfl (Wt.plain rfl) ((Ex.loadHp flat61 rfl (hH.front 1 rfl) (ho15.get rfl (getD_get hs i hd0 (by omega)))).to hv7) ?_
    refine WL.u rfl rfl (Wt.plain rfl) (Ex.assign rfl) ?_
    refine WL.next ?_
    refine WC.seq ?_
    refine WC.region ?_
    refine WL.u rfl rfl (Wt.plain rfl) (Ex.move rfl) ?_
    refine WL.u rfl rfl (Wt.plain rfl) (Ex.lenSl Tryd.underlying61 rfl) ?_
    refine WL.u rfl rfl (Wt.plain rfl) (Ex.move rfl) ?_
    refine WL.next ?_
    refine WC.block ?_
    replace hH := hH.f1
    replace hH := hH.f1
    refine WC.loop (ι := Nat × (Array Value) × (List Int)) (fun (j, cur12, q) => [(0, .slice a g.length cap), (3, vsl b12 (nR g * nC g) (nR g * nC g)), (18, vsl b15 hs.length cap15), (19, vint hs.length), (20, vint i), (24, .slice a7 r.length c7), (25, vint r.length), (26, vint j)]) (fun (j, cur12, q) wn => Hp [] w wn [(b12, .cells cur12 3 (0, 0)), (b15, .cells cur15 61 (0, 0))] ∧ Own rInt cur12 (nR g * nC g) q ∧ q = tallyL (nR g * nC g) (((rounds g).take i).flatten ++ r.take j) ∧ Keep [b12] w15 wn ∧ j ≤ r.length) (fun (j, cur12, q) => r.length - j) ((0, cur12, q)) (by exact ⟨rfl, rfl, rfl, rfl, rfl, rfl, rfl, rfl, trivial⟩) ?_ ?_
    · exact ⟨hH, ho12, by rw [List.take_zero, List.append_nil]; exact hq, hV, Nat.zero_le _⟩
    rintro ⟨j, cur12, q⟩ wn ⟨hH, ho12, hq, hV, hj⟩
    intro mu0 hmu; try dsimp only at hmu
    show WC _ _ _ _ [(0, .slice a g.length cap), (3, vsl b12 (nR g * nC g) (nR g * nC g)), (18, vsl b15 hs.length cap15), (19, vint hs.length), (20, vint i), (24, .slice a7 r.length c7), (25, vint r.length), (26, vint j)] _
    refine WC.seq ?_
    refine WC.region ?_
    refine WL.u rfl rfl (Wt.plain rfl) (Ex.lss rfl rfl) ?_
    refine WL.next ?_
    refine WC.seq ?_
    refine WC.cond rfl (fun hc2 => ?_) (fun hc2 => ?_)
    · have hc2' := hc2; try simp only [decide_eq_true_eq, decide_eq_false_iff_not, Bool.not_eq_true', Bool.not_eq_false', Bool.not_eq_true, Bool.not_eq_false] at hc2'
      have hlj : j < r.length := by omega
      have hget := getD_get r j (0, 0) hlj
      have hoks := (hrk.1 _ (List.mem_of_getElem? hget)).1.cell
      have hql : q.length = nR g * nC g := by rw [hq, tallyL_len]
      have hqb := tallyL_bd (nR g * nC g) (((rounds g).take i).flatten ++ r.take j) (fun s hs => by
        rcases List.mem_append.1 hs with h | h
        · exact (hfo s h).cell
        · exact (hrk.1 s (List.mem_of_mem_take h)).1.cell) (r.getD j (0, 0)).1
      rw [← hq, List.length_append, List.length_take] at hqb
      obtain ⟨b7, off7, rfl⟩ := hs7.addr (by omega)
      refine WC.skip ?_
      refine WN.next ?_
      refine WC.seq ?_
      refine WC.block ?_
      refine WC.seq ?_
      refine WC.region ?_
      refine WL.u rfl rfl (Wt.plain rfl) (Ex.indexAddr Tryd.underlying61 ty48 rfl rfl (by omega)) ?_
      refine WL.u rfl rfl (Wt.plain rfl) (Ex.loadSlS Tryd.underlying48 ty48 (hs7.keep hV hap7) rfl (hget) rfl) ?_
      have hsV9 := hV.size
      refine WL.alloc ty48 rfl rfl (Wt.plain rfl) hH (fun b9 wn hb9 hk9 hH => ?_)
      replace hV := hV.trans (hk9.nil)
      refine WL.store2 ty48 rfl rfl rfl rfl (Wt.plain rfl) hH (fun wn hk hH => ?_)
      replace hV := hV.shr hk (by intro x hx; rw [List.mem_singleton.1 hx]; omega)
      refine WL.next ?_
      refine WC.region ?_
      refine WL.u rfl rfl (Wt.plain rfl) (Ex.move rfl) ?_
      refine WL.u rfl rfl (Wt.plain rfl) (Ex.fieldAddr fd48_0 rfl) ?_
      refine WL.u rfl rfl (Wt.plain rfl) (Ex.loadHp flat3 rfl hH rfl) ?_
      refine WL.u rfl rfl (Wt.plain rfl) (Ex.indexAddr Tryd.underlying34 ty3 rfl rfl (by omega)) ?_
      replace hH := hH.f1
      refine WL.u rfl rfl (Wt.plain rfl) (Ex.loadHp flat3 rfl hH (ho12.get rfl (getD_get q (r.getD j (0, 0)).1 0 (by omega)))) ?_
      refine WL.u rfl rfl (Wt.plain rfl) (Ex.add rfl rfl (by omega)) ?_
      refine WL.u rfl rfl (Wt.plain rfl) (Ex.indexAddr Tryd.underlying34 ty3 rfl rfl (by omega)) ?_
      refine WL.store1 ty3 rfl rfl rfl (Wt.plain rfl) hH (ho12.idx rfl (by omega)) (by simp) (fun wn hk hH => ?_)
      replace hV := hV.trans (hk.mono (by simp))
      replace ho12 := ho12.set rfl (r.getD j (0, 0)).1 (q.getD (r.getD j (0, 0)).1 0 + 1)
      refine WL.last ?_
      refine WN.normalBlock ?_
      refine WN.next ?_
      refine WC.region ?_
      refine WL.u rfl rfl (Wt.plain rfl) (Ex.add rfl rfl (by omega)) ?_
      refine WL.u rfl rfl (Wt.plain rfl) (Ex.move rfl) ?_
      refine WL.last ?_
      replace hH := hH.f2
      replace hH := hH.f1
      replace hH := hH.first2
      refine WN.round (j + 1, cur12.setIfInBounds (0 + ((r.getD j (0, 0)).1 : Int).toNat * 1) (rInt.val (q.getD (r.getD j (0, 0)).1 0 + 1)), q.set (r.getD j (0, 0)).1 (q.getD (r.getD j (0, 0)).1 0 + 1)) (by exact ⟨rfl, rfl, rfl, rfl, rfl, rfl, rfl, rfl, trivial⟩) ?_ ?_
      · exact ⟨hH, ho12, by rw [take_snoc hget, ← List.append_assoc, tallyL_snoc, ← hq], hV, by omega⟩
      · (try dsimp only); omega
    have hc2' := hc2; try simp only [decide_eq_true_eq, decide_eq_false_iff_not, Bool.not_eq_true', Bool.not_eq_false', Bool.not_eq_true, Bool.not_eq_false] at hc2'
    have hje : j = r.length := by omega
    refine WC.exit ?_
    refine WN.exitThen ?_
    refine WN.exitThen ?_
    refine WN.exitHere ?_
    refine WN.normalBlock ?_
    refine WN.next ?_
    refine WC.region ?_
    refine WL.u rfl rfl (Wt.plain rfl) (Ex.add rfl rfl (by omega)) ?_
    refine WL.u rfl rfl (Wt.plain rfl) (Ex.move rfl) ?_
    refine WL.last ?_
    replace hH := hH.f1
    replace hH := hH.f1
    refine WN.round (i + 1, cur12, q) (by exact ⟨rfl, rfl, rfl, rfl, rfl, trivial⟩) ?_ ?_
    · exact ⟨hH, ho12, by rw [hft, hq, hje, List.take_length], hV, by omega⟩
    · (try dsimp only); omega
  have hc1' := hc1; try simp only [decide_eq_true_eq, decide_eq_false_iff_not, Bool.not_eq_true', Bool.not_eq_false', Bool.not_eq_true, Bool.not_eq_false] at hc1'
  have hie : i = (rounds g).length := by omega
  refine WC.exit ?_
  refine WN.exitThen ?_
  refine WN.exitThen ?_
  refine WN.exitHere ?_
  refine WN.next ?_
  refine WC.seq ?_
  refine WC.region ?_
  refine WL.u rfl rfl (Wt.plain rfl) (Ex.move rfl) ?_
  refine WL.u rfl rfl (Wt.plain rfl) (Ex.assign rfl) ?_
  refine WL.next ?_
  refine WC.ret ?_
  refine WN.body1 rfl rfl ?_
  have hql : q.length = nR g * nC g := by rw [hq, tallyL_len]
  have hN := New.of hH ho12 (hH.base 0 rfl)
  rw [hql, hq, hie, List.take_length] at hN
  exact ⟨hH.keep, hN⟩

theorem iRoundLeast (g : Grid) (a : Option Addr) (cap : Nat) (w : World) (hg : Sl rStr w a g) (hs : Short g) : Fn Tryd.prog 24 [.slice a g.length cap] w (fun v w1 => v = .tuple #[vint (roundLeast g).1, .bool (roundLeast g).2] ∧ Keep [] w w1) := by
  refine Fn.enter (n := 20) Tryd.func24 rfl rfl rfl ?_
  show WC _ _ _ _ [(0, .slice a g.length cap)] _
  have hH := Hp.start [] w
  refine WC.seq ?_
  refine WC.region ?_
  refine WL.u rfl rfl (Wt.plain rfl) (Ex.assign rfl) ?_
  refine WL.u rfl rfl (Wt.plain rfl) (Ex.assign rfl) ?_
  refine WL.next ?_
  refine WC.seq ?_
  refine WC.seq ?_
  refine WC.region ?_
  refine WL.u rfl rfl (Wt.plain rfl) (Ex.move rfl) ?_
  refine WL.call callable34 rfl (Wt.plain rfl) rfl rfl (iGridIn _ _ _ _ (hg.kept hH.keep) hs) ?_
  rintro _ _ ⟨rfl, hw⟩; obtain rfl := hw.symm
  refine WL.next ?_
  refine WC.cond rfl (fun hc1 => ?_) (fun hc1 => ?_)
  · have hc1' := hc1; try simp only [decide_eq_true_eq, decide_eq_false_iff_not, Bool.not_eq_true', Bool.not_eq_false', Bool.not_eq_true, Bool.not_eq_false] at hc1'
    have hgi : gridIn g = true := by simpa using hc1
    have hG := (gridOk_iff g).1 hgi
    have z := hG.sz
    have hcl := cells_le hG
    have htl : (times g).length = nR g * nC g := tallyL_len _ _
    refine WC.seq ?_
    refine WC.region ?_
    refine WL.u rfl rfl (Wt.plain rfl) (Ex.move rfl) ?_
    refine WL.call callable54 rfl (Wt.plain rfl) rfl rfl (iroundTimes _ _ _ _ (hg.kept hH.keep) hG) ?_
    rintro _ wn ⟨hC, hN⟩; obtain ⟨b9, cap9, cur9, rfl, hge9, hbb9, ho9⟩ := hN.own; replace hH := hH.push hC hge9 hbb9; clear hC hN
    refine WL.u rfl rfl (Wt.plain rfl) (Ex.lenSl Tryd.underlying34 rfl) ?_
    refine WL.u rfl rfl (Wt.plain rfl) (Ex.move rfl) ?_
    refine WL.next ?_
    refine WC.block ?_
    refine WC.loop (ι := Nat) (fun i => [(0, .slice a g.length cap), (9, vsl b9 (times g).length cap9), (10, vint (times g).length), (11, vint i)]) (fun i wn => Hp [] w wn [(b9, .cells cur9 3 (0, 0))] ∧ (∀ k, k < i → (times g).getD k 0 ≤ 0) ∧ i ≤ (times g).length) (fun i => (times g).length - i) (0) (by exact ⟨rfl, rfl, rfl, rfl, trivial⟩) ?_ ?_
    · exact ⟨hH, fun k hk => by omega, Nat.zero_le _⟩
    rintro i wn ⟨hH, hM, hi⟩
    intro mu0 hmu; try dsimp only at hmu
    show WC _ _ _ _ [(0, .slice a g.length cap), (9, vsl b9 (times g).length cap9), (10, vint (times g).length), (11, vint i)] _
    refine WC.seq ?_
    refine WC.region ?_
    refine WL.u rfl rfl (Wt.plain rfl) (Ex.lss rfl rfl) ?_
    refine WL.next ?_
    refine WC.seq ?_
    refine WC.cond rfl (fun hc2 => ?_) (fun hc2 => ?_)
    · have hc2' := hc2; try simp only [decide_eq_true_eq, decide_eq_false_iff_not, Bool.not_eq_true', Bool.not_eq_false', Bool.not_eq_true, Bool.not_eq_false] at hc2'
      have hli : i < (times g).length := by omega
      refine WC.skip ?_
      refine WN.next ?_
      refine WC.seq ?_
      refine WC.block ?_
      refine WC.seq ?_
      refine WC.region ?_
      refine WL.u rfl rfl (Wt.plain rfl) (Ex.move rfl) ?_
      refine WL.u rfl rfl (Wt.plain rfl) (Ex.indexAddr Tryd.underlying34 ty3 rfl rfl (by omega)) ?_
      refine WL.u rfl rfl (Wt.plain rfl) (Ex.loadHp flat3 rfl hH (ho9.get rfl (getD_get (times g) i 0 hli))) ?_
      refine WL.u rfl rfl (Wt.plain rfl) (Ex.assign rfl) ?_
      refine WL.u rfl rfl (Wt.plain rfl) (Ex.assign rfl) ?_
      refine WL.next ?_
      refine WC.seq ?_
      refine WC.region ?_
      refine WL.u rfl rfl (Wt.plain rfl) (Ex.move rfl) ?_
      refine WL.u rfl rfl (Wt.plain rfl) (Ex.gtr rfl rfl) ?_
      refine WL.next ?_
      refine WC.cond rfl (fun hc3 => ?_) (fun hc3 => ?_)
      · have hc3' := hc3; try simp only [decide_eq_true_eq, decide_eq_false_iff_not, Bool.not_eq_true', Bool.not_eq_false', Bool.not_eq_true, Bool.not_eq_false] at hc3'
        have hhit := roundLeast_hit z hgi (c := i) (by omega) hM (by omega)
        refine WC.seq ?_
        refine WC.region ?_
        refine WL.u rfl rfl (Wt.plain rfl) (Ex.move rfl) ?_
        refine WL.u rfl rfl (Wt.plain rfl) (Ex.assign rfl) ?_
        refine WL.u rfl rfl (Wt.plain rfl) (Ex.assign rfl) ?_
        refine WL.next ?_
        refine WC.ret ?_
        refine WN.retBlock ?_
        refine WN.retThen ?_
        refine WN.retThen ?_
        refine WN.retBlock ?_
        refine WN.retThen ?_
        refine WN.body2 rfl rfl rfl ?_
        exact ⟨by rw [hhit], hH.keep⟩
      have hc3' := hc3; try simp only [decide_eq_true_eq, decide_eq_false_iff_not, Bool.not_eq_true', Bool.not_eq_false', Bool.not_eq_true, Bool.not_eq_false] at hc3'
      refine WC.skip ?_
      refine WN.normalBlock ?_
      refine WN.next ?_
      refine WC.region ?_
      refine WL.u rfl rfl (Wt.plain rfl) (Ex.add rfl rfl (by omega)) ?_
      refine WL.u rfl rfl (Wt.plain rfl) (Ex.move rfl) ?_
      refine WL.last ?_
      refine WN.round (i + 1) (by exact ⟨rfl, rfl, rfl, rfl, trivial⟩) ?_ ?_
      · exact ⟨hH, fun k hk => by
          by_cases e : k = i
          · rw [e]; omega
          · exact hM k (by omega), by omega⟩
      · (try dsimp only); omega
    have hc2' := hc2; try simp only [decide_eq_true_eq, decide_eq_false_iff_not, Bool.not_eq_true', Bool.not_eq_false', Bool.not_eq_true, Bool.not_eq_false] at hc2'
    have hms := (roundLeast_miss z (fun k hk => hM k (by omega))).1
    refine WC.exit ?_
    refine WN.exitThen ?_
    refine WN.exitThen ?_
    refine WN.exitHere ?_
    refine WN.next ?_
    refine WC.seq ?_
    refine WC.region ?_
    refine WL.u rfl rfl (Wt.plain rfl) (Ex.assign rfl) ?_
    refine WL.u rfl rfl (Wt.plain rfl) (Ex.assign rfl) ?_
    refine WL.next ?_
    refine WC.ret ?_
    refine WN.body2 rfl rfl rfl ?_
    exact ⟨by rw [hms] <;> rfl, hH.keep⟩
  have hc1' := hc1; try simp only [decide_eq_true_eq, decide_eq_false_iff_not, Bool.not_eq_true', Bool.not_eq_false', Bool.not_eq_true, Bool.not_eq_false] at hc1'
  have hno := roundLeast_not (g := g) (by simpa using hc1)
  refine WC.skip ?_
  refine WN.next ?_
  refine WC.seq ?_
  refine WC.region ?_
  refine WL.u rfl rfl (Wt.plain rfl) (Ex.assign rfl) ?_
  refine WL.u rfl rfl (Wt.plain rfl) (Ex.assign rfl) ?_
  refine WL.next ?_
  refine WC.ret ?_
  refine WN.body2 rfl rfl rfl ?_
  exact ⟨by rw [hno] <;> rfl, hH.keep⟩

theorem iProofRound (g : Grid) (a : Option Addr) (cap : Nat) (w : World) (hg : Sl rStr w a g) (hs : Short g) : Fn Tryd.prog 15 [.slice a g.length cap] w (fun v w1 => v = .tuple #[vstr (proofRound g).1, .bool (proofRound g).2] ∧ Keep [] w w1) := by
  refine Fn.enter (n := 27) Tryd.func15 rfl rfl rfl ?_
  show WC _ _ _ _ [(0, .slice a g.length cap)] _
  have hH := Hp.start [] w
  refine WC.seq ?_
  refine WC.region ?_
  refine WL.u rfl rfl (Wt.plain rfl) (Ex.assign rfl) ?_
  refine WL.u rfl rfl (Wt.plain rfl) (Ex.assign rfl) ?_
  refine WL.next ?_
  refine WC.seq ?_
  refine WC.region ?_
  refine WL.u rfl rfl (Wt.plain rfl) (Ex.move rfl) ?_
  refine WL.call callable24 rfl (Wt.plain rfl) rfl rfl (iRoundLeast _ _ _ _ (hg.kept hH.keep) hs) ?_
  rintro _ wn ⟨rfl, hC⟩; replace hH := hH.call hC; clear hC
  refine WL.u rfl rfl (Wt.plain rfl) (Ex.move rfl) ?_
  refine WL.u rfl rfl (Wt.plain rfl) (Ex.extract rfl rfl) ?_
  refine WL.u rfl rfl (Wt.plain rfl) (Ex.extract rfl rfl) ?_
  refine WL.u rfl rfl (Wt.plain rfl) (Ex.assign rfl) ?_
  refine WL.u rfl rfl (Wt.plain rfl) (Ex.assign rfl) ?_
  refine WL.next ?_
  refine WC.seq ?_
  refine WC.seq ?_
  refine WC.region ?_
  refine WL.u rfl rfl (Wt.plain rfl) (Ex.move rfl) ?_
  refine WL.u rfl rfl (Wt.plain rfl) (Ex.not rfl) ?_
  refine WL.next ?_
  refine WC.cond rfl (fun hc1 => ?_) (fun hc1 => ?_)
  · have hc1' := hc1; try simp only [decide_eq_true_eq, decide_eq_false_iff_not, Bool.not_eq_true', Bool.not_eq_false', Bool.not_eq_true, Bool.not_eq_false] at hc1'
    have hno := proofRound_off (g := g) (by simpa using hc1)
    refine WC.seq ?_
    refine WC.region ?_
    refine WL.u rfl rfl (Wt.plain rfl) (Ex.assign rfl) ?_
    refine WL.u rfl rfl (Wt.plain rfl) (Ex.assign rfl) ?_
    refine WL.next ?_
    refine WC.ret ?_
    refine WN.retThen ?_
    refine WN.body2 rfl rfl rfl ?_
    exact ⟨by rw [hno], hH.keep⟩
  have hc1' := hc1; try simp only [decide_eq_true_eq, decide_eq_false_iff_not, Bool.not_eq_true', Bool.not_eq_false', Bool.not_eq_true, Bool.not_eq_false] at hc1'
  obtain ⟨hgi, x, hx, hxc⟩ := roundLeast_on (g := g) (by simpa using hc1)
  have hG := (gridOk_iff g).1 hgi
  have z := hG.sz
  have hxo := (off_close z hx).1
  have hpr := proofRound_at hgi hx
  refine WC.skip ?_
  refine WN.next ?_
  refine WC.seq ?_
  refine WC.seq ?_
  rw [hxc]
  refine WC.region ?_
  refine WL.u rfl rfl (Wt.plain rfl) (Ex.move rfl) ?_
  refine WL.next ?_
  refine WC.block ?_
  refine WC.loop (ι := Nat) (fun d => [(0, .slice a g.length cap), (4, vint (x / 4 : Nat)), (15, vint d)]) (fun d wn => Hp [] w wn [] ∧ d ≤ x % 4) (fun d => 4 - d) (0) (by exact ⟨rfl, rfl, rfl, trivial⟩) ?_ ?_
  · exact ⟨hH, Nat.zero_le _⟩
  rintro d wn ⟨hH, hd⟩
  intro mu0 hmu; try dsimp only at hmu
  show WC _ _ _ _ [(0, .slice a g.length cap), (4, vint (x / 4 : Nat)), (15, vint d)] _
  refine WC.seq ?_
  refine WC.region ?_
  refine WL.u rfl rfl (Wt.plain rfl) (Ex.lss rfl rfl) ?_
  refine WL.next ?_
  refine WC.seq ?_
  refine WC.cond rfl (fun hc2 => ?_) (fun hc2 => ?_)
  · have hc2' := hc2; try simp only [decide_eq_true_eq, decide_eq_false_iff_not, Bool.not_eq_true', Bool.not_eq_false', Bool.not_eq_true, Bool.not_eq_false] at hc2'
    have hok : Ok g (x / 4, d) := ⟨by show x / 4 < _; omega, by show d < 4; omega⟩
    refine WC.skip ?_
    refine WN.next ?_
    refine WC.seq ?_
    refine WC.block ?_
    refine WC.seq ?_
    refine WC.region ?_
    refine WL.u rfl rfl (Wt.plain rfl) (Ex.move rfl) ?_
    refine WL.u rfl rfl (Wt.plain rfl) (Ex.assign rfl) ?_
    refine WL.next ?_
    refine WC.seq ?_
    refine WC.region ?_
    refine WL.u rfl rfl (Wt.plain rfl) (Ex.move rfl) ?_
    refine WL.u rfl rfl (Wt.plain rfl) (Ex.move rfl) ?_
    refine WL.u rfl rfl (Wt.plain rfl) (Ex.move rfl) ?_
    refine WL.u rfl rfl (Wt.plain rfl) (Ex.buildS bd48 rfl rfl rfl rfl rfl) ?_
    refine WL.call callable38 rfl (Wt.plain rfl) rfl rfl (iroundProof g _ _ (x / 4, d) _ (hg.kept hH.keep) hG hok) ?_
    rintro _ wn ⟨rfl, hC⟩; replace hH := hH.call hC; clear hC
    refine WL.u rfl rfl (Wt.plain rfl) (Ex.assign rfl) ?_
    refine WL.next ?_
    refine WC.seq ?_
    refine WC.region ?_
    refine WL.u rfl rfl (Wt.plain rfl) (Ex.move rfl) ?_
    refine WL.u rfl rfl (Wt.plain rfl) (Ex.neqStr rfl rfl) ?_
    refine WL.next ?_
    refine WC.cond rfl (fun hc3 => ?_) (fun hc3 => ?_)
    · have hne : roundText g (x / 4, d) ≠ [] := by simpa using hc3
      have hde : d = x % 4 := by
        apply Classical.byContradiction
        intro e
        exact hne (text_nil z hx (by omega))
      refine WC.seq ?_
      refine WC.region ?_
      refine WL.u rfl rfl (Wt.plain rfl) (Ex.move rfl) ?_
      refine WL.u rfl rfl (Wt.plain rfl) (Ex.assign rfl) ?_
      refine WL.u rfl rfl (Wt.plain rfl) (Ex.assign rfl) ?_
      refine WL.next ?_
      refine WC.ret ?_
      refine WN.retBlock ?_
      refine WN.retThen ?_
      refine WN.retThen ?_
      refine WN.retBlock ?_
      refine WN.retThen ?_
      refine WN.body2 rfl rfl rfl ?_
      exact ⟨by rw [hpr, hde] <;> rfl, hH.keep⟩
    have hne : ¬ roundText g (x / 4, d) ≠ [] := by simpa using hc3
    have hnx : d + 1 ≤ x % 4 := by
      apply Classical.byContradiction
      intro e
      have hde : d = x % 4 := by omega
      rw [hde] at hne
      exact hne (text_ne z hx)
    refine WC.skip ?_
    refine WN.normalBlock ?_
    refine WN.next ?_
    refine WC.region ?_
    refine WL.u rfl rfl (Wt.plain rfl) (Ex.add rfl rfl (by omega)) ?_
    refine WL.u rfl rfl (Wt.plain rfl) (Ex.move rfl) ?_
    refine WL.last ?_
    refine WN.round (d + 1) (by exact ⟨rfl, rfl, rfl, trivial⟩) ?_ ?_
    · exact ⟨hH, hnx⟩
    · (try dsimp only); omega
  exfalso; have := of_decide_eq_false hc2; omega

theorem lawExactProofRound (g : Grid) (a : Option Addr) (cap : Nat) (w : World) (hg : Sl rStr w a g) (hs : Short g) : Fn Tryd.prog 7 [.slice a g.length cap] w (fun v w1 => v = .bool true ∧ Keep [] w w1) := by
  refine Fn.enter (n := 40) Tryd.func7 rfl rfl rfl ?_
  show WC _ _ _ _ [(0, .slice a g.length cap)] _
  have hH := Hp.start [] w
  refine WC.seq ?_
  refine WC.region ?_
  refine WL.u rfl rfl (Wt.plain rfl) (Ex.assign rfl) ?_
  refine WL.next ?_
  refine WC.seq ?_
  refine WC.region ?_
  refine WL.u rfl rfl (Wt.plain rfl) (Ex.assign rfl) ?_
  refine WL.next ?_
  refine WC.seq ?_
  refine WC.region ?_
  refine WL.u rfl rfl (Wt.plain rfl) (Ex.move rfl) ?_
  refine WL.u rfl rfl (Wt.plain rfl) (Ex.move rfl) ?_
  refine WL.call callable25 rfl (Wt.plain rfl) rfl rfl (szStringS g a cap 1048576 _ (hg.kept hH.keep) hs (by omega)) ?_
  rintro _ _ ⟨r, rfl, hw, hr⟩; obtain rfl := hw.symm
  refine WL.u rfl rfl (Wt.plain rfl) (Ex.assign rfl) ?_
  refine WL.next ?_
  refine WC.seq ?_
  refine WC.seq ?_
  refine WC.region ?_
  refine WL.u rfl rfl (Wt.plain rfl) (Ex.move rfl) ?_
  refine WL.u rfl rfl (Wt.plain rfl) (Ex.lss rfl rfl) ?_
  refine WL.next ?_
  refine WC.cond rfl (fun hc1 => ?_) (fun hc1 => ?_)
  · have hc1' := hc1; try simp only [decide_eq_true_eq, decide_eq_false_iff_not, Bool.not_eq_true', Bool.not_eq_false', Bool.not_eq_true, Bool.not_eq_false] at hc1'
    refine WC.seq ?_
    refine WC.region ?_
    refine WL.u rfl rfl (Wt.plain rfl) (Ex.assign rfl) ?_
    refine WL.next ?_
    refine WC.ret ?_
    refine WN.retThen ?_
    refine WN.body1 rfl rfl ?_
    exact ⟨rfl, hH.keep⟩
  have hc1' := hc1; try simp only [decide_eq_true_eq, decide_eq_false_iff_not, Bool.not_eq_true', Bool.not_eq_false', Bool.not_eq_true, Bool.not_eq_false] at hc1'
  have hr2 := hr (by omega)
  have hgl := hr2.1
  refine WC.skip ?_
  refine WN.next ?_
  refine WC.seq ?_
  refine WC.region ?_
  refine WL.u rfl rfl (Wt.plain rfl) (Ex.move rfl) ?_
  refine WL.call callable27 rfl (Wt.plain rfl) rfl rfl (toStringS _ _ _ _ (hg.kept hH.keep) hgl) ?_
  rintro _ wn ⟨hC, hN⟩; obtain ⟨b101, cap101, cur101, rfl, hge, hbb, ho101⟩ := hN.own; replace hH := hH.push hC hge hbb
  refine WL.call callable21 rfl (Wt.plain rfl) rfl rfl (sProofRound g _ _ _ (ho101.slAt hH 0 rfl) hs) ?_
  rintro _ wn ⟨rfl, hC⟩; replace hH := hH.call hC; clear hC
  refine WL.u rfl rfl (Wt.plain rfl) (Ex.move rfl) ?_
  refine WL.u rfl rfl (Wt.plain rfl) (Ex.extract rfl rfl) ?_
  refine WL.u rfl rfl (Wt.plain rfl) (Ex.extract rfl rfl) ?_
  refine WL.u rfl rfl (Wt.plain rfl) (Ex.assign rfl) ?_
  refine WL.u rfl rfl (Wt.plain rfl) (Ex.assign rfl) ?_
  refine WL.next ?_
  refine WC.seq ?_
  refine WC.region ?_
  refine WL.u rfl rfl (Wt.plain rfl) (Ex.move rfl) ?_
  refine WL.call callable27 rfl (Wt.plain rfl) rfl rfl (toStringS _ _ _ _ (hg.kept hH.keep) hgl) ?_
  rintro _ wn ⟨hC, hN⟩; obtain ⟨b102, cap102, cur102, rfl, hge, hbb, ho102⟩ := hN.own; replace hH := hH.push hC hge hbb
  refine WL.u rfl rfl (Wt.plain rfl) (Ex.assign rfl) ?_
  refine WL.next ?_
  refine WC.seq ?_
  refine WC.region ?_
  refine WL.u rfl rfl (Wt.plain rfl) (Ex.move rfl) ?_
  refine WL.call callable15 rfl (Wt.plain rfl) rfl rfl (iProofRound g _ _ _ (ho102.slAt hH 0 rfl) hs) ?_
  rintro _ wn ⟨rfl, hC⟩; replace hH := hH.call hC; clear hC
  refine WL.u rfl rfl (Wt.plain rfl) (Ex.move rfl) ?_
  refine WL.u rfl rfl (Wt.plain rfl) (Ex.extract rfl rfl) ?_
  refine WL.u rfl rfl (Wt.plain rfl) (Ex.extract rfl rfl) ?_
  refine WL.u rfl rfl (Wt.plain rfl) (Ex.assign rfl) ?_
  refine WL.u rfl rfl (Wt.plain rfl) (Ex.assign rfl) ?_
  refine WL.next ?_
  refine WC.seq ?_
  refine WC.seq ?_
  refine WC.region ?_
  refine WL.u rfl rfl (Wt.plain rfl) (Ex.move rfl) ?_
  refine WL.u rfl rfl (Wt.plain rfl) (Ex.move rfl) ?_
  refine WL.u rfl rfl (Wt.plain rfl) (Ex.neqStr rfl rfl) ?_
  refine WL.u rfl rfl (Wt.plain rfl) (Ex.move rfl) ?_
  refine WL.split (t := 30) rfl (fun hg8_3 => ?_) (fun hg8_3 => ?_)
  · exfalso; simp at hg8_3
  have hg8_3' := hg8_3; try simp only [decide_eq_true_eq, decide_eq_false_iff_not, Bool.not_eq_true', Bool.not_eq_false', Bool.not_eq_true, Bool.not_eq_false] at hg8_3'
  refine WL.u rfl rfl (Wt.guard' rfl rfl rfl hg8_3 rfl) (Ex.move rfl) ?_
  refine WL.u rfl rfl (Wt.guard' rfl rfl rfl hg8_3 rfl) (Ex.move rfl) ?_
  refine WL.u rfl rfl (Wt.guard' rfl rfl rfl hg8_3 rfl) (Ex.neqB Tryd.underlying4 rfl rfl) ?_
  refine WL.u rfl rfl (Wt.plain rfl) (Ex.pickF rfl hg8_3 rfl) ?_
  refine WL.next ?_
  refine WC.condF rfl (by simp) ?_
  refine WC.skip ?_
  refine WN.next ?_
  refine WC.seq ?_
  refine WC.seq ?_
  refine WC.region ?_
  refine WL.u rfl rfl (Wt.plain rfl) (Ex.move rfl) ?_
  refine WL.u rfl rfl (Wt.plain rfl) (Ex.move rfl) ?_
  refine WL.call callable27 rfl (Wt.plain rfl) rfl rfl (toStringS _ _ _ _ (hg.kept hH.keep) hgl) ?_
  rintro _ wn ⟨hC, hN⟩; obtain ⟨b103, cap103, cur103, rfl, hge, hbb, ho103⟩ := hN.own; replace hH := hH.push hC hge hbb
  refine WL.call callable28 rfl (Wt.plain rfl) rfl rfl (eqStringS g g _ _ _ _ _ (ho102.slAt hH 1 rfl) (ho103.slAt hH 0 rfl)) ?_
  rintro _ wn ⟨rfl, hC⟩; replace hH := hH.dr hC; clear hC
  refine WL.u rfl rfl (Wt.plain rfl) (Ex.not rfl) ?_
  refine WL.next ?_
  refine WC.condF rfl (by simp) ?_
  refine WC.skip ?_
  refine WN.next ?_
  refine WC.seq ?_
  refine WC.region ?_
  refine WL.u rfl rfl (Wt.plain rfl) (Ex.assign rfl) ?_
  refine WL.next ?_
  refine WC.ret ?_
  refine WN.body1 rfl rfl ?_
  exact ⟨rfl, hH.keep⟩

end Go.Proofs.YtmhmdlgcdeodmaaDoor
