/- The reference's joining of two pairings. -/
import Derived.Test.YtmlkabddhdkpaaaJnA
import Derived.Test.YtmlkabddhdkpaaaAsk
import Derived.Test.YtmlkabddhdkpaaaConv
namespace Go.Proofs.Ytmlkabddhdkpaaa
set_option maxRecDepth 100000
set_option linter.unusedSimpArgs false
set_option linter.unusedVariables false
open Go Go.RowKit
section
variable {S : List Nat} {w0 w : World} {L : List (Nat × Obj)}
theorem Hp.g4 {a b c d e : Nat × Obj} (hyp : Hp S w0 w (a :: b :: c :: d :: e :: L)) : Hp S w0 w (e :: a :: b :: c :: d :: L) := hyp.front 4 rfl
end
theorem no_marks (D : GD) (N : Nat) : GD.BI D (fun c => (List.replicate N false).getD c false) 0 := by
  have e : (fun c => (List.replicate N false).getD c false) = fun _ => false := by
    funext c
    rw [List.getD_eq_getElem?_getD, List.getElem?_replicate]
    split <;> rfl
  rw [e]; exact GD.BI.start D

set_option maxHeartbeats 4000000 in
theorem sl6jJoined (D : GD) (g h : Grid) (n m k : Nat) (a a2 : Option Addr) (cap cap2 : Nat) (w : World) (J : JF D g h n m k) (ha : Sl rInt w a (pairsI g)) (hb : Sl rInt w a2 (pairsI h)) : Fn Try.prog 17 [vint n, vint m, .slice a (pairsI g).length cap, vint k, .slice a2 (pairsI h).length cap2] w (fun v w1 => ∃ x c, v = .tuple #[x, vint (c : Nat)] ∧ Keep [] w w1 ∧ New rInt 3 w w1 x (pairsI D.G) ∧ (rounds D.G).length = (rounds g).length + (rounds h).length + c) := by
  refine Fn.enter (n := 231) Try.func17 rfl rfl rfl ?_
  show WC _ _ _ _ [(0, vint n), (1, vint m), (2, .slice a (pairsI g).length cap), (3, vint k), (4, .slice a2 (pairsI h).length cap2)] _
  have hH := Hp.start [] w
  have hw := J.w
  have hT := J.T
  have hn1 := J.n1
  have hn5 := J.n5
  have hm1 := J.m1
  have hk1 := J.k1
  have hmk := J.mkk
  have hpg := J.pg
  have hph := J.ph
  have hpG := J.pG
  have hal : (pairsI g).length = 2 * n + 2 * m := by rw [pairsI_len, hpg]
  have hbl : (pairsI h).length = 2 * n + 2 * k := by rw [pairsI_len, hph]
  have hzh : Sz h := by rw [← J.h0]; exact hw.z true
  obtain ⟨ba, oa, rfl⟩ := ha.addr (by omega)
  obtain ⟨bb, ob, rfl⟩ := hb.addr (by omega)
  refine WC.seq ?_
  refine WC.region ?_
  refine WL.u rfl rfl (Wt.plain rfl) (Ex.assign rfl) ?_
  refine WL.u rfl rfl (Wt.plain rfl) (Ex.assign rfl) ?_
  refine WL.next ?_
  refine WC.seq ?_
  refine WC.region ?_
  refine WL.u rfl rfl (Wt.plain rfl) (Ex.move rfl) ?_
  refine WL.u rfl rfl (Wt.plain rfl) (Ex.move rfl) ?_
  refine WL.call callable28 rfl (Wt.plain rfl) rfl rfl (sl2Ports n m _ (by omega) (by omega)) ?_
  rintro _ _ ⟨hv, hw2⟩; obtain rfl := hw2.symm; obtain rfl := hv.trans (congrArg (Value.int IntKind.i64) (show _ = ((2 * n + 2 * m : Nat) : Int) by omega))
  refine WL.u rfl rfl (Wt.plain rfl) (Ex.assign rfl) ?_
  refine WL.next ?_
  refine WC.seq ?_
  refine WC.region ?_
  refine WL.u rfl rfl (Wt.plain rfl) (Ex.move rfl) ?_
  refine WL.u rfl rfl (Wt.plain rfl) (Ex.move rfl) ?_
  refine WL.call callable28 rfl (Wt.plain rfl) rfl rfl (sl2Ports n k _ (by omega) (by omega)) ?_
  rintro _ _ ⟨hv, hw2⟩; obtain rfl := hw2.symm; obtain rfl := hv.trans (congrArg (Value.int IntKind.i64) (show _ = ((2 * n + 2 * k : Nat) : Int) by omega))
  refine WL.u rfl rfl (Wt.plain rfl) (Ex.assign rfl) ?_
  refine WL.next ?_
  refine WC.seq ?_
  refine WC.region ?_
  refine WL.lit0 Try.underlying22 ty3 rfl (Wt.plain rfl) hH (fun b39 wn hb39 hk39 hH => ?_)
  have ho39 := Own.nil rInt
  refine WL.u rfl rfl (Wt.plain rfl) (Ex.move rfl) ?_
  refine WL.appendS (r := rInt) (m := (pairsI g)) Try.underlying22 ty3 rfl rfl rfl ((ha.kept hH.keep)) rfl (Wt.plain rfl) hH ho39 (by simp only [List.length_nil]; omega) (by simp only [List.length_nil]; omega) (fun b39 cap39 cur39 wn x39 hk39 hH ho39 => ?_)
  rw [List.nil_append] at ho39
  refine WL.u rfl rfl (Wt.plain rfl) (Ex.assign rfl) ?_
  refine WL.next ?_
  refine WC.seq ?_
  refine WC.seq ?_
  refine WC.region ?_
  refine WL.u rfl rfl (Wt.plain rfl) (Ex.assign rfl) ?_
  refine WL.next ?_
  refine WC.block ?_
  refine WC.loop (ι := Nat × Nat × Nat × (Array Value) × (List Int)) (fun (i, b39, cap39, cur39, nx) => [(0, vint n), (1, vint m), (3, vint k), (4, .slice (some ⟨bb, ob, none⟩) (pairsI h).length cap2), (12, vint (2 * n + 2 * m : Nat)), (13, vint (2 * n + 2 * k : Nat)), (14, vsl b39 nx.length cap39), (15, vint i)]) (fun (i, b39, cap39, cur39, nx) wn => Hp [] w wn [(b39, .cells cur39 3 (0, 0))] ∧ Own rInt cur39 cap39 nx ∧ LF nx (2 * n + 2 * m + i) (fun c => ((D.nxt c : Nat) : Int)) ∧ i ≤ (2 * n + 2 * k)) (fun (i, b39, cap39, cur39, nx) => (2 * n + 2 * k) - i) ((0, b39, cap39, cur39, pairsI g)) (by exact ⟨rfl, rfl, rfl, rfl, rfl, rfl, rfl, rfl, trivial⟩) ?_ ?_
  · exact ⟨hH, ho39, (LF.ofP g hpg.symm).to (fun c hc => by rw [J.nA c hc]), Nat.zero_le _⟩
  rintro ⟨i, b39, cap39, cur39, nx⟩ wn ⟨hH, ho39, hnx, hi⟩
  have hnxl := hnx.len
  intro mu0 hmu; try dsimp only at hmu
  show WC _ _ _ _ [(0, vint n), (1, vint m), (3, vint k), (4, .slice (some ⟨bb, ob, none⟩) (pairsI h).length cap2), (12, vint (2 * n + 2 * m : Nat)), (13, vint (2 * n + 2 * k : Nat)), (14, vsl b39 nx.length cap39), (15, vint i)] _
  refine WC.seq ?_
  refine WC.seq ?_
  refine WC.region ?_
  refine WL.u rfl rfl (Wt.plain rfl) (Ex.move rfl) ?_
  refine WL.u rfl rfl (Wt.plain rfl) (Ex.move rfl) ?_
  refine WL.u rfl rfl (Wt.plain rfl) (Ex.lss rfl rfl) ?_
  refine WL.next ?_
  refine WC.cond rfl (fun hc1 => ?_) (fun hc1 => ?_)
  · have hc1' := hc1; try simp only [decide_eq_true_eq, decide_eq_false_iff_not, Bool.not_eq_true', Bool.not_eq_false', Bool.not_eq_true, Bool.not_eq_false] at hc1'
    have hlt : i < 2 * n + 2 * k := by omega
    have hbv : (pairsI h).getD i 0 = ((way h i).2 : Int) := pairsI_get h (by omega)
    have hnb := J.nB i hlt
    have hwe := way_end hzh (p := i) (by omega)
    refine WC.skip ?_
    refine WN.next ?_
    refine WC.seq ?_
    refine WC.block ?_
    refine WC.region ?_
    refine WL.u rfl rfl (Wt.plain rfl) (Ex.move rfl) ?_
    refine WL.u rfl rfl (Wt.plain rfl) (Ex.move rfl) ?_
    refine WL.u rfl rfl (Wt.plain rfl) (Ex.move rfl) ?_
    refine WL.u rfl rfl (Wt.plain rfl) (Ex.indexAddr Try.underlying22 ty3 rfl rfl (by omega)) ?_
    refine WL.u rfl rfl (Wt.plain rfl) (Ex.loadSl flat3 (hb.kept hH.keep) rfl rfl (getD_get (pairsI h) i 0 (by omega))) ?_
    refine WL.u rfl rfl (Wt.plain rfl) (Ex.move rfl) ?_
    refine WL.u rfl rfl (Wt.plain rfl) ((Ex.add rfl rfl (by rw [hbv]; omega)).to (congrArg (Value.int IntKind.i64) (show _ = ((D.nxt (2 * n + 2 * m + i) : Nat) : Int) by rw [hbv, hnb]; omega))) ?_
    refine WL.append1 (r := rInt) (u := ((D.nxt (2 * n + 2 * m + i) : Nat) : Int)) Try.underlying22 ty3 rfl rfl (fun _ => rfl) (fun _ => rfl) rfl rfl (Wt.plain rfl) (fun _ => (Wt.plain rfl)) hH ho39 rfl (by omega) (by omega) (fun b39 cap39 cur39 wn x39 hb39 hk39 hH ho39 => ?_)
    refine WL.u rfl rfl (Wt.plain rfl) (Ex.assign rfl) ?_
    refine WL.last ?_
    refine WN.normalBlock ?_
    refine WN.next ?_
    refine WC.region ?_
    refine WL.u rfl rfl (Wt.plain rfl) (Ex.move rfl) ?_
    refine WL.u rfl rfl (Wt.plain rfl) (Ex.add rfl rfl (by omega)) ?_
    refine WL.u rfl rfl (Wt.plain rfl) (Ex.assign rfl) ?_
    refine WL.last ?_
    refine WN.round (i + 1, b39, cap39, cur39, nx ++ [((D.nxt (2 * n + 2 * m + i) : Nat) : Int)]) (by exact ⟨rfl, rfl, rfl, rfl, rfl, rfl, rfl, rfl, trivial⟩) ?_ ?_
    · exact ⟨hH, ho39, hnx.snoc rfl, by omega⟩
    · (try dsimp only); omega
  have hc1' := hc1; try simp only [decide_eq_true_eq, decide_eq_false_iff_not, Bool.not_eq_true', Bool.not_eq_false', Bool.not_eq_true, Bool.not_eq_false] at hc1'
  have hie : i = 2 * n + 2 * k := by omega
  replace hnx : LF nx D.T (fun c => ((D.nxt c : Nat) : Int)) := by rw [hT, ← hie]; exact hnx
  have hnxl2 := hnx.len
  refine WC.exit ?_
  refine WN.exitThen ?_
  refine WN.exitThen ?_
  refine WN.exitHere ?_
  refine WN.next ?_
  refine WC.seq ?_
  refine WC.region ?_
  refine WL.lit0 Try.underlying22 ty3 rfl (Wt.plain rfl) hH (fun b56 wn hb56 hk56 hH => ?_)
  have ho56 := Own.nil rInt
  refine WL.u rfl rfl (Wt.plain rfl) (Ex.assign rfl) ?_
  refine WL.next ?_
  refine WC.seq ?_
  refine WC.region ?_
  refine WL.lit0 Try.underlying22 ty3 rfl (Wt.plain rfl) hH (fun b57 wn hb57 hk57 hH => ?_)
  have ho57 := Own.nil rInt
  refine WL.u rfl rfl (Wt.plain rfl) (Ex.assign rfl) ?_
  refine WL.next ?_
  refine WC.seq ?_
  refine WC.seq ?_
  refine WC.region ?_
  refine WL.u rfl rfl (Wt.plain rfl) (Ex.assign rfl) ?_
  refine WL.next ?_
  refine WC.block ?_
  replace hH := hH.f1
  replace hH := hH.f2
  refine WC.loop (ι := Nat × Nat × Nat × (Array Value) × (List Int) × Nat × Nat × (Array Value) × (List Int)) (fun (i, b56, cap56, cur56, mt, b57, cap57, cur57, nl) => [(0, vint n), (1, vint m), (3, vint k), (12, vint (2 * n + 2 * m : Nat)), (13, vint (2 * n + 2 * k : Nat)), (14, vsl b39 nx.length cap39), (16, vsl b56 mt.length cap56), (17, vsl b57 nl.length cap57), (18, vint i)]) (fun (i, b56, cap56, cur56, mt, b57, cap57, cur57, nl) wn => Hp [] w wn [(b39, .cells cur39 3 (0, 0)), (b56, .cells cur56 3 (0, 0)), (b57, .cells cur57 3 (0, 0))] ∧ Own rInt cur56 cap56 mt ∧ Own rInt cur57 cap57 nl ∧ LF mt i (fun _ => -1) ∧ LF nl i (fun _ => -1) ∧ i ≤ (2 * n + 2 * m + (2 * n + 2 * k))) (fun (i, b56, cap56, cur56, mt, b57, cap57, cur57, nl) => (2 * n + 2 * m + (2 * n + 2 * k)) - i) ((0, b56, 0, #[], [], b57, 0, #[], [])) (by exact ⟨rfl, rfl, rfl, rfl, rfl, rfl, rfl, rfl, rfl, trivial⟩) ?_ ?_
  · exact ⟨hH, ho56, ho57, ⟨rfl, fun c hc => by omega⟩, ⟨rfl, fun c hc => by omega⟩, Nat.zero_le _⟩
  rintro ⟨i, b56, cap56, cur56, mt, b57, cap57, cur57, nl⟩ wn ⟨hH, ho56, ho57, hmt, hnm, hi⟩
  have hml := hmt.len
  have hnll := hnm.len
  intro mu0 hmu; try dsimp only at hmu
  show WC _ _ _ _ [(0, vint n), (1, vint m), (3, vint k), (12, vint (2 * n + 2 * m : Nat)), (13, vint (2 * n + 2 * k : Nat)), (14, vsl b39 nx.length cap39), (16, vsl b56 mt.length cap56), (17, vsl b57 nl.length cap57), (18, vint i)] _
  refine WC.seq ?_
  refine WC.seq ?_
  refine WC.region ?_
  refine WL.u rfl rfl (Wt.plain rfl) (Ex.move rfl) ?_
  refine WL.u rfl rfl (Wt.plain rfl) (Ex.move rfl) ?_
  refine WL.u rfl rfl (Wt.plain rfl) (Ex.move rfl) ?_
  refine WL.u rfl rfl (Wt.plain rfl) (Ex.add rfl rfl (by omega)) ?_
  refine WL.u rfl rfl (Wt.plain rfl) (Ex.lss rfl rfl) ?_
  refine WL.next ?_
  refine WC.cond rfl (fun hc2 => ?_) (fun hc2 => ?_)
  · have hc2' := hc2; try simp only [decide_eq_true_eq, decide_eq_false_iff_not, Bool.not_eq_true', Bool.not_eq_false', Bool.not_eq_true, Bool.not_eq_false] at hc2'
    refine WC.skip ?_
    refine WN.next ?_
    refine WC.seq ?_
    refine WC.block ?_
    refine WC.seq ?_
    refine WC.region ?_
    refine WL.u rfl rfl (Wt.plain rfl) (Ex.move rfl) ?_
    replace hH := hH.f1
    refine WL.append1 (r := rInt) (u := (-1 : Int)) Try.underlying22 ty3 rfl rfl (fun _ => rfl) (fun _ => rfl) rfl rfl (Wt.plain rfl) (fun _ => (Wt.plain rfl)) hH ho56 rfl (by omega) (by omega) (fun b56 cap56 cur56 wn x56 hb56 hk56 hH ho56 => ?_)
    refine WL.u rfl rfl (Wt.plain rfl) (Ex.assign rfl) ?_
    refine WL.next ?_
    refine WC.region ?_
    refine WL.u rfl rfl (Wt.plain rfl) (Ex.move rfl) ?_
    replace hH := hH.f2
    refine WL.append1 (r := rInt) (u := (-1 : Int)) Try.underlying22 ty3 rfl rfl (fun _ => rfl) (fun _ => rfl) rfl rfl (Wt.plain rfl) (fun _ => (Wt.plain rfl)) hH ho57 rfl (by omega) (by omega) (fun b57 cap57 cur57 wn x57 hb57 hk57 hH ho57 => ?_)
    refine WL.u rfl rfl (Wt.plain rfl) (Ex.assign rfl) ?_
    refine WL.last ?_
    refine WN.normalBlock ?_
    refine WN.next ?_
    refine WC.region ?_
    refine WL.u rfl rfl (Wt.plain rfl) (Ex.move rfl) ?_
    refine WL.u rfl rfl (Wt.plain rfl) (Ex.add rfl rfl (by omega)) ?_
    refine WL.u rfl rfl (Wt.plain rfl) (Ex.assign rfl) ?_
    refine WL.last ?_
    replace hH := hH.f1
    replace hH := hH.f2
    refine WN.round (i + 1, b56, cap56, cur56, mt ++ [-1], b57, cap57, cur57, nl ++ [-1]) (by exact ⟨rfl, rfl, rfl, rfl, rfl, rfl, rfl, rfl, rfl, trivial⟩) ?_ ?_
    · exact ⟨hH, ho56, ho57, hmt.snoc rfl, hnm.snoc rfl, by omega⟩
    · (try dsimp only); omega
  have hc2' := hc2; try simp only [decide_eq_true_eq, decide_eq_false_iff_not, Bool.not_eq_true', Bool.not_eq_false', Bool.not_eq_true, Bool.not_eq_false] at hc2'
  have hie : i = (2 * n + 2 * m + (2 * n + 2 * k)) := by omega
  rw [hie] at hmt hnm
  rw [hmt.len, hnm.len]
  refine WC.exit ?_
  refine WN.exitThen ?_
  refine WN.exitThen ?_
  refine WN.exitHere ?_
  refine WN.next ?_
  refine WC.seq ?_
  refine WC.seq ?_
  refine WC.region ?_
  refine WL.u rfl rfl (Wt.plain rfl) (Ex.assign rfl) ?_
  refine WL.next ?_
  refine WC.block ?_
  replace hH := hH.f2
  replace hH := hH.f2
  replace hH := hH.f2
  refine WC.loop (ι := Nat × (Array Value) × (List Int)) (fun (i, cur56, mt) => [(0, vint n), (1, vint m), (3, vint k), (12, vint (2 * n + 2 * m : Nat)), (13, vint (2 * n + 2 * k : Nat)), (14, vsl b39 nx.length cap39), (16, vsl b56 (2 * n + 2 * m + (2 * n + 2 * k)) cap56), (17, vsl b57 (2 * n + 2 * m + (2 * n + 2 * k)) cap57), (19, vint i)]) (fun (i, cur56, mt) wn => Hp [] w wn [(b39, .cells cur39 3 (0, 0)), (b56, .cells cur56 3 (0, 0)), (b57, .cells cur57 3 (0, 0))] ∧ Own rInt cur56 cap56 mt ∧ LF mt (2 * n + 2 * m + (2 * n + 2 * k)) (mtF n m k i) ∧ i ≤ n) (fun (i, cur56, mt) => n - i) ((0, cur56, mt)) (by exact ⟨rfl, rfl, rfl, rfl, rfl, rfl, rfl, rfl, rfl, trivial⟩) ?_ ?_
  · exact ⟨hH, ho56, hmt.to (fun c hc => by unfold mtF; rw [if_neg (by omega)]), Nat.zero_le _⟩
  rintro ⟨i, cur56, mt⟩ wn ⟨hH, ho56, hmt, hi⟩
  have hml := hmt.len
  intro mu0 hmu; try dsimp only at hmu
  show WC _ _ _ _ [(0, vint n), (1, vint m), (3, vint k), (12, vint (2 * n + 2 * m : Nat)), (13, vint (2 * n + 2 * k : Nat)), (14, vsl b39 nx.length cap39), (16, vsl b56 (2 * n + 2 * m + (2 * n + 2 * k)) cap56), (17, vsl b57 (2 * n + 2 * m + (2 * n + 2 * k)) cap57), (19, vint i)] _
  refine WC.seq ?_
  refine WC.seq ?_
  refine WC.region ?_
  refine WL.u rfl rfl (Wt.plain rfl) (Ex.move rfl) ?_
  refine WL.u rfl rfl (Wt.plain rfl) (Ex.move rfl) ?_
  refine WL.u rfl rfl (Wt.plain rfl) (Ex.lss rfl rfl) ?_
  refine WL.next ?_
  refine WC.cond rfl (fun hc3 => ?_) (fun hc3 => ?_)
  · have hc3' := hc3; try simp only [decide_eq_true_eq, decide_eq_false_iff_not, Bool.not_eq_true', Bool.not_eq_false', Bool.not_eq_true, Bool.not_eq_false] at hc3'
    have hlt : i < n := by omega
    refine WC.skip ?_
    refine WN.next ?_
    refine WC.seq ?_
    refine WC.block ?_
    refine WC.seq ?_
    refine WC.region ?_
    refine WL.u rfl rfl (Wt.plain rfl) (Ex.move rfl) ?_
    refine WL.u rfl rfl (Wt.plain rfl) (Ex.move rfl) ?_
    refine WL.u rfl rfl (Wt.plain rfl) ((Ex.add rfl rfl (by omega)).to (congrArg (Value.int IntKind.i64) (show _ = ((m + i : Nat) : Int) by omega))) ?_
    refine WL.u rfl rfl (Wt.plain rfl) (Ex.assign rfl) ?_
    refine WL.next ?_
    refine WC.seq ?_
    refine WC.region ?_
    refine WL.u rfl rfl (Wt.plain rfl) (Ex.move rfl) ?_
    refine WL.u rfl rfl (Wt.plain rfl) (Ex.move rfl) ?_
    refine WL.u rfl rfl (Wt.plain rfl) (Ex.add rfl rfl (by omega)) ?_
    refine WL.u rfl rfl (Wt.plain rfl) (Ex.sub rfl rfl (by omega)) ?_
    refine WL.u rfl rfl (Wt.plain rfl) (Ex.move rfl) ?_
    refine WL.u rfl rfl (Wt.plain rfl) ((Ex.sub rfl rfl (by omega)).to (congrArg (Value.int IntKind.i64) (show _ = (((2 * n + 2 * m + (2 * n + 2 * k)) - 1 - i : Nat) : Int) by omega))) ?_
    refine WL.u rfl rfl (Wt.plain rfl) (Ex.assign rfl) ?_
    refine WL.next ?_
    refine WC.seq ?_
    refine WC.region ?_
    refine WL.u rfl rfl (Wt.plain rfl) (Ex.move rfl) ?_
    refine WL.u rfl rfl (Wt.plain rfl) (Ex.move rfl) ?_
    refine WL.u rfl rfl (Wt.plain rfl) (Ex.move rfl) ?_
    refine WL.u rfl rfl (Wt.plain rfl) (Ex.indexAddr Try.underlying22 ty3 rfl rfl (by omega)) ?_
    replace hH := hH.f1
    refine WL.store1 ty3 rfl rfl rfl (Wt.plain rfl) hH (ho56.idx rfl (by omega)) (by simp) (fun wn hk hH => ?_)
    replace ho56 := ho56.set rfl (m + i) (((2 * n + 2 * m + (2 * n + 2 * k)) - 1 - i : Nat) : Int)
    refine WL.next ?_
    refine WC.region ?_
    refine WL.u rfl rfl (Wt.plain rfl) (Ex.move rfl) ?_
    refine WL.u rfl rfl (Wt.plain rfl) (Ex.move rfl) ?_
    refine WL.u rfl rfl (Wt.plain rfl) (Ex.move rfl) ?_
    refine WL.u rfl rfl (Wt.plain rfl) (Ex.indexAddr Try.underlying22 ty3 rfl rfl (by omega)) ?_
    refine WL.store1 ty3 rfl rfl rfl (Wt.plain rfl) hH (ho56.idx rfl (by rw [List.length_set]; omega)) (by simp) (fun wn hk hH => ?_)
    replace ho56 := ho56.set rfl ((2 * n + 2 * m + (2 * n + 2 * k)) - 1 - i) ((m + i : Nat) : Int)
    refine WL.last ?_
    refine WN.normalBlock ?_
    refine WN.next ?_
    refine WC.region ?_
    refine WL.u rfl rfl (Wt.plain rfl) (Ex.move rfl) ?_
    refine WL.u rfl rfl (Wt.plain rfl) (Ex.add rfl rfl (by omega)) ?_
    refine WL.u rfl rfl (Wt.plain rfl) (Ex.assign rfl) ?_
    refine WL.last ?_
    replace hH := hH.f2
    replace hH := hH.f1
    replace hH := hH.f2
    refine WN.round (i + 1, (cur56.setIfInBounds (0 + ((m + i : Nat) : Int).toNat * 1) (rInt.val (((2 * n + 2 * m + (2 * n + 2 * k)) - 1 - i : Nat) : Int))).setIfInBounds (0 + (((2 * n + 2 * m + (2 * n + 2 * k)) - 1 - i : Nat) : Int).toNat * 1) (rInt.val ((m + i : Nat) : Int)), (mt.set (m + i) (((2 * n + 2 * m + (2 * n + 2 * k)) - 1 - i : Nat) : Int)).set ((2 * n + 2 * m + (2 * n + 2 * k)) - 1 - i) ((m + i : Nat) : Int)) (by exact ⟨rfl, rfl, rfl, rfl, rfl, rfl, rfl, rfl, rfl, trivial⟩) ?_ ?_
    · exact ⟨hH, ho56, mtF_step hmt rfl (by omega), by omega⟩
    · (try dsimp only); omega
  have hc3' := hc3; try simp only [decide_eq_true_eq, decide_eq_false_iff_not, Bool.not_eq_true', Bool.not_eq_false', Bool.not_eq_true, Bool.not_eq_false] at hc3'
  have hie : i = n := by omega
  rw [hie] at hmt
  have hmate := J.mate (l := mt) (by rw [hT]; exact hmt)
  refine WC.exit ?_
  refine WN.exitThen ?_
  refine WN.exitThen ?_
  refine WN.exitHere ?_
  refine WN.next ?_
  refine WC.seq ?_
  refine WC.region ?_
  refine WL.u rfl rfl (Wt.plain rfl) (Ex.assign rfl) ?_
  refine WL.next ?_
  refine WC.seq ?_
  refine WC.seq ?_
  refine WC.region ?_
  refine WL.u rfl rfl (Wt.plain rfl) (Ex.assign rfl) ?_
  refine WL.next ?_
  refine WC.block ?_
  replace hH := hH.f2
  replace hH := hH.f2
  replace hH := hH.f2
  refine WC.loop (ι := Nat × (Array Value) × (List Int)) (fun (i, cur57, nl) => [(0, vint n), (1, vint m), (3, vint k), (12, vint (2 * n + 2 * m : Nat)), (13, vint (2 * n + 2 * k : Nat)), (14, vsl b39 nx.length cap39), (16, vsl b56 (2 * n + 2 * m + (2 * n + 2 * k)) cap56), (17, vsl b57 (2 * n + 2 * m + (2 * n + 2 * k)) cap57), (22, vint i), (23, vint i)]) (fun (i, cur57, nl) wn => Hp [] w wn [(b39, .cells cur39 3 (0, 0)), (b56, .cells cur56 3 (0, 0)), (b57, .cells cur57 3 (0, 0))] ∧ Own rInt cur57 cap57 nl ∧ LF nl (2 * n + 2 * m + (2 * n + 2 * k)) (nmF n m k i 0 0) ∧ i ≤ m) (fun (i, cur57, nl) => m - i) ((0, cur57, nl)) (by exact ⟨rfl, rfl, rfl, rfl, rfl, rfl, rfl, rfl, rfl, rfl, trivial⟩) ?_ ?_
  · exact ⟨hH, ho57, hnm.to (fun c hc => by unfold nmF; (repeat' split) <;> omega), Nat.zero_le _⟩
  rintro ⟨i, cur57, nl⟩ wn ⟨hH, ho57, hnm, hi⟩
  have hnll := hnm.len
  intro mu0 hmu; try dsimp only at hmu
  show WC _ _ _ _ [(0, vint n), (1, vint m), (3, vint k), (12, vint (2 * n + 2 * m : Nat)), (13, vint (2 * n + 2 * k : Nat)), (14, vsl b39 nx.length cap39), (16, vsl b56 (2 * n + 2 * m + (2 * n + 2 * k)) cap56), (17, vsl b57 (2 * n + 2 * m + (2 * n + 2 * k)) cap57), (22, vint i), (23, vint i)] _
  refine WC.seq ?_
  refine WC.seq ?_
  refine WC.region ?_
  refine WL.u rfl rfl (Wt.plain rfl) (Ex.move rfl) ?_
  refine WL.u rfl rfl (Wt.plain rfl) (Ex.move rfl) ?_
  refine WL.u rfl rfl (Wt.plain rfl) (Ex.lss rfl rfl) ?_
  refine WL.next ?_
  refine WC.cond rfl (fun hc4 => ?_) (fun hc4 => ?_)
  · have hc4' := hc4; try simp only [decide_eq_true_eq, decide_eq_false_iff_not, Bool.not_eq_true', Bool.not_eq_false', Bool.not_eq_true, Bool.not_eq_false] at hc4'
    have hlt : i < m := by omega
    refine WC.skip ?_
    refine WN.next ?_
    refine WC.seq ?_
    refine WC.block ?_
    refine WC.seq ?_
    refine WC.region ?_
    refine WL.u rfl rfl (Wt.plain rfl) (Ex.move rfl) ?_
    refine WL.u rfl rfl (Wt.plain rfl) (Ex.move rfl) ?_
    refine WL.u rfl rfl (Wt.plain rfl) (Ex.move rfl) ?_
    refine WL.u rfl rfl (Wt.plain rfl) (Ex.indexAddr Try.underlying22 ty3 rfl rfl (by omega)) ?_
    replace hH := hH.f2
    refine WL.store1 ty3 rfl rfl rfl (Wt.plain rfl) hH (ho57.idx rfl (by omega)) (by simp) (fun wn hk hH => ?_)
    replace ho57 := ho57.set rfl i (i : Int)
    refine WL.next ?_
    refine WC.region ?_
    refine WL.u rfl rfl (Wt.plain rfl) (Ex.move rfl) ?_
    refine WL.u rfl rfl (Wt.plain rfl) (Ex.add rfl rfl (by omega)) ?_
    refine WL.u rfl rfl (Wt.plain rfl) (Ex.assign rfl) ?_
    refine WL.last ?_
    refine WN.normalBlock ?_
    refine WN.next ?_
    refine WC.region ?_
    refine WL.u rfl rfl (Wt.plain rfl) (Ex.move rfl) ?_
    refine WL.u rfl rfl (Wt.plain rfl) (Ex.add rfl rfl (by omega)) ?_
    refine WL.u rfl rfl (Wt.plain rfl) (Ex.assign rfl) ?_
    refine WL.last ?_
    replace hH := hH.f2
    replace hH := hH.f2
    refine WN.round (i + 1, cur57.setIfInBounds (0 + (i : Int).toNat * 1) (rInt.val (i : Int)), nl.set i (i : Int)) (by exact ⟨rfl, rfl, rfl, rfl, rfl, rfl, rfl, rfl, rfl, rfl, trivial⟩) ?_ ?_
    · exact ⟨hH, ho57, nmF_1 hnm rfl (by omega), by omega⟩
    · (try dsimp only); omega
  have hc4' := hc4; try simp only [decide_eq_true_eq, decide_eq_false_iff_not, Bool.not_eq_true', Bool.not_eq_false', Bool.not_eq_true, Bool.not_eq_false] at hc4'
  have hie : i = m := by omega
  rw [hie] at hnm
  rw [hie]
  refine WC.exit ?_
  refine WN.exitThen ?_
  refine WN.exitThen ?_
  refine WN.exitHere ?_
  refine WN.next ?_
  refine WC.seq ?_
  refine WC.seq ?_
  refine WC.region ?_
  refine WL.u rfl rfl (Wt.plain rfl) (Ex.assign rfl) ?_
  refine WL.next ?_
  refine WC.block ?_
  replace hH := hH.f2
  replace hH := hH.f2
  replace hH := hH.f2
  refine WC.loop (ι := Nat × (Array Value) × (List Int)) (fun (i, cur57, nl) => [(0, vint n), (1, vint m), (3, vint k), (12, vint (2 * n + 2 * m : Nat)), (13, vint (2 * n + 2 * k : Nat)), (14, vsl b39 nx.length cap39), (16, vsl b56 (2 * n + 2 * m + (2 * n + 2 * k)) cap56), (17, vsl b57 (2 * n + 2 * m + (2 * n + 2 * k)) cap57), (22, vint (m + i : Nat)), (24, vint i)]) (fun (i, cur57, nl) wn => Hp [] w wn [(b39, .cells cur39 3 (0, 0)), (b56, .cells cur56 3 (0, 0)), (b57, .cells cur57 3 (0, 0))] ∧ Own rInt cur57 cap57 nl ∧ LF nl (2 * n + 2 * m + (2 * n + 2 * k)) (nmF n m k m i 0) ∧ i ≤ 2 * k + n) (fun (i, cur57, nl) => 2 * k + n - i) ((0, cur57, nl)) (by exact ⟨rfl, rfl, rfl, rfl, rfl, rfl, rfl, rfl, rfl, rfl, trivial⟩) ?_ ?_
  · exact ⟨hH, ho57, hnm, Nat.zero_le _⟩
  rintro ⟨i, cur57, nl⟩ wn ⟨hH, ho57, hnm, hi⟩
  have hnll := hnm.len
  intro mu0 hmu; try dsimp only at hmu
  show WC _ _ _ _ [(0, vint n), (1, vint m), (3, vint k), (12, vint (2 * n + 2 * m : Nat)), (13, vint (2 * n + 2 * k : Nat)), (14, vsl b39 nx.length cap39), (16, vsl b56 (2 * n + 2 * m + (2 * n + 2 * k)) cap56), (17, vsl b57 (2 * n + 2 * m + (2 * n + 2 * k)) cap57), (22, vint (m + i : Nat)), (24, vint i)] _
  refine WC.seq ?_
  refine WC.seq ?_
  refine WC.region ?_
  refine WL.u rfl rfl (Wt.plain rfl) (Ex.move rfl) ?_
  refine WL.u rfl rfl (Wt.plain rfl) (Ex.move rfl) ?_
  refine WL.u rfl rfl (Wt.plain rfl) (Ex.mul rfl rfl (by omega)) ?_
  refine WL.u rfl rfl (Wt.plain rfl) (Ex.move rfl) ?_
  refine WL.u rfl rfl (Wt.plain rfl) (Ex.add rfl rfl (by omega)) ?_
  refine WL.u rfl rfl (Wt.plain rfl) (Ex.lss rfl rfl) ?_
  refine WL.next ?_
  refine WC.cond rfl (fun hc5 => ?_) (fun hc5 => ?_)
  · have hc5' := hc5; try simp only [decide_eq_true_eq, decide_eq_false_iff_not, Bool.not_eq_true', Bool.not_eq_false', Bool.not_eq_true, Bool.not_eq_false] at hc5'
    have hlt : i < 2 * k + n := by omega
    refine WC.skip ?_
    refine WN.next ?_
    refine WC.seq ?_
    refine WC.block ?_
    refine WC.seq ?_
    refine WC.region ?_
    refine WL.u rfl rfl (Wt.plain rfl) (Ex.move rfl) ?_
    refine WL.u rfl rfl (Wt.plain rfl) (Ex.move rfl) ?_
    refine WL.u rfl rfl (Wt.plain rfl) (Ex.move rfl) ?_
    refine WL.u rfl rfl (Wt.plain rfl) ((Ex.add rfl rfl (by omega)).to (congrArg (Value.int IntKind.i64) (show _ = ((2 * n + 2 * m + i : Nat) : Int) by omega))) ?_
    refine WL.u rfl rfl (Wt.plain rfl) (Ex.move rfl) ?_
    refine WL.u rfl rfl (Wt.plain rfl) (Ex.indexAddr Try.underlying22 ty3 rfl rfl (by omega)) ?_
    replace hH := hH.f2
    refine WL.store1 ty3 rfl rfl rfl (Wt.plain rfl) hH (ho57.idx rfl (by omega)) (by simp) (fun wn hk hH => ?_)
    replace ho57 := ho57.set rfl (2 * n + 2 * m + i) ((m + i : Nat) : Int)
    refine WL.next ?_
    refine WC.region ?_
    refine WL.u rfl rfl (Wt.plain rfl) (Ex.move rfl) ?_
    refine WL.u rfl rfl (Wt.plain rfl) (Ex.add rfl rfl (by omega)) ?_
    refine WL.u rfl rfl (Wt.plain rfl) (Ex.assign rfl) ?_
    refine WL.last ?_
    refine WN.normalBlock ?_
    refine WN.next ?_
    refine WC.region ?_
    refine WL.u rfl rfl (Wt.plain rfl) (Ex.move rfl) ?_
    refine WL.u rfl rfl (Wt.plain rfl) (Ex.add rfl rfl (by omega)) ?_
    refine WL.u rfl rfl (Wt.plain rfl) (Ex.assign rfl) ?_
    refine WL.last ?_
    replace hH := hH.f2
    replace hH := hH.f2
    refine WN.round (i + 1, cur57.setIfInBounds (0 + ((2 * n + 2 * m + i : Nat) : Int).toNat * 1) (rInt.val ((m + i : Nat) : Int)), nl.set (2 * n + 2 * m + i) ((m + i : Nat) : Int)) (by exact ⟨rfl, rfl, rfl, rfl, rfl, rfl, rfl, rfl, rfl, rfl, trivial⟩) ?_ ?_
    · exact ⟨hH, ho57, nmF_2 hnm rfl (by omega), by omega⟩
    · (try dsimp only); omega
  have hc5' := hc5; try simp only [decide_eq_true_eq, decide_eq_false_iff_not, Bool.not_eq_true', Bool.not_eq_false', Bool.not_eq_true, Bool.not_eq_false] at hc5'
  have hie : i = 2 * k + n := by omega
  rw [hie] at hnm
  rw [hie, show m + (2 * k + n) = m + n + 2 * k by omega]
  refine WC.exit ?_
  refine WN.exitThen ?_
  refine WN.exitThen ?_
  refine WN.exitHere ?_
  refine WN.next ?_
  refine WC.seq ?_
  refine WC.seq ?_
  refine WC.region ?_
  refine WL.u rfl rfl (Wt.plain rfl) (Ex.move rfl) ?_
  refine WL.u rfl rfl (Wt.plain rfl) (Ex.move rfl) ?_
  refine WL.u rfl rfl (Wt.plain rfl) ((Ex.add rfl rfl (by omega)).to (congrArg (Value.int IntKind.i64) (show _ = ((m + n : Nat) : Int) by omega))) ?_
  refine WL.u rfl rfl (Wt.plain rfl) (Ex.assign rfl) ?_
  refine WL.next ?_
  refine WC.block ?_
  replace hH := hH.f2
  replace hH := hH.f2
  replace hH := hH.f2
  refine WC.loop (ι := Nat × (Array Value) × (List Int)) (fun (i, cur57, nl) => [(0, vint n), (1, vint m), (3, vint k), (12, vint (2 * n + 2 * m : Nat)), (13, vint (2 * n + 2 * k : Nat)), (14, vsl b39 nx.length cap39), (16, vsl b56 (2 * n + 2 * m + (2 * n + 2 * k)) cap56), (17, vsl b57 (2 * n + 2 * m + (2 * n + 2 * k)) cap57), (22, vint (i + 2 * k : Nat)), (25, vint i)]) (fun (i, cur57, nl) wn => Hp [] w wn [(b39, .cells cur39 3 (0, 0)), (b56, .cells cur56 3 (0, 0)), (b57, .cells cur57 3 (0, 0))] ∧ Own rInt cur57 cap57 nl ∧ LF nl (2 * n + 2 * m + (2 * n + 2 * k)) (nmF n m k m (2 * k + n) i) ∧ m + n ≤ i ∧ i ≤ (2 * n + 2 * m)) (fun (i, cur57, nl) => (2 * n + 2 * m) - i) ((m + n, cur57, nl)) (by exact ⟨rfl, rfl, rfl, rfl, rfl, rfl, rfl, rfl, rfl, rfl, trivial⟩) ?_ ?_
  · exact ⟨hH, ho57, hnm.to (fun c hc => by unfold nmF; (repeat' split) <;> omega), by omega, by omega⟩
  rintro ⟨i, cur57, nl⟩ wn ⟨hH, ho57, hnm, hji, hi⟩
  have hnll := hnm.len
  intro mu0 hmu; try dsimp only at hmu
  show WC _ _ _ _ [(0, vint n), (1, vint m), (3, vint k), (12, vint (2 * n + 2 * m : Nat)), (13, vint (2 * n + 2 * k : Nat)), (14, vsl b39 nx.length cap39), (16, vsl b56 (2 * n + 2 * m + (2 * n + 2 * k)) cap56), (17, vsl b57 (2 * n + 2 * m + (2 * n + 2 * k)) cap57), (22, vint (i + 2 * k : Nat)), (25, vint i)] _
  refine WC.seq ?_
  refine WC.seq ?_
  refine WC.region ?_
  refine WL.u rfl rfl (Wt.plain rfl) (Ex.move rfl) ?_
  refine WL.u rfl rfl (Wt.plain rfl) (Ex.move rfl) ?_
  refine WL.u rfl rfl (Wt.plain rfl) (Ex.lss rfl rfl) ?_
  refine WL.next ?_
  refine WC.cond rfl (fun hc6 => ?_) (fun hc6 => ?_)
  · have hc6' := hc6; try simp only [decide_eq_true_eq, decide_eq_false_iff_not, Bool.not_eq_true', Bool.not_eq_false', Bool.not_eq_true, Bool.not_eq_false] at hc6'
    have hlt : i < 2 * n + 2 * m := by omega
    refine WC.skip ?_
    refine WN.next ?_
    refine WC.seq ?_
    refine WC.block ?_
    refine WC.seq ?_
    refine WC.region ?_
    refine WL.u rfl rfl (Wt.plain rfl) (Ex.move rfl) ?_
    refine WL.u rfl rfl (Wt.plain rfl) (Ex.move rfl) ?_
    refine WL.u rfl rfl (Wt.plain rfl) (Ex.move rfl) ?_
    refine WL.u rfl rfl (Wt.plain rfl) (Ex.indexAddr Try.underlying22 ty3 rfl rfl (by omega)) ?_
    replace hH := hH.f2
    refine WL.store1 ty3 rfl rfl rfl (Wt.plain rfl) hH (ho57.idx rfl (by omega)) (by simp) (fun wn hk hH => ?_)
    replace ho57 := ho57.set rfl i ((i + 2 * k : Nat) : Int)
    refine WL.next ?_
    refine WC.region ?_
    refine WL.u rfl rfl (Wt.plain rfl) (Ex.move rfl) ?_
    refine WL.u rfl rfl (Wt.plain rfl) (Ex.add rfl rfl (by omega)) ?_
    refine WL.u rfl rfl (Wt.plain rfl) (Ex.assign rfl) ?_
    refine WL.last ?_
    refine WN.normalBlock ?_
    refine WN.next ?_
    refine WC.region ?_
    refine WL.u rfl rfl (Wt.plain rfl) (Ex.move rfl) ?_
    refine WL.u rfl rfl (Wt.plain rfl) (Ex.add rfl rfl (by omega)) ?_
    refine WL.u rfl rfl (Wt.plain rfl) (Ex.assign rfl) ?_
    refine WL.last ?_
    replace hH := hH.f2
    replace hH := hH.f2
    refine WN.round (i + 1, cur57.setIfInBounds (0 + (i : Int).toNat * 1) (rInt.val ((i + 2 * k : Nat) : Int)), nl.set i ((i + 2 * k : Nat) : Int)) (by exact ⟨rfl, rfl, rfl, rfl, rfl, rfl, rfl, rfl, congrArg (fun x : Int => some (vint x)) (show _ = ((i + 1 + 2 * k : Nat) : Int) by omega), rfl, trivial⟩) ?_ ?_
    · exact ⟨hH, ho57, nmF_3 hnm rfl (by omega) hji, by omega, by omega⟩
    · (try dsimp only); omega
  have hc6' := hc6; try simp only [decide_eq_true_eq, decide_eq_false_iff_not, Bool.not_eq_true', Bool.not_eq_false', Bool.not_eq_true, Bool.not_eq_false] at hc6'
  have hie : i = 2 * n + 2 * m := by omega
  rw [hie] at hnm
  rw [hie]
  have hname := J.name (l := nl) (by rw [hT]; exact hnm)
  refine WC.exit ?_
  refine WN.exitThen ?_
  refine WN.exitThen ?_
  refine WN.exitHere ?_
  refine WN.next ?_
  refine WC.seq ?_
  refine WC.region ?_
  refine WL.u rfl rfl (Wt.plain rfl) (Ex.move rfl) ?_
  refine WL.makeSlice Try.underlying22 ty3 rfl rfl (by omega) (by omega) rfl (Wt.plain rfl) hH (fun b135 wn hb135 hk135 hH => ?_)
  have ho135 := Own.made rInt (z := vint 0) 0 rfl rfl (k := (2 * n + 2 * m + 2 * k)) (by omega)
  refine WL.u rfl rfl (Wt.plain rfl) (Ex.assign rfl) ?_
  refine WL.next ?_
  refine WC.seq ?_
  refine WC.region ?_
  refine WL.u rfl rfl (Wt.plain rfl) (Ex.move rfl) ?_
  refine WL.u rfl rfl (Wt.plain rfl) (Ex.move rfl) ?_
  refine WL.u rfl rfl (Wt.plain rfl) ((Ex.add rfl rfl (by omega)).to (congrArg (Value.int IntKind.i64) (show _ = (((2 * n + 2 * m + (2 * n + 2 * k)) : Nat) : Int) by omega))) ?_
  refine WL.makeSlice Try.underlying51 ty4 rfl rfl (by omega) (by omega) rfl (Wt.plain rfl) hH (fun b139 wn hb139 hk139 hH => ?_)
  have ho139 := Own.made rBool (z := .bool false) false rfl rfl (k := (2 * n + 2 * m + (2 * n + 2 * k))) (by omega)
  refine WL.u rfl rfl (Wt.plain rfl) (Ex.assign rfl) ?_
  refine WL.next ?_
  refine WC.seq ?_
  refine WC.seq ?_
  refine WC.region ?_
  refine WL.u rfl rfl (Wt.plain rfl) (Ex.assign rfl) ?_
  refine WL.next ?_
  refine WC.block ?_
  replace hH := hH.f1
  replace hH := hH.f4
  replace hH := hH.f4
  replace hH := hH.f4
  refine WC.loop (ι := Nat × (Array Value) × (List Int) × (Array Value) × (List Bool)) (fun (i, cur135, out, cur139, sn) => [(12, vint (2 * n + 2 * m : Nat)), (13, vint (2 * n + 2 * k : Nat)), (14, vsl b39 nx.length cap39), (16, vsl b56 (2 * n + 2 * m + (2 * n + 2 * k)) cap56), (17, vsl b57 (2 * n + 2 * m + (2 * n + 2 * k)) cap57), (26, vsl b135 (2 * n + 2 * m + 2 * k) (2 * n + 2 * m + 2 * k)), (27, vsl b139 (2 * n + 2 * m + (2 * n + 2 * k)) (2 * n + 2 * m + (2 * n + 2 * k))), (28, vint i)]) (fun (i, cur135, out, cur139, sn) wn => Hp [] w wn [(b39, .cells cur39 3 (0, 0)), (b56, .cells cur56 3 (0, 0)), (b57, .cells cur57 3 (0, 0)), (b135, .cells cur135 3 (0, 0)), (b139, .cells cur139 4 (0, 0))] ∧ Own rInt cur135 (2 * n + 2 * m + 2 * k) out ∧ out.length = (2 * n + 2 * m + 2 * k) ∧ Own rBool cur139 (2 * n + 2 * m + (2 * n + 2 * k)) sn ∧ sn.length = (2 * n + 2 * m + (2 * n + 2 * k)) ∧ D.BI (fun c => sn.getD c false) i ∧ (∀ c0, c0 < i → D.isM c0 = false → out.getD (D.nm c0) 0 = ((way D.G (D.nm c0)).2 : Int)) ∧ i ≤ (2 * n + 2 * m + (2 * n + 2 * k))) (fun (i, cur135, out, cur139, sn) => (2 * n + 2 * m + (2 * n + 2 * k)) - i) ((0, madeCells (vint 0).cells ((2 * n + 2 * m + 2 * k) * 1), List.replicate (2 * n + 2 * m + 2 * k) 0, madeCells (.bool false : Value).cells ((2 * n + 2 * m + (2 * n + 2 * k)) * 1), List.replicate (2 * n + 2 * m + (2 * n + 2 * k)) false)) (by exact ⟨rfl, rfl, rfl, rfl, rfl, rfl, rfl, rfl, trivial⟩) ?_ ?_
  · exact ⟨hH, ho135, by simp, ho139, by simp, no_marks D _, fun c0 h => by omega, Nat.zero_le _⟩
  rintro ⟨i, cur135, out, cur139, sn⟩ wn ⟨hH, ho135, hol, ho139, hsl, hB, hO, hi⟩
  intro mu0 hmu; try dsimp only at hmu
  show WC _ _ _ _ [(12, vint (2 * n + 2 * m : Nat)), (13, vint (2 * n + 2 * k : Nat)), (14, vsl b39 nx.length cap39), (16, vsl b56 (2 * n + 2 * m + (2 * n + 2 * k)) cap56), (17, vsl b57 (2 * n + 2 * m + (2 * n + 2 * k)) cap57), (26, vsl b135 (2 * n + 2 * m + 2 * k) (2 * n + 2 * m + 2 * k)), (27, vsl b139 (2 * n + 2 * m + (2 * n + 2 * k)) (2 * n + 2 * m + (2 * n + 2 * k))), (28, vint i)] _
  refine WC.seq ?_
  refine WC.seq ?_
  refine WC.region ?_
  refine WL.u rfl rfl (Wt.plain rfl) (Ex.move rfl) ?_
  refine WL.u rfl rfl (Wt.plain rfl) (Ex.move rfl) ?_
  refine WL.u rfl rfl (Wt.plain rfl) (Ex.move rfl) ?_
  refine WL.u rfl rfl (Wt.plain rfl) (Ex.add rfl rfl (by omega)) ?_
  refine WL.u rfl rfl (Wt.plain rfl) (Ex.lss rfl rfl) ?_
  refine WL.next ?_
  refine WC.cond rfl (fun hc7 => ?_) (fun hc7 => ?_)
  · have hc7' := hc7; try simp only [decide_eq_true_eq, decide_eq_false_iff_not, Bool.not_eq_true', Bool.not_eq_false', Bool.not_eq_true, Bool.not_eq_false] at hc7'
    have hlt : i < (2 * n + 2 * m + (2 * n + 2 * k)) := by omega
    have hiT : i < D.T := by omega
    refine WC.skip ?_
    refine WN.next ?_
    refine WC.seq ?_
    refine WC.block ?_
    refine WC.seq ?_
    refine WC.seq ?_
    refine WC.region ?_
    refine WL.u rfl rfl (Wt.plain rfl) (Ex.move rfl) ?_
    refine WL.u rfl rfl (Wt.plain rfl) (Ex.move rfl) ?_
    refine WL.u rfl rfl (Wt.plain rfl) (Ex.indexAddr Try.underlying22 ty3 rfl rfl (by omega)) ?_
    replace hH := hH.f2
    refine WL.u rfl rfl (Wt.plain rfl) (Ex.loadHp flat3 rfl hH (ho57.get rfl (getD_get nl i 0 (by omega)))) ?_
    refine WL.u rfl rfl (Wt.plain rfl) (Ex.lss rfl rfl) ?_
    refine WL.next ?_
    refine WC.cond rfl (fun hc8 => ?_) (fun hc8 => ?_)
    · have hc8' := hc8; try simp only [decide_eq_true_eq, decide_eq_false_iff_not, Bool.not_eq_true', Bool.not_eq_false', Bool.not_eq_true, Bool.not_eq_false] at hc8'
      have hmi : D.isM i = true := by
        cases e : D.isM i with
        | true => rfl
        | false => have := (hname i hiT).1 e; omega
      refine WC.exit ?_
      refine WN.exitThen ?_
      refine WN.exitHere ?_
      refine WN.next ?_
      refine WC.region ?_
      refine WL.u rfl rfl (Wt.plain rfl) (Ex.move rfl) ?_
      refine WL.u rfl rfl (Wt.plain rfl) (Ex.add rfl rfl (by omega)) ?_
      refine WL.u rfl rfl (Wt.plain rfl) (Ex.assign rfl) ?_
      refine WL.last ?_
      replace hH := hH.f4
      replace hH := hH.f4
      replace hH := hH.f2
      replace hH := hH.f4
      replace hH := hH.f4
      refine WN.round (i + 1, cur135, out, cur139, sn) (by exact ⟨rfl, rfl, rfl, rfl, rfl, rfl, rfl, rfl, trivial⟩) ?_ ?_
      · exact ⟨hH, ho135, hol, ho139, hsl, hB.next (fun e => by rw [hmi] at e; cases e), fun c0 h1 h2 => (by
          rcases Nat.lt_succ_iff_lt_or_eq.1 h1 with h3 | h3
          · exact hO c0 h3 h2
          · rw [h3, hmi] at h2; exact absurd h2 (by decide)), by omega⟩
      · (try dsimp only); omega
    have hc8' := hc8; try simp only [decide_eq_true_eq, decide_eq_false_iff_not, Bool.not_eq_true', Bool.not_eq_false', Bool.not_eq_true, Bool.not_eq_false] at hc8'
    have hmi : D.isM i = false := by
      cases e : D.isM i with
      | false => rfl
      | true => have := (hname i hiT).2 e; omega
    obtain ⟨nm1, nm2⟩ := hw.nmO i hiT hmi
    have hni := (hname i hiT).1 hmi
    have hnxi : nx.getD i 0 = ((D.nxt i : Nat) : Int) := hnx.get i hiT
    refine WC.skip ?_
    refine WN.next ?_
    refine WC.seq ?_
    refine WC.region ?_
    refine WL.u rfl rfl (Wt.plain rfl) (Ex.move rfl) ?_
    refine WL.u rfl rfl (Wt.plain rfl) (Ex.move rfl) ?_
    refine WL.u rfl rfl (Wt.plain rfl) (Ex.indexAddr Try.underlying22 ty3 rfl rfl (by omega)) ?_
    replace hH := hH.f1
    refine WL.u rfl rfl (Wt.plain rfl) (Ex.loadHp flat3 rfl hH (ho39.get rfl (getD_get nx i 0 (by omega)))) ?_
    rw [hnxi]
    refine WL.u rfl rfl (Wt.plain rfl) (Ex.assign rfl) ?_
    refine WL.next ?_
    refine WC.seq ?_
    refine WC.block ?_
    replace hH := hH.f4
    replace hH := hH.f4
    replace hH := hH.f3
    replace hH := hH.f4
    replace hH := hH.f4
    refine WC.loop (ι := Nat × (List (Nat × Nat)) × (Array Value) × (List Bool)) (fun (y, L, cur139, sn) => [(12, vint (2 * n + 2 * m : Nat)), (13, vint (2 * n + 2 * k : Nat)), (14, vsl b39 nx.length cap39), (16, vsl b56 (2 * n + 2 * m + (2 * n + 2 * k)) cap56), (17, vsl b57 (2 * n + 2 * m + (2 * n + 2 * k)) cap57), (26, vsl b135 (2 * n + 2 * m + 2 * k) (2 * n + 2 * m + 2 * k)), (27, vsl b139 (2 * n + 2 * m + (2 * n + 2 * k)) (2 * n + 2 * m + (2 * n + 2 * k))), (28, vint i), (29, vint (D.nxt y : Nat))]) (fun (y, L, cur139, sn) wn => Hp [] w wn [(b39, .cells cur39 3 (0, 0)), (b56, .cells cur56 3 (0, 0)), (b57, .cells cur57 3 (0, 0)), (b135, .cells cur135 3 (0, 0)), (b139, .cells cur139 4 (0, 0))] ∧ Own rBool cur139 (2 * n + 2 * m + (2 * n + 2 * k)) sn ∧ sn.length = (2 * n + 2 * m + (2 * n + 2 * k)) ∧ D.BI (fun c => sn.getD c false) i ∧ D.FI (fun c => sn.getD c false) i y L) (fun (y, L, cur139, sn) => L.length) ((i, (way D.G (D.nm i)).1, cur139, sn)) (by exact ⟨rfl, rfl, rfl, rfl, rfl, rfl, rfl, rfl, rfl, trivial⟩) ?_ ?_
    · exact ⟨hH, ho139, hsl, hB, GD.FI.start hw hiT hmi⟩
    rintro ⟨y, L, cur139, sn⟩ wn ⟨hH, ho139, hsl, hB, hF⟩
    have hyT := hF.yT
    obtain ⟨hx1, hx2, hx3⟩ := GD.nxt_ok hw y hyT
    intro mu0 hmu; try dsimp only at hmu
    show WC _ _ _ _ [(12, vint (2 * n + 2 * m : Nat)), (13, vint (2 * n + 2 * k : Nat)), (14, vsl b39 nx.length cap39), (16, vsl b56 (2 * n + 2 * m + (2 * n + 2 * k)) cap56), (17, vsl b57 (2 * n + 2 * m + (2 * n + 2 * k)) cap57), (26, vsl b135 (2 * n + 2 * m + 2 * k) (2 * n + 2 * m + 2 * k)), (27, vsl b139 (2 * n + 2 * m + (2 * n + 2 * k)) (2 * n + 2 * m + (2 * n + 2 * k))), (28, vint i), (29, vint (D.nxt y : Nat))] _
    refine WC.seq ?_
    refine WC.seq ?_
    refine WC.region ?_
    refine WL.u rfl rfl (Wt.plain rfl) (Ex.move rfl) ?_
    refine WL.u rfl rfl (Wt.plain rfl) (Ex.move rfl) ?_
    refine WL.u rfl rfl (Wt.plain rfl) (Ex.indexAddr Try.underlying22 ty3 rfl rfl (by omega)) ?_
    replace hH := hH.f1
    refine WL.u rfl rfl (Wt.plain rfl) (Ex.loadHp flat3 rfl hH (ho56.get rfl (getD_get mt (D.nxt y) 0 (by omega)))) ?_
    refine WL.u rfl rfl (Wt.plain rfl) (Ex.geq rfl rfl) ?_
    refine WL.next ?_
    refine WC.cond rfl (fun hc9 => ?_) (fun hc9 => ?_)
    · have hc9' := hc9; try simp only [decide_eq_true_eq, decide_eq_false_iff_not, Bool.not_eq_true', Bool.not_eq_false', Bool.not_eq_true, Bool.not_eq_false] at hc9'
      have hmx : D.isM (D.nxt y) = true := by
        cases e : D.isM (D.nxt y) with
        | true => rfl
        | false => have := (hmate _ hx1).2 e; omega
      have hmv := (hmate _ hx1).1 hmx
      obtain ⟨mt1, mt2, mt3, mt4⟩ := hw.mtM _ hx1 hmx
      have hnv : nx.getD (D.mt (D.nxt y)) 0 = ((D.nxt (D.mt (D.nxt y)) : Nat) : Int) := hnx.get _ mt1
      have hset : ∀ c, ((sn.set (D.nxt y) true).set (D.mt (D.nxt y)) true).getD c false = true ↔ sn.getD c false = true ∨ c = D.nxt y ∨ c = D.mt (D.nxt y) := fun c => bset2 sn _ _ c (by omega) (by omega)
      obtain ⟨L2, hL2, hF2⟩ := hF.step hw hmx (S' := fun c => ((sn.set (D.nxt y) true).set (D.mt (D.nxt y)) true).getD c false) (fun c hc => (hset c).2 (.inl hc)) ((hset _).2 (.inr (.inr rfl)))
      obtain ⟨⟨k1, k2⟩, k3, k4, k5⟩ := hF.marks hw hmx
      have hB2 : D.BI (fun c => ((sn.set (D.nxt y) true).set (D.mt (D.nxt y)) true).getD c false) i := hB.mono (fun c hc => (hset c).2 (.inl hc)) (fun c hc => by
        rcases (hset c).1 hc with h1 | rfl | rfl
        · exact hB.a c h1
        · exact ⟨k1, hmx, k2⟩
        · exact ⟨k3, k4, k5⟩)
      refine WC.skip ?_
      refine WN.next ?_
      refine WC.block ?_
      refine WC.seq ?_
      refine WC.region ?_
      refine WL.u rfl rfl (Wt.plain rfl) (Ex.move rfl) ?_
      refine WL.u rfl rfl (Wt.plain rfl) (Ex.move rfl) ?_
      refine WL.u rfl rfl (Wt.plain rfl) (Ex.indexAddr Try.underlying51 ty4 rfl rfl (by omega)) ?_
      replace hH := hH.f4
      refine WL.store1 ty4 rfl rfl rfl (Wt.plain rfl) hH (ho139.idx rfl (by omega)) (by simp) (fun wn hk hH => ?_)
      replace ho139 := ho139.set rfl (D.nxt y) true
      refine WL.next ?_
      refine WC.seq ?_
      refine WC.region ?_
      refine WL.u rfl rfl (Wt.plain rfl) (Ex.move rfl) ?_
      refine WL.u rfl rfl (Wt.plain rfl) (Ex.move rfl) ?_
      refine WL.u rfl rfl (Wt.plain rfl) (Ex.move rfl) ?_
      refine WL.u rfl rfl (Wt.plain rfl) (Ex.indexAddr Try.underlying22 ty3 rfl rfl (by omega)) ?_
      replace hH := hH.f1
      refine WL.u rfl rfl (Wt.plain rfl) (Ex.loadHp flat3 rfl hH (ho56.get rfl (getD_get mt (D.nxt y) 0 (by omega)))) ?_
      rw [hmv]
      refine WL.u rfl rfl (Wt.plain rfl) (Ex.indexAddr Try.underlying51 ty4 rfl rfl (by omega)) ?_
      replace hH := hH.f1
      refine WL.store1 ty4 rfl rfl rfl (Wt.plain rfl) hH (ho139.idx rfl (by rw [List.length_set]; omega)) (by simp) (fun wn hk hH => ?_)
      replace ho139 := ho139.set rfl (D.mt (D.nxt y)) true
      refine WL.next ?_
      refine WC.region ?_
      refine WL.u rfl rfl (Wt.plain rfl) (Ex.move rfl) ?_
      refine WL.u rfl rfl (Wt.plain rfl) (Ex.move rfl) ?_
      refine WL.u rfl rfl (Wt.plain rfl) (Ex.move rfl) ?_
      refine WL.u rfl rfl (Wt.plain rfl) (Ex.indexAddr Try.underlying22 ty3 rfl rfl (by omega)) ?_
      replace hH := hH.f1
      refine WL.u rfl rfl (Wt.plain rfl) (Ex.loadHp flat3 rfl hH (ho56.get rfl (getD_get mt (D.nxt y) 0 (by omega)))) ?_
      rw [hmv]
      refine WL.u rfl rfl (Wt.plain rfl) (Ex.indexAddr Try.underlying22 ty3 rfl rfl (by omega)) ?_
      replace hH := hH.f2
      refine WL.u rfl rfl (Wt.plain rfl) (Ex.loadHp flat3 rfl hH (ho39.get rfl (getD_get nx (D.mt (D.nxt y)) 0 (by omega)))) ?_
      rw [hnv]
      refine WL.u rfl rfl (Wt.plain rfl) (Ex.assign rfl) ?_
      refine WL.last ?_
      refine WN.normalBlock ?_
      replace hH := hH.f2
      replace hH := hH.f4
      replace hH := hH.f4
      replace hH := hH.f4
      replace hH := hH.f4
      refine WN.round (D.mt (D.nxt y), L2, (cur139.setIfInBounds (0 + ((D.nxt y : Nat) : Int).toNat * 1) (rBool.val true)).setIfInBounds (0 + ((D.mt (D.nxt y) : Nat) : Int).toNat * 1) (rBool.val true), ((sn.set (D.nxt y) true).set (D.mt (D.nxt y)) true)) (by exact ⟨rfl, rfl, rfl, rfl, rfl, rfl, rfl, rfl, rfl, trivial⟩) ?_ ?_
      · exact ⟨hH, ho139, by rw [List.length_set, List.length_set]; exact hsl, hB2, hF2⟩
      · (try dsimp only); omega
    have hc9' := hc9; try simp only [decide_eq_true_eq, decide_eq_false_iff_not, Bool.not_eq_true', Bool.not_eq_false', Bool.not_eq_true, Bool.not_eq_false] at hc9'
    have hmx : D.isM (D.nxt y) = false := by
      cases e : D.isM (D.nxt y) with
      | false => rfl
      | true => have := (hmate _ hx1).1 e; omega
    obtain ⟨hd1, hd2⟩ := hF.done hw hmx
    have hnn := (hname _ hx1).1 hmx
    refine WC.exit ?_
    refine WN.exitThen ?_
    refine WN.exitThen ?_
    refine WN.exitHere ?_
    refine WN.next ?_
    refine WC.tail 10 rfl (by kernel_rfl) ?_
    replace hH := hH.drew
    refine WS.u rfl rfl (Wt.plain rfl) (Ex.move rfl) ?_
    refine WS.u rfl rfl (Wt.plain rfl) (Ex.move rfl) ?_
    refine WS.u rfl rfl (Wt.plain rfl) (Ex.move rfl) ?_
    refine WS.u rfl rfl (Wt.plain rfl) (Ex.indexAddr Try.underlying22 ty3 rfl rfl (by omega)) ?_
    replace hH := hH.f2
    refine WS.u rfl rfl (Wt.plain rfl) (Ex.loadHp flat3 rfl hH (ho57.get rfl (getD_get nl i 0 (by omega)))) ?_
    refine WS.u rfl rfl (Wt.plain rfl) (Ex.move rfl) ?_
    refine WS.u rfl rfl (Wt.plain rfl) (Ex.move rfl) ?_
    refine WS.u rfl rfl (Wt.plain rfl) (Ex.indexAddr Try.underlying22 ty3 rfl rfl (by omega)) ?_
    refine WS.u rfl rfl (Wt.plain rfl) (Ex.loadHp flat3 rfl hH (ho57.get rfl (getD_get nl (D.nxt y) 0 (by omega)))) ?_
    rw [hni, hnn]
    refine WS.u rfl rfl (Wt.plain rfl) (Ex.indexAddr Try.underlying22 ty3 rfl rfl (by omega)) ?_
    refine WS.nil ?_
    replace hH := hH.f3
    refine WL.store1 ty3 rfl rfl rfl (Wt.plain rfl) hH (ho135.idx rfl (by omega)) (by simp) (fun wn hk hH => ?_)
    replace ho135 := ho135.set rfl (D.nm i) ((D.nm (D.nxt y) : Nat) : Int)
    refine WL.last ?_
    refine WN.normalBlock ?_
    refine WN.next ?_
    refine WC.region ?_
    refine WL.u rfl rfl (Wt.plain rfl) (Ex.move rfl) ?_
    refine WL.u rfl rfl (Wt.plain rfl) (Ex.add rfl rfl (by omega)) ?_
    refine WL.u rfl rfl (Wt.plain rfl) (Ex.assign rfl) ?_
    refine WL.last ?_
    replace hH := hH.f4
    replace hH := hH.f1
    replace hH := hH.f2
    replace hH := hH.f3
    replace hH := hH.f4
    refine WN.round (i + 1, cur135.setIfInBounds (0 + ((D.nm i : Nat) : Int).toNat * 1) (rInt.val ((D.nm (D.nxt y) : Nat) : Int)), out.set (D.nm i) ((D.nm (D.nxt y) : Nat) : Int), cur139, sn) (by exact ⟨rfl, rfl, rfl, rfl, rfl, rfl, rfl, rfl, trivial⟩) ?_ ?_
    · exact ⟨hH, ho135, by rw [List.length_set]; exact hol, ho139, hsl, hB.next (fun _ => hd2), fun c0 h1 h2 => (by
        rw [gset _ _ _ _ (by omega)]
        by_cases e : D.nm c0 = D.nm i
        · rw [if_pos e, e, hd1]
        · rw [if_neg e]
          refine hO c0 ?_ h2
          rcases Nat.lt_succ_iff_lt_or_eq.1 h1 with h3 | h3
          · exact h3
          · exact absurd (by rw [h3]) e), by omega⟩
    · (try dsimp only); omega
  have hc7' := hc7; try simp only [decide_eq_true_eq, decide_eq_false_iff_not, Bool.not_eq_true', Bool.not_eq_false', Bool.not_eq_true, Bool.not_eq_false] at hc7'
  have hie : i = D.T := by omega
  rw [hie] at hB hO
  have hS0 := GD.SI2.start hw hB
  have hout : out = pairsI D.G := ext_int (by rw [pairsI_len, hol, hpG]) (fun p hp => by
    have hp2 : p < ports D.G := by omega
    obtain ⟨c0, q1, q2, q3⟩ := hw.nmS p hp2
    rw [← q3, hO c0 q1 q2, pairsI_get _ (by rw [q3]; exact hp2)])
  refine WC.exit ?_
  refine WN.exitThen ?_
  refine WN.exitThen ?_
  refine WN.exitHere ?_
  refine WN.next ?_
  refine WC.seq ?_
  refine WC.region ?_
  refine WL.u rfl rfl (Wt.plain rfl) (Ex.assign rfl) ?_
  refine WL.next ?_
  refine WC.seq ?_
  refine WC.seq ?_
  refine WC.region ?_
  refine WL.u rfl rfl (Wt.plain rfl) (Ex.assign rfl) ?_
  refine WL.next ?_
  refine WC.block ?_
  replace hH := hH.f4
  replace hH := hH.f4
  replace hH := hH.f4
  replace hH := hH.f4
  replace hH := hH.f4
  refine WC.loop (ι := Nat × (List Nat) × (Array Value) × (List Bool)) (fun (i, R, cur139, sn) => [(12, vint (2 * n + 2 * m : Nat)), (13, vint (2 * n + 2 * k : Nat)), (14, vsl b39 nx.length cap39), (16, vsl b56 (2 * n + 2 * m + (2 * n + 2 * k)) cap56), (17, vsl b57 (2 * n + 2 * m + (2 * n + 2 * k)) cap57), (26, vsl b135 (2 * n + 2 * m + 2 * k) (2 * n + 2 * m + 2 * k)), (27, vsl b139 (2 * n + 2 * m + (2 * n + 2 * k)) (2 * n + 2 * m + (2 * n + 2 * k))), (30, vint R.length), (31, vint i)]) (fun (i, R, cur139, sn) wn => Hp [] w wn [(b39, .cells cur39 3 (0, 0)), (b56, .cells cur56 3 (0, 0)), (b57, .cells cur57 3 (0, 0)), (b135, .cells cur135 3 (0, 0)), (b139, .cells cur139 4 (0, 0))] ∧ Own rBool cur139 (2 * n + 2 * m + (2 * n + 2 * k)) sn ∧ sn.length = (2 * n + 2 * m + (2 * n + 2 * k)) ∧ D.SI2 (fun c => sn.getD c false) R i ∧ R.length ≤ i ∧ i ≤ (2 * n + 2 * m + (2 * n + 2 * k))) (fun (i, R, cur139, sn) => (2 * n + 2 * m + (2 * n + 2 * k)) - i) ((0, [], cur139, sn)) (by exact ⟨rfl, rfl, rfl, rfl, rfl, rfl, rfl, rfl, rfl, trivial⟩) ?_ ?_
  · exact ⟨hH, ho139, hsl, hS0, Nat.le_refl _, Nat.zero_le _⟩
  rintro ⟨i, R, cur139, sn⟩ wn ⟨hH, ho139, hsl, hS, hRi, hi⟩
  intro mu0 hmu; try dsimp only at hmu
  show WC _ _ _ _ [(12, vint (2 * n + 2 * m : Nat)), (13, vint (2 * n + 2 * k : Nat)), (14, vsl b39 nx.length cap39), (16, vsl b56 (2 * n + 2 * m + (2 * n + 2 * k)) cap56), (17, vsl b57 (2 * n + 2 * m + (2 * n + 2 * k)) cap57), (26, vsl b135 (2 * n + 2 * m + 2 * k) (2 * n + 2 * m + 2 * k)), (27, vsl b139 (2 * n + 2 * m + (2 * n + 2 * k)) (2 * n + 2 * m + (2 * n + 2 * k))), (30, vint R.length), (31, vint i)] _
  refine WC.seq ?_
  refine WC.seq ?_
  refine WC.region ?_
  refine WL.u rfl rfl (Wt.plain rfl) (Ex.move rfl) ?_
  refine WL.u rfl rfl (Wt.plain rfl) (Ex.move rfl) ?_
  refine WL.u rfl rfl (Wt.plain rfl) (Ex.move rfl) ?_
  refine WL.u rfl rfl (Wt.plain rfl) (Ex.add rfl rfl (by omega)) ?_
  refine WL.u rfl rfl (Wt.plain rfl) (Ex.lss rfl rfl) ?_
  refine WL.next ?_
  refine WC.cond rfl (fun hc10 => ?_) (fun hc10 => ?_)
  · have hc10' := hc10; try simp only [decide_eq_true_eq, decide_eq_false_iff_not, Bool.not_eq_true', Bool.not_eq_false', Bool.not_eq_true, Bool.not_eq_false] at hc10'
    have hlt : i < (2 * n + 2 * m + (2 * n + 2 * k)) := by omega
    have hiT : i < D.T := by omega
    refine WC.skip ?_
    refine WN.next ?_
    refine WC.seq ?_
    refine WC.block ?_
    refine WC.seq ?_
    refine WC.seq ?_
    refine WC.region ?_
    refine WL.u rfl rfl (Wt.plain rfl) (Ex.move rfl) ?_
    refine WL.u rfl rfl (Wt.plain rfl) (Ex.move rfl) ?_
    refine WL.u rfl rfl (Wt.plain rfl) (Ex.indexAddr Try.underlying22 ty3 rfl rfl (by omega)) ?_
    replace hH := hH.f1
    refine WL.u rfl rfl (Wt.plain rfl) (Ex.loadHp flat3 rfl hH (ho56.get rfl (getD_get mt i 0 (by omega)))) ?_
    refine WL.u rfl rfl (Wt.plain rfl) (Ex.lss rfl rfl) ?_
    refine WL.u rfl rfl (Wt.plain rfl) (Ex.move rfl) ?_
    refine WL.split (t := 199) rfl (fun hg54_5 => ?_) (fun hg54_5 => ?_)
    · have hg54_5' := hg54_5; try simp only [decide_eq_true_eq, decide_eq_false_iff_not, Bool.not_eq_true', Bool.not_eq_false', Bool.not_eq_true, Bool.not_eq_false] at hg54_5'
      have hmi : D.isM i = false := by
        cases e : D.isM i with
        | false => rfl
        | true => have := (hmate i hiT).1 e; omega
      refine WL.pass rfl rfl (Wt.guard' rfl rfl rfl hg54_5 rfl) ?_
      refine WL.pass rfl rfl (Wt.guard' rfl rfl rfl hg54_5 rfl) ?_
      refine WL.pass rfl rfl (Wt.guard' rfl rfl rfl hg54_5 rfl) ?_
      refine WL.pass rfl rfl (Wt.guard' rfl rfl rfl hg54_5 rfl) ?_
      refine WL.u rfl rfl (Wt.plain rfl) (Ex.pickT rfl hg54_5 rfl) ?_
      refine WL.next ?_
      refine WC.condT rfl rfl ?_
      refine WC.exit ?_
      refine WN.exitThen ?_
      refine WN.exitHere ?_
      refine WN.next ?_
      refine WC.region ?_
      refine WL.u rfl rfl (Wt.plain rfl) (Ex.move rfl) ?_
      refine WL.u rfl rfl (Wt.plain rfl) (Ex.add rfl rfl (by omega)) ?_
      refine WL.u rfl rfl (Wt.plain rfl) (Ex.assign rfl) ?_
      refine WL.last ?_
      replace hH := hH.f4
      replace hH := hH.f4
      replace hH := hH.f4
      replace hH := hH.f3
      replace hH := hH.f4
      refine WN.round (i + 1, R, cur139, sn) (by exact ⟨rfl, rfl, rfl, rfl, rfl, rfl, rfl, rfl, rfl, trivial⟩) ?_ ?_
      · exact ⟨hH, ho139, hsl, hS.skip (.inl hmi), by omega, by omega⟩
      · (try dsimp only); omega
    have hg54_5' := hg54_5; try simp only [decide_eq_true_eq, decide_eq_false_iff_not, Bool.not_eq_true', Bool.not_eq_false', Bool.not_eq_true, Bool.not_eq_false] at hg54_5'
    have hmi : D.isM i = true := by
      cases e : D.isM i with
      | true => rfl
      | false => have := (hmate i hiT).2 e; omega
    refine WL.u rfl rfl (Wt.guard' rfl rfl rfl hg54_5 rfl) (Ex.move rfl) ?_
    refine WL.u rfl rfl (Wt.guard' rfl rfl rfl hg54_5 rfl) (Ex.move rfl) ?_
    refine WL.u rfl rfl (Wt.guard' rfl rfl rfl hg54_5 rfl) (Ex.indexAddr Try.underlying51 ty4 rfl rfl (by omega)) ?_
    replace hH := hH.f4
    refine WL.u rfl rfl (Wt.guard' rfl rfl rfl hg54_5 rfl) (Ex.loadHp flat4 rfl hH (ho139.get rfl (getD_get sn i false (by omega)))) ?_
    refine WL.u rfl rfl (Wt.plain rfl) (Ex.pickF rfl hg54_5 rfl) ?_
    refine WL.next ?_
    refine WC.cond rfl (fun hc11 => ?_) (fun hc11 => ?_)
    · have hc11' := hc11; try simp only [decide_eq_true_eq, decide_eq_false_iff_not, Bool.not_eq_true', Bool.not_eq_false', Bool.not_eq_true, Bool.not_eq_false] at hc11'
      refine WC.exit ?_
      refine WN.exitThen ?_
      refine WN.exitHere ?_
      refine WN.next ?_
      refine WC.region ?_
      refine WL.u rfl rfl (Wt.plain rfl) (Ex.move rfl) ?_
      refine WL.u rfl rfl (Wt.plain rfl) (Ex.add rfl rfl (by omega)) ?_
      refine WL.u rfl rfl (Wt.plain rfl) (Ex.assign rfl) ?_
      refine WL.last ?_
      replace hH := hH.f4
      replace hH := hH.f4
      replace hH := hH.f3
      replace hH := hH.f4
      refine WN.round (i + 1, R, cur139, sn) (by exact ⟨rfl, rfl, rfl, rfl, rfl, rfl, rfl, rfl, rfl, trivial⟩) ?_ ?_
      · exact ⟨hH, ho139, hsl, hS.skip (.inr hc11), by omega, by omega⟩
      · (try dsimp only); omega
    have hsi : sn.getD i false = false := hc11
    have hoff : ¬ OnBeam D.G (D.ent i) := fun e => by have := hS.c i hiT hmi e; rw [hsi] at this; cases this
    refine WC.skip ?_
    refine WN.next ?_
    refine WC.seq ?_
    refine WC.region ?_
    refine WL.u rfl rfl (Wt.plain rfl) (Ex.move rfl) ?_
    refine WL.u rfl rfl (Wt.plain rfl) (Ex.add rfl rfl (by omega)) ?_
    refine WL.u rfl rfl (Wt.plain rfl) (Ex.assign rfl) ?_
    refine WL.next ?_
    refine WC.seq ?_
    refine WC.region ?_
    refine WL.u rfl rfl (Wt.plain rfl) (Ex.move rfl) ?_
    refine WL.u rfl rfl (Wt.plain rfl) (Ex.assign rfl) ?_
    refine WL.next ?_
    refine WC.block ?_
    replace hH := hH.f4
    replace hH := hH.f4
    replace hH := hH.f3
    replace hH := hH.f4
    refine WC.loop (ι := Nat × (Array Value) × (List Bool)) (fun (x, cur139, s2) => [(12, vint (2 * n + 2 * m : Nat)), (13, vint (2 * n + 2 * k : Nat)), (14, vsl b39 nx.length cap39), (16, vsl b56 (2 * n + 2 * m + (2 * n + 2 * k)) cap56), (17, vsl b57 (2 * n + 2 * m + (2 * n + 2 * k)) cap57), (26, vsl b135 (2 * n + 2 * m + 2 * k) (2 * n + 2 * m + 2 * k)), (27, vsl b139 (2 * n + 2 * m + (2 * n + 2 * k)) (2 * n + 2 * m + (2 * n + 2 * k))), (30, vint (R.length + 1 : Nat)), (31, vint i), (32, vint x)]) (fun (x, cur139, s2) wn => Hp [] w wn [(b39, .cells cur39 3 (0, 0)), (b56, .cells cur56 3 (0, 0)), (b57, .cells cur57 3 (0, 0)), (b135, .cells cur135 3 (0, 0)), (b139, .cells cur139 4 (0, 0))] ∧ Own rBool cur139 (2 * n + 2 * m + (2 * n + 2 * k)) s2 ∧ s2.length = (2 * n + 2 * m + (2 * n + 2 * k)) ∧ D.LI (fun c => sn.getD c false) (fun c => s2.getD c false) i x) (fun (x, cur139, s2) => unmk s2) ((i, cur139, sn)) (by exact ⟨rfl, rfl, rfl, rfl, rfl, rfl, rfl, rfl, rfl, rfl, trivial⟩) ?_ ?_
    · exact ⟨hH, ho139, hsl, GD.LI.start hS hiT hmi hsi⟩
    rintro ⟨x, cur139, s2⟩ wn ⟨hH, ho139, hs2, hL⟩
    obtain ⟨hxT, hxm, hxc⟩ := hL.xT
    have hnvx : nx.getD x 0 = ((D.nxt x : Nat) : Int) := hnx.get x hxT
    intro mu0 hmu; try dsimp only at hmu
    show WC _ _ _ _ [(12, vint (2 * n + 2 * m : Nat)), (13, vint (2 * n + 2 * k : Nat)), (14, vsl b39 nx.length cap39), (16, vsl b56 (2 * n + 2 * m + (2 * n + 2 * k)) cap56), (17, vsl b57 (2 * n + 2 * m + (2 * n + 2 * k)) cap57), (26, vsl b135 (2 * n + 2 * m + 2 * k) (2 * n + 2 * m + 2 * k)), (27, vsl b139 (2 * n + 2 * m + (2 * n + 2 * k)) (2 * n + 2 * m + (2 * n + 2 * k))), (30, vint (R.length + 1 : Nat)), (31, vint i), (32, vint x)] _
    refine WC.seq ?_
    refine WC.seq ?_
    refine WC.region ?_
    refine WL.u rfl rfl (Wt.plain rfl) (Ex.move rfl) ?_
    refine WL.u rfl rfl (Wt.plain rfl) (Ex.move rfl) ?_
    refine WL.u rfl rfl (Wt.plain rfl) (Ex.indexAddr Try.underlying51 ty4 rfl rfl (by omega)) ?_
    replace hH := hH.f4
    refine WL.u rfl rfl (Wt.plain rfl) (Ex.loadHp flat4 rfl hH (ho139.get rfl (getD_get s2 x false (by omega)))) ?_
    refine WL.u rfl rfl (Wt.plain rfl) (Ex.not rfl) ?_
    refine WL.next ?_
    refine WC.cond rfl (fun hc12 => ?_) (fun hc12 => ?_)
    · have hc12' := hc12; try simp only [decide_eq_true_eq, decide_eq_false_iff_not, Bool.not_eq_true', Bool.not_eq_false', Bool.not_eq_true, Bool.not_eq_false] at hc12'
      have hsx : s2.getD x false = false := by simpa using hc12
      obtain ⟨nx1, nx2, nx3⟩ := GD.nxt_ok hw x hxT
      obtain ⟨⟨nx4, nxm⟩, hL2⟩ := hL.step hw hoff hsx (S' := fun c => ((s2.set x true).set (D.nxt x) true).getD c false) (fun c => bset2 s2 x (D.nxt x) c (by omega) (by omega))
      have hmv := (hmate _ nx1).1 nxm
      refine WC.skip ?_
      refine WN.next ?_
      refine WC.block ?_
      refine WC.seq ?_
      refine WC.region ?_
      refine WL.u rfl rfl (Wt.plain rfl) (Ex.move rfl) ?_
      refine WL.u rfl rfl (Wt.plain rfl) (Ex.move rfl) ?_
      refine WL.u rfl rfl (Wt.plain rfl) (Ex.indexAddr Try.underlying51 ty4 rfl rfl (by omega)) ?_
      refine WL.store1 ty4 rfl rfl rfl (Wt.plain rfl) hH (ho139.idx rfl (by omega)) (by simp) (fun wn hk hH => ?_)
      replace ho139 := ho139.set rfl x true
      refine WL.next ?_
      refine WC.seq ?_
      refine WC.region ?_
      refine WL.u rfl rfl (Wt.plain rfl) (Ex.move rfl) ?_
      refine WL.u rfl rfl (Wt.plain rfl) (Ex.move rfl) ?_
      refine WL.u rfl rfl (Wt.plain rfl) (Ex.move rfl) ?_
      refine WL.u rfl rfl (Wt.plain rfl) (Ex.indexAddr Try.underlying22 ty3 rfl rfl (by omega)) ?_
      replace hH := hH.f1
      refine WL.u rfl rfl (Wt.plain rfl) (Ex.loadHp flat3 rfl hH (ho39.get rfl (getD_get nx x 0 (by omega)))) ?_
      rw [hnvx]
      refine WL.u rfl rfl (Wt.plain rfl) (Ex.indexAddr Try.underlying51 ty4 rfl rfl (by omega)) ?_
      replace hH := hH.f1
      refine WL.store1 ty4 rfl rfl rfl (Wt.plain rfl) hH (ho139.idx rfl (by rw [List.length_set]; omega)) (by simp) (fun wn hk hH => ?_)
      replace ho139 := ho139.set rfl (D.nxt x) true
      refine WL.next ?_
      refine WC.region ?_
      refine WL.u rfl rfl (Wt.plain rfl) (Ex.move rfl) ?_
      refine WL.u rfl rfl (Wt.plain rfl) (Ex.move rfl) ?_
      refine WL.u rfl rfl (Wt.plain rfl) (Ex.move rfl) ?_
      refine WL.u rfl rfl (Wt.plain rfl) (Ex.indexAddr Try.underlying22 ty3 rfl rfl (by omega)) ?_
      replace hH := hH.f1
      refine WL.u rfl rfl (Wt.plain rfl) (Ex.loadHp flat3 rfl hH (ho39.get rfl (getD_get nx x 0 (by omega)))) ?_
      rw [hnvx]
      refine WL.u rfl rfl (Wt.plain rfl) (Ex.indexAddr Try.underlying22 ty3 rfl rfl (by omega)) ?_
      replace hH := hH.f2
      refine WL.u rfl rfl (Wt.plain rfl) (Ex.loadHp flat3 rfl hH (ho56.get rfl (getD_get mt (D.nxt x) 0 (by omega)))) ?_
      rw [hmv]
      refine WL.u rfl rfl (Wt.plain rfl) (Ex.assign rfl) ?_
      refine WL.last ?_
      refine WN.normalBlock ?_
      replace hH := hH.f2
      replace hH := hH.f4
      replace hH := hH.f4
      replace hH := hH.f3
      replace hH := hH.f4
      refine WN.round (D.mt (D.nxt x), (cur139.setIfInBounds (0 + (x : Int).toNat * 1) (rBool.val true)).setIfInBounds (0 + ((D.nxt x : Nat) : Int).toNat * 1) (rBool.val true), ((s2.set x true).set (D.nxt x) true)) (by exact ⟨rfl, rfl, rfl, rfl, rfl, rfl, rfl, rfl, rfl, rfl, trivial⟩) ?_ ?_
      · exact ⟨hH, ho139, by rw [List.length_set, List.length_set]; exact hs2, hL2⟩
      · have q1 := unmk_lt s2 x (by omega) hsx
        have q2 := unmk_le (s2.set x true) (D.nxt x)
        dsimp only
        omega
    have hc12' := hc12; try simp only [decide_eq_true_eq, decide_eq_false_iff_not, Bool.not_eq_true', Bool.not_eq_false', Bool.not_eq_true, Bool.not_eq_false] at hc12'
    have hsx : s2.getD x false = true := by simpa using hc12
    have hS2 := hL.done hw hS hiT hmi hsi hsx
    refine WC.exit ?_
    refine WN.exitThen ?_
    refine WN.exitThen ?_
    refine WN.exitHere ?_
    refine WN.normalBlock ?_
    refine WN.next ?_
    refine WC.region ?_
    refine WL.u rfl rfl (Wt.plain rfl) (Ex.move rfl) ?_
    refine WL.u rfl rfl (Wt.plain rfl) (Ex.add rfl rfl (by omega)) ?_
    refine WL.u rfl rfl (Wt.plain rfl) (Ex.assign rfl) ?_
    refine WL.last ?_
    replace hH := hH.f4
    replace hH := hH.f4
    replace hH := hH.f4
    replace hH := hH.f4
    refine WN.round (i + 1, i :: R, cur139, s2) (by exact ⟨rfl, rfl, rfl, rfl, rfl, rfl, rfl, rfl, rfl, trivial⟩) ?_ ?_
    · exact ⟨hH, ho139, hs2, hS2, by simp; omega, by omega⟩
    · (try dsimp only); omega
  have hc10' := hc10; try simp only [decide_eq_true_eq, decide_eq_false_iff_not, Bool.not_eq_true', Bool.not_eq_false', Bool.not_eq_true, Bool.not_eq_false] at hc10'
  have hie : i = D.T := by omega
  rw [hie] at hS
  have hgl := GD.glue hw hS
  rw [J.g0, J.h0] at hgl
  refine WC.exit ?_
  refine WN.exitThen ?_
  refine WN.exitThen ?_
  refine WN.exitHere ?_
  refine WN.next ?_
  refine WC.seq ?_
  refine WC.region ?_
  refine WL.u rfl rfl (Wt.plain rfl) (Ex.move rfl) ?_
  refine WL.u rfl rfl (Wt.plain rfl) (Ex.move rfl) ?_
  refine WL.u rfl rfl (Wt.plain rfl) (Ex.assign rfl) ?_
  refine WL.u rfl rfl (Wt.plain rfl) (Ex.assign rfl) ?_
  refine WL.next ?_
  refine WC.ret ?_
  refine WN.body2 rfl rfl rfl ?_
  have hN := New.of (hH.front 3 rfl) ho135 (hH.base 3 rfl)
  rw [hol, hout] at hN
  exact ⟨_, R.length, rfl, hH.keep, hN, hgl⟩

end Go.Proofs.Ytmlkabddhdkpaaa
