/- Laws on proofs of rounds and of none. -/
import Derived.Test.YtmhmdlgcdeodmaaDoorPru
import Derived.Sort.OwnSortedInts
namespace Go.Proofs.YtmhmdlgcdeodmaaDoor
set_option maxRecDepth 100000
set_option linter.unusedSimpArgs false
set_option linter.unusedVariables false
open Go Go.RowKit
def sortI (l : List Int) : List Int := l.mergeSort fun x y => decide (x ≤ y)
theorem sortI_len (l : List Int) : (sortI l).length = l.length := List.length_mergeSort _
theorem sortI_mem {l : List Int} {x : Int} (h : x ∈ l) : x ∈ sortI l := List.mem_mergeSort.2 h
theorem rInt_flat (l : List Int) : l.flatMap rInt.cells = l.map (Value.int .i64) := flat_one (r := rInt) rfl l
/-- the library's sort, on a row of the call's own -/
theorem iSort (b cap : Nat) (cur : Array Value) (l : List Int) (w : World) (hb : w.heap[b]? = some (.cells cur 3 (0, 0))) (ho : Own rInt cur cap l) (hl : l.length ≤ 1000) :
    Fn Tryd.prog 53 [vsl b l.length cap] w (fun v w1 => ∃ cur1, v = .tuple #[] ∧ Keep [b] w w1 ∧ w1.heap[b]? = some (.cells cur1 3 (0, 0)) ∧ Own rInt cur1 cap (sortI l)) := by
  have hrw := ho.rw
  unfold Rw at hrw
  rw [rInt_flat, show rInt.sz = 1 from rfl, Nat.mul_one] at hrw
  have hlt : b < w.heap.size := (Array.getElem?_eq_some_iff.1 hb).1
  have hle := ho.le
  have hsz := ho.size
  rw [show rInt.sz = 1 from rfl, Nat.mul_one] at hsz
  refine Calls.mono (Tryd.slices_Sort_int b 0 cap l w (holds_of_blockI hb hrw) hlt (by omega)) fun e w1 ⟨h1, n, os, h2⟩ => ?_
  subst h1
  subst h2
  have hg := grownBy_sortedI (w := w) (g := b) (n := n) (os := os) (sortI l).toArray
  obtain ⟨g1, g2, g3, g4, g5⟩ := hg
  refine ⟨Go.Sort.putCells (Value.int .i64) 0 (sortI l).toArray cur, rfl, ⟨g1, g2, g3, g4, fun k hk hn => g5 k hk (fun e => hn (by cases e; simp))⟩, heap_sortedI _ hb, ?_, by rw [sortI_len]; exact hle, ho.max, ?_⟩
  · rw [← ho.size]; simp [Go.Sort.putCells]
  · unfold Rw
    rw [rInt_flat, show rInt.sz = 1 from rfl, Nat.mul_one]
    exact take_putCellsI _ _ (by rw [sortI_len]; omega)
theorem wrapU8 {k : Nat} (h : k ≤ 200) : IntKind.u8.wrap (k : Int) = (k : Int) := by
  unfold IntKind.wrap
  simp [IntKind.bits, IntKind.signed]
  omega
/-- the two bytes behind the word -/
theorem round_bytes {g : Grid} {s : Nat × Nat} (h : (close g s).2 = true) (h100 : s.1 < 100) : 8 ≤ (roundText g s).length ∧ (s.1 < 10 → ((roundText g s).getD 6 0).toNat = 48 + s.1 ∧ (roundText g s).getD 7 0 = 32) ∧ (10 ≤ s.1 → ((roundText g s).getD 6 0).toNat = 48 + s.1 / 10 ∧ ((roundText g s).getD 7 0).toNat = 48 + s.1 % 10) := by
  unfold roundText
  rw [if_pos h]
  by_cases h10 : s.1 < 10
  · have e : decL s.1 = [UInt8.ofNat (48 + s.1)] := by unfold decL; rw [if_pos h10]
    rw [e]
    refine ⟨by simp [rnd], fun _ => ⟨?_, rfl⟩, fun _ => by omega⟩
    show (UInt8.ofNat (48 + s.1)).toNat = _
    rw [UInt8.toNat_ofNat']
    omega
  · have e : decL s.1 = [UInt8.ofNat (48 + s.1 / 10), UInt8.ofNat (48 + s.1 % 10)] := by unfold decL; rw [if_neg h10]
    rw [e]
    refine ⟨by simp [rnd], fun _ => by omega, fun _ => ⟨?_, ?_⟩⟩
    · show (UInt8.ofNat (48 + s.1 / 10)).toNat = _
      rw [UInt8.toNat_ofNat']
      omega
    · show (UInt8.ofNat (48 + s.1 % 10)).toNat = _
      rw [UInt8.toNat_ofNat']
      omega
theorem proofRound_ex {g : Grid} (h : (proofRound g).2 = true) : gridIn g = true ∧ ∃ x, offAt g = some x ∧ proofRound g = (roundText g (stepOf x), true) := by
  unfold proofRound at h
  split at h
  · next hg =>
    split at h
    · cases h
    · next x hx => exact ⟨hg, x, hx, proofRound_at hg hx⟩
  · cases h
theorem roundManyQ_ex {g : Grid} (h : (roundManyQ g).2 = true) : gridIn g = true := by
  unfold roundManyQ at h
  split at h
  · assumption
  · cases h
/-- a round, or a proof that there is none -/
theorem proof_either {g : Grid} (h : gridIn g = true) : (!((proofRound g).2 == (proofNone g).2)) = true := by
  have z := ((gridOk_iff g).1 h).sz
  cases ho : offAt g with
  | none => rw [proofRound_none ho, proofNone_at h ((off_none z).1 ho)]; rfl
  | some x =>
    have hr : ¬ (rounds g).length = 0 := fun e => by rw [(off_none z).2 e] at ho; cases ho
    rw [proofRound_at h ho, proofNone_not fun e => hr e.2]; rfl

theorem iRoundLengths (g : Grid) (a : Option Addr) (cap : Nat) (w : World) (hg : Sl rStr w a g) (hG : GridOk g) : Fn Tryd.prog 23 [.slice a g.length cap] w (fun v w1 => ∃ x, v = .tuple #[x, .bool true] ∧ Keep [] w w1 ∧ New rInt 3 w w1 x (sortI ((rounds g).map fun r => (r.length : Int)))) := by
  refine Fn.enter (n := 34) Tryd.func23 rfl rfl rfl ?_
  show WC _ _ _ _ [(0, .slice a g.length cap)] _
  have hH := Hp.start [] w
  have hz := hG.sz
  have hcl := cells_le hG
  have hrl := rounds_len g
  refine WC.seq ?_
  refine WC.region ?_
  refine WL.u rfl rfl (Wt.plain rfl) (Ex.assign rfl) ?_
  refine WL.u rfl rfl (Wt.plain rfl) (Ex.assign rfl) ?_
  refine WL.next ?_
  refine WC.seq ?_
  refine WC.region ?_
  refine WL.lit0 Tryd.underlying34 ty3 rfl (Wt.plain rfl) hH (fun b9 wn hb9 hk9 hH => ?_)
  have ho9 := Own.nil rInt
  refine WL.u rfl rfl (Wt.plain rfl) (Ex.assign rfl) ?_
  refine WL.next ?_
  refine WC.seq ?_
  refine WC.seq ?_
  refine WC.region ?_
  refine WL.u rfl rfl (Wt.plain rfl) (Ex.move rfl) ?_
  refine WL.call callable34 rfl (Wt.plain rfl) rfl rfl (iGridIn _ _ _ _ (hg.kept hH.keep) (gshortP hG)) ?_
  rintro _ _ ⟨rfl, hw⟩; obtain rfl := hw.symm
  refine WL.u rfl rfl (Wt.plain rfl) (Ex.not rfl) ?_
  refine WL.next ?_
  refine WC.condF rfl (by rw [(gridOk_iff g).2 hG] <;> rfl) ?_
  refine WC.skip ?_
  refine WN.next ?_
  refine WC.seq ?_
  refine WC.region ?_
  refine WL.u rfl rfl (Wt.plain rfl) (Ex.move rfl) ?_
  refine WL.call callable52 rfl (Wt.plain rfl) rfl rfl (iallPaths _ _ _ _ (hg.kept hH.keep) hG) ?_
  rintro _ w15 ⟨x, y, rfl, hC, hs, hN, hl, hRd⟩; obtain ⟨b15, cap15, cur15, rfl, hge15, hbb15, ho15⟩ := hN.own; replace hH := hH.push hC hge15 hbb15; clear hC hN; have hsl := hRd.len
  refine WL.u rfl rfl (Wt.plain rfl) (Ex.move rfl) ?_
  refine WL.u rfl rfl (Wt.plain rfl) (Ex.extract rfl rfl) ?_
  refine WL.u rfl rfl (Wt.plain rfl) (Ex.extract rfl rfl) ?_
  refine WL.u rfl rfl (Wt.plain rfl) (Ex.assign rfl) ?_
  refine WL.u rfl rfl (Wt.plain rfl) (Ex.assign rfl) ?_
  refine WL.next ?_
  refine WC.seq ?_
  refine WC.seq ?_
  refine WC.region ?_
  refine WL.u rfl rfl (Wt.plain rfl) (Ex.move rfl) ?_
  refine WL.u rfl rfl (Wt.plain rfl) (Ex.lenSl Tryd.underlying64 rfl) ?_
  refine WL.u rfl rfl (Wt.plain rfl) (Ex.move rfl) ?_
  refine WL.next ?_
  refine WC.block ?_
  replace hH := hH.f1
  refine WC.loop (ι := Nat × Nat × Nat × (Array Value) × (List Int)) (fun (i, b9, cap9, cur9, q) => [(0, .slice a g.length cap), (4, vsl b9 q.length cap9), (19, vsl b15 hs.length cap15), (20, vint hs.length), (21, vint i)]) (fun (i, b9, cap9, cur9, q) wn => Hp [] w wn [(b9, .cells cur9 3 (0, 0)), (b15, .cells cur15 61 (0, 0))] ∧ Own rInt cur9 cap9 q ∧ q = ((rounds g).take i).map (fun r => (r.length : Int)) ∧ i ≤ hs.length) (fun (i, b9, cap9, cur9, q) => hs.length - i) ((0, b9, 0, #[], [])) (by exact ⟨rfl, rfl, rfl, rfl, rfl, trivial⟩) ?_ ?_
  · exact ⟨hH, ho9, rfl, Nat.zero_le _⟩
  rintro ⟨i, b9, cap9, cur9, q⟩ wn ⟨hH, ho9, hq, hi⟩
  have hql : q.length = i := by rw [hq, List.length_map, List.length_take]; omega
  intro mu0 hmu; try dsimp only at hmu
  show WC _ _ _ _ [(0, .slice a g.length cap), (4, vsl b9 q.length cap9), (19, vsl b15 hs.length cap15), (20, vint hs.length), (21, vint i)] _
  refine WC.seq ?_
  refine WC.region ?_
  refine WL.u rfl rfl (Wt.plain rfl) (Ex.lss rfl rfl) ?_
  refine WL.next ?_
  refine WC.seq ?_
  refine WC.cond rfl (fun hc2 => ?_) (fun hc2 => ?_)
  · have hc2' := hc2; try simp only [decide_eq_true_eq, decide_eq_false_iff_not, Bool.not_eq_true', Bool.not_eq_false', Bool.not_eq_true, Bool.not_eq_false] at hc2'
    have hli : i < (rounds g).length := by omega
    obtain ⟨a7, c7, hv7, hs7, hb7⟩ := hRd.ex hli
    refine WC.skip ?_
    refine WN.next ?_
    refine WC.seq ?_
    refine WC.block ?_
    refine WC.seq ?_
    refine WC.region ?_
    refine WL.u rfl rfl (Wt.plain rfl) (Ex.indexAddr Tryd.underlying64 ty61 rfl rfl (by omega)) ?_
    refine WL.u rfl rfl (Wt.plain rfl) ((Ex.loadHp flat61 rfl (hH.front 1 rfl) (ho15.get rfl (getD_get hs i hd0 (by omega)))).to hv7) ?_
    refine WL.u rfl rfl (Wt.plain rfl) (Ex.assign rfl) ?_
    refine WL.next ?_
    refine WC.region ?_
    refine WL.u rfl rfl (Wt.plain rfl) (Ex.move rfl) ?_
    refine WL.u rfl rfl (Wt.plain rfl) (Ex.move rfl) ?_
    refine WL.u rfl rfl (Wt.plain rfl) (Ex.lenSl Tryd.underlying61 rfl) ?_
    refine WL.append1 (r := rInt) (u := (((rounds g).getD i []).length : Int)) Tryd.underlying34 ty3 rfl rfl (fun _ => rfl) (fun _ => rfl) rfl rfl (Wt.plain rfl) (fun _ => (Wt.plain rfl)) hH ho9 rfl (by omega) (by omega) (fun b9 cap9 cur9 wn x9 hb9 hk9 hH ho9 => ?_)
    refine WL.u rfl rfl (Wt.plain rfl) (Ex.assign rfl) ?_
    refine WL.last ?_
    refine WN.normalBlock ?_
    refine WN.next ?_
    refine WC.region ?_
    refine WL.u rfl rfl (Wt.plain rfl) (Ex.add rfl rfl (by omega)) ?_
    refine WL.u rfl rfl (Wt.plain rfl) (Ex.move rfl) ?_
    refine WL.last ?_
    replace hH := hH.f1
    replace hH := hH.f1
    refine WN.round (i + 1, b9, cap9, cur9, q ++ [(((rounds g).getD i []).length : Int)]) (by exact ⟨rfl, rfl, rfl, rfl, rfl, trivial⟩) ?_ ?_
    · exact ⟨hH, ho9, by rw [hq, take_snoc (getD_get (rounds g) i [] hli), List.map_append]; rfl, by omega⟩
    · (try dsimp only); omega
  have hc2' := hc2; try simp only [decide_eq_true_eq, decide_eq_false_iff_not, Bool.not_eq_true', Bool.not_eq_false', Bool.not_eq_true, Bool.not_eq_false] at hc2'
  have hie : i = (rounds g).length := by omega
  rw [hie, List.take_length] at hq
  refine WC.exit ?_
  refine WN.exitThen ?_
  refine WN.exitThen ?_
  refine WN.exitHere ?_
  refine WN.next ?_
  refine WC.seq ?_
  refine WC.region ?_
  refine WL.u rfl rfl (Wt.plain rfl) (Ex.move rfl) ?_
  refine WL.call callable53 rfl (Wt.plain rfl) rfl rfl (iSort b9 cap9 cur9 q _ (hH.at 0 rfl) ho9 (by omega)) ?_
  rintro _ wn ⟨cur9b, rfl, hK, hb9b, ho9b⟩; replace hH := hH.turn hK hb9b
  refine WL.next ?_
  refine WC.seq ?_
  refine WC.region ?_
  refine WL.u rfl rfl (Wt.plain rfl) (Ex.move rfl) ?_
  refine WL.u rfl rfl (Wt.plain rfl) (Ex.assign rfl) ?_
  refine WL.u rfl rfl (Wt.plain rfl) (Ex.assign rfl) ?_
  refine WL.next ?_
  refine WC.ret ?_
  refine WN.body2 rfl rfl rfl ?_
  have hN := New.of (hH.front 0 rfl) ho9b (hH.base 0 rfl)
  rw [sortI_len, hq] at hN
  exact ⟨_, by rw [hq], hH.keep, hN⟩

theorem sRoundManyQ (g : Grid) (a : Option Addr) (cap : Nat) (w : World) (hg : Sl rStr w a g) (hs : Short g) : Fn Tryd.prog 14 [.slice a g.length cap] w (fun v w1 => v = .tuple #[vint (roundManyQ g).1, .bool (roundManyQ g).2] ∧ Keep [] w w1) := by
  refine Fn.enter (n := 10) Tryd.func14 rfl rfl rfl ?_
  show WC _ _ _ _ [(0, .slice a g.length cap)] _
  have hH := Hp.start [] w
  refine WC.seq ?_
  refine WC.region ?_
  refine WL.u rfl rfl (Wt.plain rfl) (Ex.assign rfl) ?_
  refine WL.u rfl rfl (Wt.plain rfl) (Ex.assign rfl) ?_
  refine WL.next ?_
  refine WC.seq ?_
  refine WC.seq ?_
  refine WC.region ?_
  refine WL.u rfl rfl (Wt.plain rfl) (Ex.move rfl) ?_
  refine WL.call callable36 rfl (Wt.plain rfl) rfl rfl (sGridIn _ _ _ _ (hg.kept hH.keep) hs) ?_
  rintro _ wn ⟨rfl, hC⟩; replace hH := hH.dr hC; clear hC
  refine WL.u rfl rfl (Wt.plain rfl) (Ex.not rfl) ?_
  refine WL.next ?_
  refine WC.cond rfl (fun hc1 => ?_) (fun hc1 => ?_)
  · have hc1' := hc1; try simp only [decide_eq_true_eq, decide_eq_false_iff_not, Bool.not_eq_true', Bool.not_eq_false', Bool.not_eq_true, Bool.not_eq_false] at hc1'
    have hgi : gridIn g = false := by simpa using hc1
    refine WC.seq ?_
    refine WC.region ?_
    refine WL.u rfl rfl (Wt.plain rfl) (Ex.assign rfl) ?_
    refine WL.u rfl rfl (Wt.plain rfl) (Ex.assign rfl) ?_
    refine WL.next ?_
    refine WC.ret ?_
    refine WN.retThen ?_
    refine WN.body2 rfl rfl rfl ?_
    exact ⟨by unfold roundManyQ; rw [if_neg (by rw [hgi]; decide)] <;> rfl, hH.keep⟩
  have hc1' := hc1; try simp only [decide_eq_true_eq, decide_eq_false_iff_not, Bool.not_eq_true', Bool.not_eq_false', Bool.not_eq_true, Bool.not_eq_false] at hc1'
  have hgi : gridIn g = true := by simpa using hc1
  have hG := (gridOk_iff g).1 hgi
  refine WC.skip ?_
  refine WN.next ?_
  refine WC.seq ?_
  refine WC.region ?_
  refine WL.u rfl rfl (Wt.plain rfl) (Ex.move rfl) ?_
  refine WL.call callable37 rfl (Wt.plain rfl) rfl rfl (sl3Rounds g _ _ _ (hg.kept hH.keep) hG) ?_
  rintro _ wn ⟨hC, hN⟩; obtain ⟨b8, cap8, cur8, rfl, hge8, hbb8, ho8⟩ := hN.own; rw [List.length_map]; replace hH := hH.call hC; clear hC hN
  refine WL.u rfl rfl (Wt.plain rfl) (Ex.lenSl Tryd.underlying34 rfl) ?_
  refine WL.u rfl rfl (Wt.plain rfl) (Ex.assign rfl) ?_
  refine WL.u rfl rfl (Wt.plain rfl) (Ex.assign rfl) ?_
  refine WL.next ?_
  refine WC.ret ?_
  refine WN.body2 rfl rfl rfl ?_
  exact ⟨by rw [roundManyP hgi] <;> rfl, hH.keep⟩

theorem sDrawRoundMany (a : Option Addr) (l : List UInt8) (cap : Nat) (w : World) (hc : Sl rByte w a l) (hcap : l.length ≤ cap) : Fn Tryd.prog 12 [.slice a l.length cap] w (fun v w1 => ∃ g, Keep [] w w1 ∧ New rStr 9 w w1 v g ∧ (1 ≤ g.length ∧ g.length ≤ 5) ∧ (∀ s ∈ g, s.length ≤ 6)) := by
  refine Fn.enter (n := 6) Tryd.func12 rfl rfl rfl ?_
  show WC _ _ _ _ [(0, .slice a l.length cap)] _
  have hH := Hp.start [] w
  replace hc := hc.take 2000
  have hl := List.length_take_le 2000 l
  refine WC.seq ?_
  refine WC.region ?_
  refine WL.u rfl rfl (Wt.plain rfl) (Ex.assign rfl) ?_
  refine WL.next ?_
  refine WC.seq ?_
  refine WC.region ?_
  refine WL.u rfl rfl (Wt.plain rfl) (Ex.move rfl) ?_
  refine WL.call callable33 rfl (Wt.plain rfl) rfl rfl (sl6Open _ _ _ _ hcap) ?_
  rintro _ wn ⟨r, rfl, hrn, hC, hro⟩; have hca := (hc.kept hH.keep).offNew hrn; replace hH := hH.push hC hrn hro; clear hC hro
  refine WL.call callable32 rfl (Wt.plain rfl) rfl rfl (sl91Some _ _ _ _ _ 5 5 _ (hH.at 0 rfl) (hc.kept hH.keep) hca hl (by omega) (by omega) (by omega)) ?_
  rintro _ wn ⟨g, q, hN, hgl, hgr, hKK, ho, hq⟩; obtain ⟨b5, cap5, cur5, rfl, hge5, hbb5, ho5⟩ := hN.own; replace hH := hH.turnPush hKK ho hge5 hbb5; clear hKK ho hN
  refine WL.u rfl rfl (Wt.plain rfl) (Ex.assign rfl) ?_
  refine WL.next ?_
  refine WC.ret ?_
  refine WN.body1 rfl rfl ?_
  exact ⟨g, hH.keep, New.of (hH.front 0 rfl) ho5 (hH.base 0 rfl), by omega, fun s hs => by have := hgr s hs; omega⟩

theorem sDrawProofRound (a : Option Addr) (l : List UInt8) (cap : Nat) (w : World) (hc : Sl rByte w a l) (hcap : l.length ≤ cap) : Fn Tryd.prog 20 [.slice a l.length cap] w (fun v w1 => ∃ g, Keep [] w w1 ∧ New rStr 9 w w1 v g ∧ (1 ≤ g.length ∧ g.length ≤ 5) ∧ (∀ s ∈ g, s.length ≤ 6)) := by
  refine Fn.enter (n := 6) Tryd.func20 rfl rfl rfl ?_
  show WC _ _ _ _ [(0, .slice a l.length cap)] _
  have hH := Hp.start [] w
  replace hc := hc.take 2000
  have hl := List.length_take_le 2000 l
  refine WC.seq ?_
  refine WC.region ?_
  refine WL.u rfl rfl (Wt.plain rfl) (Ex.assign rfl) ?_
  refine WL.next ?_
  refine WC.seq ?_
  refine WC.region ?_
  refine WL.u rfl rfl (Wt.plain rfl) (Ex.move rfl) ?_
  refine WL.call callable33 rfl (Wt.plain rfl) rfl rfl (sl6Open _ _ _ _ hcap) ?_
  rintro _ wn ⟨r, rfl, hrn, hC, hro⟩; have hca := (hc.kept hH.keep).offNew hrn; replace hH := hH.push hC hrn hro; clear hC hro
  refine WL.call callable32 rfl (Wt.plain rfl) rfl rfl (sl91Some _ _ _ _ _ 5 5 _ (hH.at 0 rfl) (hc.kept hH.keep) hca hl (by omega) (by omega) (by omega)) ?_
  rintro _ wn ⟨g, q, hN, hgl, hgr, hKK, ho, hq⟩; obtain ⟨b5, cap5, cur5, rfl, hge5, hbb5, ho5⟩ := hN.own; replace hH := hH.turnPush hKK ho hge5 hbb5; clear hKK ho hN
  refine WL.u rfl rfl (Wt.plain rfl) (Ex.assign rfl) ?_
  refine WL.next ?_
  refine WC.ret ?_
  refine WN.body1 rfl rfl ?_
  exact ⟨g, hH.keep, New.of (hH.front 0 rfl) ho5 (hH.base 0 rfl), by omega, fun s hs => by have := hgr s hs; omega⟩

theorem lawProofEither (a : Option Addr) (l : List UInt8) (cap : Nat) (w : World) (hc : Sl rByte w a l) (hcap : l.length ≤ cap) : Fn Tryd.prog 3 [.slice a l.length cap] w (fun v w1 => v = .bool true ∧ Keep [] w w1) := by
  refine Fn.enter (n := 60) Tryd.func3 rfl rfl rfl ?_
  show WC _ _ _ _ [(0, .slice a l.length cap)] _
  have hH := Hp.start [] w
  refine WC.seq ?_
  refine WC.region ?_
  refine WL.u rfl rfl (Wt.plain rfl) (Ex.assign rfl) ?_
  refine WL.next ?_
  refine WC.seq ?_
  refine WC.seq ?_
  refine WC.region ?_
  refine WL.u rfl rfl (Wt.plain rfl) (Ex.move rfl) ?_
  refine WL.u rfl rfl (Wt.plain rfl) (Ex.lenSl Tryd.underlying22 rfl) ?_
  refine WL.u rfl rfl (Wt.plain rfl) (Ex.gtr rfl rfl) ?_
  refine WL.next ?_
  refine WC.cond rfl (fun hc1 => ?_) (fun hc1 => ?_)
  · have hc1' := hc1; try simp only [decide_eq_true_eq, decide_eq_false_iff_not, Bool.not_eq_true', Bool.not_eq_false', Bool.not_eq_true, Bool.not_eq_false] at hc1'
    refine WC.seq ?_
    refine WC.region ?_
    refine WL.u rfl rfl (Wt.plain rfl) (Ex.assign rfl) ?_
    refine WL.next ?_
    refine WC.ret ?_
    refine WN.retThen ?_
    refine WN.body1 rfl rfl ?_
    exact ⟨rfl, hH.keep⟩
  have hc1' := hc1; try simp only [decide_eq_true_eq, decide_eq_false_iff_not, Bool.not_eq_true', Bool.not_eq_false', Bool.not_eq_true, Bool.not_eq_false] at hc1'
  refine WC.skip ?_
  refine WN.next ?_
  refine WC.seq ?_
  refine WC.region ?_
  refine WL.u rfl rfl (Wt.plain rfl) (Ex.move rfl) ?_
  refine WL.call callable12 rfl (Wt.plain rfl) rfl rfl (sDrawRoundMany _ _ _ _ (hc.kept hH.keep) hcap) ?_
  rintro _ wn ⟨g, hC, hN, hgl, hgr⟩; obtain ⟨b16, cap16, cur16, rfl, hge16, hbb16, ho16⟩ := hN.own; replace hH := hH.push hC hge16 hbb16; clear hC hN; have hs := short_of hgr (by omega)
  refine WL.u rfl rfl (Wt.plain rfl) (Ex.assign rfl) ?_
  refine WL.next ?_
  refine WC.seq ?_
  refine WC.region ?_
  refine WL.u rfl rfl (Wt.plain rfl) (Ex.move rfl) ?_
  refine WL.call callable13 rfl (Wt.plain rfl) rfl rfl (iRoundManyQ g _ _ _ (ho16.slAt hH 0 rfl) hs) ?_
  rintro _ wn ⟨rfl, hC⟩; replace hH := hH.call hC; clear hC
  refine WL.u rfl rfl (Wt.plain rfl) (Ex.move rfl) ?_
  refine WL.u rfl rfl (Wt.plain rfl) (Ex.extract rfl rfl) ?_
  refine WL.u rfl rfl (Wt.plain rfl) (Ex.extract rfl rfl) ?_
  refine WL.u rfl rfl (Wt.plain rfl) (Ex.assign rfl) ?_
  refine WL.u rfl rfl (Wt.plain rfl) (Ex.assign rfl) ?_
  refine WL.next ?_
  refine WC.seq ?_
  refine WC.region ?_
  refine WL.u rfl rfl (Wt.plain rfl) (Ex.move rfl) ?_
  refine WL.call callable14 rfl (Wt.plain rfl) rfl rfl (sRoundManyQ g _ _ _ (ho16.slAt hH 0 rfl) hs) ?_
  rintro _ wn ⟨rfl, hC⟩; replace hH := hH.call hC; clear hC
  refine WL.u rfl rfl (Wt.plain rfl) (Ex.move rfl) ?_
  refine WL.u rfl rfl (Wt.plain rfl) (Ex.extract rfl rfl) ?_
  refine WL.u rfl rfl (Wt.plain rfl) (Ex.extract rfl rfl) ?_
  refine WL.u rfl rfl (Wt.plain rfl) (Ex.assign rfl) ?_
  refine WL.u rfl rfl (Wt.plain rfl) (Ex.assign rfl) ?_
  refine WL.next ?_
  refine WC.seq ?_
  refine WC.seq ?_
  refine WC.region ?_
  refine WL.u rfl rfl (Wt.plain rfl) (Ex.move rfl) ?_
  refine WL.u rfl rfl (Wt.plain rfl) (Ex.move rfl) ?_
  refine WL.u rfl rfl (Wt.plain rfl) (Ex.neqB Tryd.underlying4 rfl rfl) ?_
  refine WL.u rfl rfl (Wt.plain rfl) (Ex.move rfl) ?_
  refine WL.split (t := 30) rfl (fun hg6_3 => ?_) (fun hg6_3 => ?_)
  · exfalso; simp at hg6_3
  have hg6_3' := hg6_3; try simp only [decide_eq_true_eq, decide_eq_false_iff_not, Bool.not_eq_true', Bool.not_eq_false', Bool.not_eq_true, Bool.not_eq_false] at hg6_3'
  refine WL.u rfl rfl (Wt.guard' rfl rfl rfl hg6_3 rfl) (Ex.move rfl) ?_
  refine WL.u rfl rfl (Wt.guard' rfl rfl rfl hg6_3 rfl) (Ex.move rfl) ?_
  refine WL.u rfl rfl (Wt.guard' rfl rfl rfl hg6_3 rfl) (Ex.neq rfl rfl) ?_
  refine WL.u rfl rfl (Wt.plain rfl) (Ex.pickF rfl hg6_3 rfl) ?_
  refine WL.u rfl rfl (Wt.plain rfl) (Ex.move rfl) ?_
  refine WL.split (t := 35) rfl (fun hg6_8 => ?_) (fun hg6_8 => ?_)
  · exfalso; simp at hg6_8
  have hg6_8' := hg6_8; try simp only [decide_eq_true_eq, decide_eq_false_iff_not, Bool.not_eq_true', Bool.not_eq_false', Bool.not_eq_true, Bool.not_eq_false] at hg6_8'
  refine WL.u rfl rfl (Wt.guard' rfl rfl rfl hg6_8 rfl) (Ex.move rfl) ?_
  refine WL.u rfl rfl (Wt.guard' rfl rfl rfl hg6_8 rfl) (Ex.not rfl) ?_
  refine WL.u rfl rfl (Wt.plain rfl) (Ex.pickF rfl hg6_8 rfl) ?_
  refine WL.next ?_
  refine WC.cond rfl (fun hc2 => ?_) (fun hc2 => ?_)
  · have hc2' := hc2; try simp only [decide_eq_true_eq, decide_eq_false_iff_not, Bool.not_eq_true', Bool.not_eq_false', Bool.not_eq_true, Bool.not_eq_false] at hc2'
    refine WC.seq ?_
    refine WC.region ?_
    refine WL.u rfl rfl (Wt.plain rfl) (Ex.move rfl) ?_
    refine WL.u rfl rfl (Wt.plain rfl) (Ex.move rfl) ?_
    refine WL.u rfl rfl (Wt.plain rfl) (Ex.eqlB Tryd.underlying4 rfl rfl) ?_
    refine WL.u rfl rfl (Wt.plain rfl) (Ex.move rfl) ?_
    refine WL.split (t := 42) rfl (fun hg7_3 => ?_) (fun hg7_3 => ?_)
    · have hg7_3' := hg7_3; try simp only [decide_eq_true_eq, decide_eq_false_iff_not, Bool.not_eq_true', Bool.not_eq_false', Bool.not_eq_true, Bool.not_eq_false] at hg7_3'
      refine WL.u rfl rfl (Wt.guard' rfl rfl rfl hg7_3 rfl) (Ex.move rfl) ?_
      refine WL.u rfl rfl (Wt.guard' rfl rfl rfl hg7_3 rfl) (Ex.move rfl) ?_
      refine WL.u rfl rfl (Wt.guard' rfl rfl rfl hg7_3 rfl) (Ex.eql rfl rfl) ?_
      refine WL.u rfl rfl (Wt.plain rfl) (Ex.pickT rfl hg7_3 rfl) ?_
      refine WL.u rfl rfl (Wt.plain rfl) (Ex.assign rfl) ?_
      refine WL.next ?_
      refine WC.ret ?_
      refine WN.retThen ?_
      refine WN.body1 rfl rfl ?_
      exact ⟨congrArg Value.bool (by simp), hH.keep⟩
    exfalso; simp at hg7_3
  have hts : (roundManyQ g).2 = true := by simpa using hc2
  have hpe := proof_either (roundManyQ_ex hts)
  refine WC.skip ?_
  refine WN.next ?_
  refine WC.seq ?_
  refine WC.region ?_
  refine WL.u rfl rfl (Wt.plain rfl) (Ex.move rfl) ?_
  refine WL.call callable15 rfl (Wt.plain rfl) rfl rfl (iProofRound g _ _ _ (ho16.slAt hH 0 rfl) hs) ?_
  rintro _ wn ⟨rfl, hC⟩; replace hH := hH.call hC; clear hC
  refine WL.u rfl rfl (Wt.plain rfl) (Ex.move rfl) ?_
  refine WL.u rfl rfl (Wt.plain rfl) (Ex.extract rfl rfl) ?_
  refine WL.u rfl rfl (Wt.plain rfl) (Ex.extract rfl rfl) ?_
  refine WL.u rfl rfl (Wt.plain rfl) (Ex.assign rfl) ?_
  refine WL.u rfl rfl (Wt.plain rfl) (Ex.assign rfl) ?_
  refine WL.next ?_
  refine WC.seq ?_
  refine WC.region ?_
  refine WL.u rfl rfl (Wt.plain rfl) (Ex.move rfl) ?_
  refine WL.call callable16 rfl (Wt.plain rfl) rfl rfl (iProofNone g _ _ _ (ho16.slAt hH 0 rfl) hs) ?_
  rintro _ wn ⟨rfl, hC⟩; replace hH := hH.call hC; clear hC
  refine WL.u rfl rfl (Wt.plain rfl) (Ex.move rfl) ?_
  refine WL.u rfl rfl (Wt.plain rfl) (Ex.extract rfl rfl) ?_
  refine WL.u rfl rfl (Wt.plain rfl) (Ex.extract rfl rfl) ?_
  refine WL.u rfl rfl (Wt.plain rfl) (Ex.assign rfl) ?_
  refine WL.u rfl rfl (Wt.plain rfl) (Ex.assign rfl) ?_
  refine WL.next ?_
  refine WC.seq ?_
  refine WC.region ?_
  refine WL.u rfl rfl (Wt.plain rfl) (Ex.move rfl) ?_
  refine WL.u rfl rfl (Wt.plain rfl) (Ex.move rfl) ?_
  refine WL.u rfl rfl (Wt.plain rfl) (Ex.neqB Tryd.underlying4 rfl rfl) ?_
  refine WL.u rfl rfl (Wt.plain rfl) (Ex.assign rfl) ?_
  refine WL.next ?_
  refine WC.ret ?_
  refine WN.body1 rfl rfl ?_
  exact ⟨congrArg Value.bool hpe, hH.keep⟩


theorem proofNone_len (g : Grid) : (proofNone g).1.length ≤ 1000 := by
  unfold proofNone
  split
  · next h =>
    have hG := (gridOk_iff g).1 h.1
    have h1 := wordsT_len (l := lensL g) (lens_lt hG.sz (Nat.le_refl _))
    have h2 : (lensL g).length ≤ ports g := lensTo_len g (ports g)
    have h3 := ports_le hG
    dsimp only
    omega
  · simp

theorem sDrawProofNoneIs (a : Option Addr) (l : List UInt8) (cap : Nat) (w : World) (hc : Sl rByte w a l) (hcap : l.length ≤ cap) : Fn Tryd.prog 17 [.slice a l.length cap] w (fun v w1 => ∃ (g : Grid) (x : Value) (t : Str), v = .tuple #[x, vstr t] ∧ Keep [] w w1 ∧ New rStr 9 w w1 x g ∧ (1 ≤ g.length ∧ g.length ≤ 5) ∧ (∀ s ∈ g, s.length ≤ 6)) := by
  refine Fn.enter (n := 44) Tryd.func17 rfl rfl rfl ?_
  show WC _ _ _ _ [(0, .slice a l.length cap)] _
  have hc0 := hc
  have hH := Hp.start [] w
  replace hc := hc.take 2000
  have hl := List.length_take_le 2000 l
  refine WC.seq ?_
  refine WC.region ?_
  refine WL.u rfl rfl (Wt.plain rfl) (Ex.assign rfl) ?_
  refine WL.u rfl rfl (Wt.plain rfl) (Ex.assign rfl) ?_
  refine WL.next ?_
  refine WC.seq ?_
  refine WC.region ?_
  refine WL.u rfl rfl (Wt.plain rfl) (Ex.move rfl) ?_
  refine WL.call callable43 rfl (Wt.plain rfl) rfl rfl (sl91OneP _ _ _ _ (hc0.kept hH.keep) hcap) ?_
  rintro _ wn ⟨g, hC, hN, hgl, hgr⟩; obtain ⟨b9, cap9, cur9, rfl, hge9, hbb9, ho9⟩ := hN.own; replace hH := hH.push hC hge9 hbb9; clear hC hN; have hs := short_of hgr (by omega)
  refine WL.u rfl rfl (Wt.plain rfl) (Ex.assign rfl) ?_
  refine WL.next ?_
  refine WC.seq ?_
  refine WC.region ?_
  refine WL.u rfl rfl (Wt.plain rfl) (Ex.move rfl) ?_
  refine WL.call callable29 rfl (Wt.plain rfl) rfl rfl (sProofNone g _ _ _ (ho9.slAt hH 0 rfl) hs) ?_
  rintro _ wn ⟨rfl, hC⟩; replace hH := hH.call hC; clear hC
  refine WL.u rfl rfl (Wt.plain rfl) (Ex.move rfl) ?_
  refine WL.u rfl rfl (Wt.plain rfl) (Ex.extract rfl rfl) ?_
  refine WL.u rfl rfl (Wt.plain rfl) (Ex.extract rfl rfl) ?_
  refine WL.u rfl rfl (Wt.plain rfl) (Ex.assign rfl) ?_
  refine WL.u rfl rfl (Wt.plain rfl) (Ex.assign rfl) ?_
  refine WL.next ?_
  refine WC.seq ?_
  refine WC.region ?_
  refine WL.u rfl rfl (Wt.plain rfl) (Ex.move rfl) ?_
  refine WL.call callable33 rfl (Wt.plain rfl) rfl rfl (sl6Open _ _ _ _ hcap) ?_
  rintro _ wn ⟨r, rfl, hrn, hC, hro⟩; have hca := (hc.kept hH.keep).offNew hrn; replace hH := hH.push hC hrn hro; clear hC hro
  refine WL.u rfl rfl (Wt.plain rfl) (Ex.assign rfl) ?_
  refine WL.next ?_
  refine WC.seq ?_
  refine WC.region ?_
  refine WL.u rfl rfl (Wt.plain rfl) (Ex.move rfl) ?_
  refine WL.u rfl rfl (Wt.plain rfl) (Ex.nilCheck rfl) ?_
  refine WL.u rfl rfl (Wt.plain rfl) (Ex.fieldAddr fd53_1 rfl) ?_
  refine WL.store1 ty3 rfl rfl rfl (Wt.plain rfl) hH (by simp) rfl (fun wn hk hH => ?_)
  replace hH := hH.at61
  refine WL.next ?_
  refine WC.seq ?_
  refine WC.block ?_
  refine WC.seq ?_
  refine WC.region ?_
  refine WL.u rfl rfl (Wt.plain rfl) (Ex.move rfl) ?_
  refine WL.u rfl rfl (Wt.plain rfl) (Ex.not rfl) ?_
  refine WL.u rfl rfl (Wt.plain rfl) (Ex.move rfl) ?_
  refine WL.split (t := 23) rfl (fun hg5_2 => ?_) (fun hg5_2 => ?_)
  · have hg5_2' := hg5_2; try simp only [decide_eq_true_eq, decide_eq_false_iff_not, Bool.not_eq_true', Bool.not_eq_false', Bool.not_eq_true, Bool.not_eq_false] at hg5_2'
    refine WL.pass rfl rfl (Wt.guard' rfl rfl rfl hg5_2 rfl) ?_
    refine WL.pass rfl rfl (Wt.guard' rfl rfl rfl hg5_2 rfl) ?_
    refine WL.pass rfl rfl (Wt.guard' rfl rfl rfl hg5_2 rfl) ?_
    refine WL.u rfl rfl (Wt.plain rfl) (Ex.pickT rfl hg5_2 rfl) ?_
    refine WL.u rfl rfl (Wt.plain rfl) (Ex.assign rfl) ?_
    refine WL.next ?_
    refine WC.condT rfl rfl ?_
    refine WC.seq ?_
    refine WC.region ?_
    refine WL.u rfl rfl (Wt.plain rfl) (Ex.move rfl) ?_
    refine WL.u rfl rfl (Wt.plain rfl) (Ex.move rfl) ?_
    refine WL.lit Tryd.underlying23 ty9 rfl rfl rfl rfl rfl rfl rfl (Wt.plain rfl) hH (fun b30 wn hb30 hk30 hH => ?_)
    have ho30 := Own.strs ([[108, 101, 110, 103, 116, 104, 115], [108, 101, 110, 103, 116, 104, 115, 32, 49, 32, 49], [108, 101, 110, 103, 116, 104, 115, 32, 50, 32, 49, 32, 49], [108, 101, 110, 103, 116, 104, 115, 32, 48, 49, 32, 49], [], [120]] : List Str) (by decide)
    replace hH := hH.f1
    refine WL.call callable45 rfl (Wt.plain rfl) rfl rfl (sof _ _ _ _ _ _ ([[108, 101, 110, 103, 116, 104, 115], [108, 101, 110, 103, 116, 104, 115, 32, 49, 32, 49], [108, 101, 110, 103, 116, 104, 115, 32, 50, 32, 49, 32, 49], [108, 101, 110, 103, 116, 104, 115, 32, 48, 49, 32, 49], [], [120]] : List Str) _ _ (hH.at 0 rfl) (hc.kept hH.keep) hca hl (by omega) (ho30.slAt hH 1 rfl) (.inr fun p hp => by cases hp; exact hH.nin 1 0 rfl rfl rfl) (by decide)) ?_
    rintro _ wn ⟨t31, ht31, rfl, hKK, ho⟩; replace hH := hH.turn hKK ho; clear hKK ho
    refine WL.u rfl rfl (Wt.plain rfl) (Ex.assign rfl) ?_
    refine WL.u rfl rfl (Wt.plain rfl) (Ex.assign rfl) ?_
    refine WL.next ?_
    refine WC.ret ?_
    refine WN.retBlock ?_
    refine WN.retThen ?_
    refine WN.body2 rfl rfl rfl ?_
    exact ⟨g, _, _, rfl, hH.keep, New.of (hH.front 2 rfl) ho9 (hH.base 2 rfl), by omega, fun s hs => by have := hgr s hs; omega⟩
  have hg5_2' := hg5_2; try simp only [decide_eq_true_eq, decide_eq_false_iff_not, Bool.not_eq_true', Bool.not_eq_false', Bool.not_eq_true, Bool.not_eq_false] at hg5_2'
  refine WL.u rfl rfl (Wt.guard' rfl rfl rfl hg5_2 rfl) (Ex.move rfl) ?_
  refine WL.call callable44 rfl (Wt.guard' rfl rfl rfl hg5_2 rfl) rfl rfl (spick _ _ _ _ _ 5 _ (hH.at 0 rfl) (hc.kept hH.keep) hca hl (by omega) (by omega)) ?_
  rintro _ wn ⟨k25, rfl, hk25, hKK, ho⟩; replace hH := hH.turn hKK ho; clear hKK ho
  refine WL.u rfl rfl (Wt.guard' rfl rfl rfl hg5_2 rfl) (Ex.eql rfl rfl) ?_
  refine WL.u rfl rfl (Wt.plain rfl) (Ex.pickF rfl hg5_2 rfl) ?_
  refine WL.u rfl rfl (Wt.plain rfl) (Ex.assign rfl) ?_
  refine WL.next ?_
  refine WC.cond rfl (fun hc1 => ?_) (fun hc1 => ?_)
  · have hc1' := hc1; try simp only [decide_eq_true_eq, decide_eq_false_iff_not, Bool.not_eq_true', Bool.not_eq_false', Bool.not_eq_true, Bool.not_eq_false] at hc1'
    refine WC.seq ?_
    refine WC.region ?_
    refine WL.u rfl rfl (Wt.plain rfl) (Ex.move rfl) ?_
    refine WL.u rfl rfl (Wt.plain rfl) (Ex.move rfl) ?_
    refine WL.lit Tryd.underlying23 ty9 rfl rfl rfl rfl rfl rfl rfl (Wt.plain rfl) hH (fun b30 wn hb30 hk30 hH => ?_)
    have ho30 := Own.strs ([[108, 101, 110, 103, 116, 104, 115], [108, 101, 110, 103, 116, 104, 115, 32, 49, 32, 49], [108, 101, 110, 103, 116, 104, 115, 32, 50, 32, 49, 32, 49], [108, 101, 110, 103, 116, 104, 115, 32, 48, 49, 32, 49], [], [120]] : List Str) (by decide)
    replace hH := hH.f1
    refine WL.call callable45 rfl (Wt.plain rfl) rfl rfl (sof _ _ _ _ _ _ ([[108, 101, 110, 103, 116, 104, 115], [108, 101, 110, 103, 116, 104, 115, 32, 49, 32, 49], [108, 101, 110, 103, 116, 104, 115, 32, 50, 32, 49, 32, 49], [108, 101, 110, 103, 116, 104, 115, 32, 48, 49, 32, 49], [], [120]] : List Str) _ _ (hH.at 0 rfl) (hc.kept hH.keep) hca hl (by omega) (ho30.slAt hH 1 rfl) (.inr fun p hp => by cases hp; exact hH.nin 1 0 rfl rfl rfl) (by decide)) ?_
    rintro _ wn ⟨t31, ht31, rfl, hKK, ho⟩; replace hH := hH.turn hKK ho; clear hKK ho
    refine WL.u rfl rfl (Wt.plain rfl) (Ex.assign rfl) ?_
    refine WL.u rfl rfl (Wt.plain rfl) (Ex.assign rfl) ?_
    refine WL.next ?_
    refine WC.ret ?_
    refine WN.retBlock ?_
    refine WN.retThen ?_
    refine WN.body2 rfl rfl rfl ?_
    exact ⟨g, _, _, rfl, hH.keep, New.of (hH.front 2 rfl) ho9 (hH.base 2 rfl), by omega, fun s hs => by have := hgr s hs; omega⟩
  have hc1' := hc1; try simp only [decide_eq_true_eq, decide_eq_false_iff_not, Bool.not_eq_true', Bool.not_eq_false', Bool.not_eq_true, Bool.not_eq_false] at hc1'
  refine WC.seq ?_
  refine WC.region ?_
  refine WL.u rfl rfl (Wt.plain rfl) (Ex.move rfl) ?_
  refine WL.call callable44 rfl (Wt.plain rfl) rfl rfl (spick _ _ _ _ _ 6 _ (hH.at 0 rfl) (hc.kept hH.keep) hca hl (by omega) (by omega)) ?_
  rintro _ wn ⟨k34, rfl, hk34, hKK, ho⟩; replace hH := hH.turn hKK ho; clear hKK ho
  refine WL.u rfl rfl (Wt.plain rfl) (Ex.eql rfl rfl) ?_
  refine WL.u rfl rfl (Wt.plain rfl) (Ex.assign rfl) ?_
  refine WL.next ?_
  refine WC.cond rfl (fun hc2 => ?_) (fun hc2 => ?_)
  · have hc2' := hc2; try simp only [decide_eq_true_eq, decide_eq_false_iff_not, Bool.not_eq_true', Bool.not_eq_false', Bool.not_eq_true, Bool.not_eq_false] at hc2'
    refine WC.seq ?_
    have hpl := proofNone_len g
    have hL2 : ∀ s ∈ ([[32], [32, 48], [120]] : List Str), s.length ≤ 2 := by decide
    refine WC.region ?_
    refine WL.u rfl rfl (Wt.plain rfl) (Ex.move rfl) ?_
    refine WL.u rfl rfl (Wt.plain rfl) (Ex.move rfl) ?_
    refine WL.u rfl rfl (Wt.plain rfl) (Ex.move rfl) ?_
    refine WL.lit Tryd.underlying23 ty9 rfl rfl rfl rfl rfl rfl rfl (Wt.plain rfl) hH (fun b39 wn hb39 hk39 hH => ?_)
    have ho39 := Own.strs ([[32], [32, 48], [120]] : List Str) (by decide)
    replace hH := hH.f1
    refine WL.call callable45 rfl (Wt.plain rfl) rfl rfl (sof _ _ _ _ _ _ ([[32], [32, 48], [120]] : List Str) _ _ (hH.at 0 rfl) (hc.kept hH.keep) hca hl (by omega) (ho39.slAt hH 1 rfl) (.inr fun p hp => by cases hp; exact hH.nin 1 0 rfl rfl rfl) (by decide)) ?_
    rintro _ wn ⟨t40, ht40, rfl, hKK, ho⟩; replace hH := hH.turn hKK ho; clear hKK ho
    refine WL.u rfl rfl (Wt.plain rfl) (Ex.concat rfl rfl (by have := hL2 _ ht40; omega)) ?_
    refine WL.u rfl rfl (Wt.plain rfl) (Ex.assign rfl) ?_
    refine WL.u rfl rfl (Wt.plain rfl) (Ex.assign rfl) ?_
    refine WL.next ?_
    refine WC.ret ?_
    refine WN.retBlock ?_
    refine WN.retThen ?_
    refine WN.body2 rfl rfl rfl ?_
    exact ⟨g, _, _, rfl, hH.keep, New.of (hH.front 2 rfl) ho9 (hH.base 2 rfl), by omega, fun s hs => by have := hgr s hs; omega⟩
  have hc2' := hc2; try simp only [decide_eq_true_eq, decide_eq_false_iff_not, Bool.not_eq_true', Bool.not_eq_false', Bool.not_eq_true, Bool.not_eq_false] at hc2'
  refine WC.skip ?_
  refine WN.normalBlock ?_
  refine WN.next ?_
  refine WC.seq ?_
  refine WC.region ?_
  refine WL.u rfl rfl (Wt.plain rfl) (Ex.move rfl) ?_
  refine WL.u rfl rfl (Wt.plain rfl) (Ex.move rfl) ?_
  refine WL.u rfl rfl (Wt.plain rfl) (Ex.assign rfl) ?_
  refine WL.u rfl rfl (Wt.plain rfl) (Ex.assign rfl) ?_
  refine WL.next ?_
  refine WC.ret ?_
  refine WN.body2 rfl rfl rfl ?_
  exact ⟨g, _, _, rfl, hH.keep, New.of (hH.front 1 rfl) ho9 (hH.base 1 rfl), by omega, fun s hs => by have := hgr s hs; omega⟩

theorem lawNoneIs (a : Option Addr) (l : List UInt8) (cap : Nat) (w : World) (hc : Sl rByte w a l) (hcap : l.length ≤ cap) : Fn Tryd.prog 4 [.slice a l.length cap] w (fun v w1 => v = .bool true ∧ Keep [] w w1) := by
  refine Fn.enter (n := 54) Tryd.func4 rfl rfl rfl ?_
  show WC _ _ _ _ [(0, .slice a l.length cap)] _
  have hH := Hp.start [] w
  refine WC.seq ?_
  refine WC.region ?_
  refine WL.u rfl rfl (Wt.plain rfl) (Ex.assign rfl) ?_
  refine WL.next ?_
  refine WC.seq ?_
  refine WC.seq ?_
  refine WC.region ?_
  refine WL.u rfl rfl (Wt.plain rfl) (Ex.move rfl) ?_
  refine WL.u rfl rfl (Wt.plain rfl) (Ex.lenSl Tryd.underlying22 rfl) ?_
  refine WL.u rfl rfl (Wt.plain rfl) (Ex.gtr rfl rfl) ?_
  refine WL.next ?_
  refine WC.cond rfl (fun hc1 => ?_) (fun hc1 => ?_)
  · have hc1' := hc1; try simp only [decide_eq_true_eq, decide_eq_false_iff_not, Bool.not_eq_true', Bool.not_eq_false', Bool.not_eq_true, Bool.not_eq_false] at hc1'
    refine WC.seq ?_
    refine WC.region ?_
    refine WL.u rfl rfl (Wt.plain rfl) (Ex.assign rfl) ?_
    refine WL.next ?_
    refine WC.ret ?_
    refine WN.retThen ?_
    refine WN.body1 rfl rfl ?_
    exact ⟨rfl, hH.keep⟩
  have hc1' := hc1; try simp only [decide_eq_true_eq, decide_eq_false_iff_not, Bool.not_eq_true', Bool.not_eq_false', Bool.not_eq_true, Bool.not_eq_false] at hc1'
  refine WC.skip ?_
  refine WN.next ?_
  refine WC.seq ?_
  refine WC.region ?_
  refine WL.u rfl rfl (Wt.plain rfl) (Ex.move rfl) ?_
  refine WL.call callable17 rfl (Wt.plain rfl) rfl rfl (sDrawProofNoneIs _ _ _ _ (hc.kept hH.keep) hcap) ?_
  rintro _ wn ⟨g, x, t, rfl, hC, hN, hgl, hgr⟩; obtain ⟨b16, cap16, cur16, rfl, hge16, hbb16, ho16⟩ := hN.own; replace hH := hH.push hC hge16 hbb16; clear hC hN; have hs := short_of hgr (by omega)
  refine WL.u rfl rfl (Wt.plain rfl) (Ex.move rfl) ?_
  refine WL.u rfl rfl (Wt.plain rfl) (Ex.extract rfl rfl) ?_
  refine WL.u rfl rfl (Wt.plain rfl) (Ex.extract rfl rfl) ?_
  refine WL.u rfl rfl (Wt.plain rfl) (Ex.assign rfl) ?_
  refine WL.u rfl rfl (Wt.plain rfl) (Ex.assign rfl) ?_
  refine WL.next ?_
  refine WC.seq ?_
  refine WC.region ?_
  refine WL.u rfl rfl (Wt.plain rfl) (Ex.move rfl) ?_
  refine WL.u rfl rfl (Wt.plain rfl) (Ex.move rfl) ?_
  refine WL.call callable18 rfl (Wt.plain rfl) rfl rfl (iProofNoneIs g _ _ t _ (ho16.slAt hH 0 rfl) hs) ?_
  rintro _ wn ⟨rfl, hC⟩; replace hH := hH.call hC; clear hC
  refine WL.u rfl rfl (Wt.plain rfl) (Ex.assign rfl) ?_
  refine WL.next ?_
  refine WC.seq ?_
  refine WC.region ?_
  refine WL.u rfl rfl (Wt.plain rfl) (Ex.move rfl) ?_
  refine WL.u rfl rfl (Wt.plain rfl) (Ex.move rfl) ?_
  refine WL.call callable19 rfl (Wt.plain rfl) rfl rfl (sProofNoneIs g _ _ t _ (ho16.slAt hH 0 rfl) hs) ?_
  rintro _ wn ⟨rfl, hC⟩; replace hH := hH.call hC; clear hC
  refine WL.u rfl rfl (Wt.plain rfl) (Ex.assign rfl) ?_
  refine WL.next ?_
  refine WC.seq ?_
  refine WC.seq ?_
  refine WC.region ?_
  refine WL.u rfl rfl (Wt.plain rfl) (Ex.move rfl) ?_
  refine WL.u rfl rfl (Wt.plain rfl) (Ex.move rfl) ?_
  refine WL.u rfl rfl (Wt.plain rfl) (Ex.neqB Tryd.underlying4 rfl rfl) ?_
  refine WL.u rfl rfl (Wt.plain rfl) (Ex.move rfl) ?_
  refine WL.split (t := 28) rfl (fun hg6_3 => ?_) (fun hg6_3 => ?_)
  · exfalso; simp at hg6_3
  have hg6_3' := hg6_3; try simp only [decide_eq_true_eq, decide_eq_false_iff_not, Bool.not_eq_true', Bool.not_eq_false', Bool.not_eq_true, Bool.not_eq_false] at hg6_3'
  refine WL.u rfl rfl (Wt.guard' rfl rfl rfl hg6_3 rfl) (Ex.move rfl) ?_
  refine WL.u rfl rfl (Wt.guard' rfl rfl rfl hg6_3 rfl) (Ex.not rfl) ?_
  refine WL.u rfl rfl (Wt.plain rfl) (Ex.pickF rfl hg6_3 rfl) ?_
  refine WL.next ?_
  refine WC.cond rfl (fun hc2 => ?_) (fun hc2 => ?_)
  · have hc2' := hc2; try simp only [decide_eq_true_eq, decide_eq_false_iff_not, Bool.not_eq_true', Bool.not_eq_false', Bool.not_eq_true, Bool.not_eq_false] at hc2'
    refine WC.seq ?_
    refine WC.region ?_
    refine WL.u rfl rfl (Wt.plain rfl) (Ex.move rfl) ?_
    refine WL.u rfl rfl (Wt.plain rfl) (Ex.move rfl) ?_
    refine WL.u rfl rfl (Wt.plain rfl) (Ex.eqlB Tryd.underlying4 rfl rfl) ?_
    refine WL.u rfl rfl (Wt.plain rfl) (Ex.assign rfl) ?_
    refine WL.next ?_
    refine WC.ret ?_
    refine WN.retThen ?_
    refine WN.body1 rfl rfl ?_
    exact ⟨congrArg Value.bool (by simp), hH.keep⟩
  have hts : proofNoneIs g t = true := by simpa using hc2
  obtain ⟨hgi, hr0⟩ := proofNoneIs_ex hts
  have z := ((gridOk_iff g).1 hgi).sz
  have erm := roundManyP hgi
  rw [hr0] at erm
  have erm1 : decide ((roundManyQ g).1 = 0) = true := by rw [erm]; rfl
  have epr := proofRound_none ((off_none z).2 hr0)
  refine WC.skip ?_
  refine WN.next ?_
  refine WC.seq ?_
  refine WC.region ?_
  refine WL.u rfl rfl (Wt.plain rfl) (Ex.move rfl) ?_
  refine WL.call callable13 rfl (Wt.plain rfl) rfl rfl (iRoundManyQ g _ _ _ (ho16.slAt hH 0 rfl) hs) ?_
  rintro _ wn ⟨rfl, hC⟩; replace hH := hH.call hC; clear hC
  refine WL.u rfl rfl (Wt.plain rfl) (Ex.move rfl) ?_
  refine WL.u rfl rfl (Wt.plain rfl) (Ex.extract rfl rfl) ?_
  refine WL.u rfl rfl (Wt.plain rfl) (Ex.extract rfl rfl) ?_
  refine WL.u rfl rfl (Wt.plain rfl) (Ex.assign rfl) ?_
  refine WL.u rfl rfl (Wt.plain rfl) (Ex.assign rfl) ?_
  refine WL.next ?_
  refine WC.seq ?_
  refine WC.region ?_
  refine WL.u rfl rfl (Wt.plain rfl) (Ex.move rfl) ?_
  refine WL.call callable15 rfl (Wt.plain rfl) rfl rfl (iProofRound g _ _ _ (ho16.slAt hH 0 rfl) hs) ?_
  rintro _ wn ⟨rfl, hC⟩; replace hH := hH.call hC; clear hC
  refine WL.u rfl rfl (Wt.plain rfl) (Ex.move rfl) ?_
  refine WL.u rfl rfl (Wt.plain rfl) (Ex.extract rfl rfl) ?_
  refine WL.u rfl rfl (Wt.plain rfl) (Ex.extract rfl rfl) ?_
  refine WL.u rfl rfl (Wt.plain rfl) (Ex.assign rfl) ?_
  refine WL.u rfl rfl (Wt.plain rfl) (Ex.assign rfl) ?_
  refine WL.next ?_
  refine WC.seq ?_
  refine WC.region ?_
  refine WL.u rfl rfl (Wt.plain rfl) (Ex.move rfl) ?_
  refine WL.u rfl rfl (Wt.plain rfl) (Ex.move rfl) ?_
  refine WL.u rfl rfl (Wt.guard' rfl rfl rfl (by rw [erm]) rfl) (Ex.move rfl) ?_
  refine WL.u rfl rfl (Wt.guard' rfl rfl rfl (by rw [erm]) rfl) (Ex.eql rfl rfl) ?_
  refine WL.u rfl rfl (Wt.plain rfl) (Ex.pickT rfl (by rw [erm]) rfl) ?_
  refine WL.u rfl rfl (Wt.plain rfl) (Ex.move rfl) ?_
  refine WL.u rfl rfl (Wt.guard' rfl rfl rfl (erm1) rfl) (Ex.move rfl) ?_
  refine WL.u rfl rfl (Wt.guard' rfl rfl rfl (erm1) rfl) (Ex.not rfl) ?_
  refine WL.u rfl rfl (Wt.plain rfl) (Ex.pickT rfl (erm1) rfl) ?_
  refine WL.u rfl rfl (Wt.plain rfl) (Ex.assign rfl) ?_
  refine WL.next ?_
  refine WC.ret ?_
  refine WN.body1 rfl rfl ?_
  exact ⟨congrArg Value.bool (by rw [epr]; rfl), hH.keep⟩

set_option maxHeartbeats 1000000 in
theorem lawProofRound (a : Option Addr) (l : List UInt8) (cap : Nat) (w : World) (hc : Sl rByte w a l) (hcap : l.length ≤ cap) : Fn Tryd.prog 5 [.slice a l.length cap] w (fun v w1 => v = .bool true ∧ Keep [] w w1) := by
  refine Fn.enter (n := 136) Tryd.func5 rfl rfl rfl ?_
  show WC _ _ _ _ [(0, .slice a l.length cap)] _
  have hH := Hp.start [] w
  refine WC.seq ?_
  refine WC.region ?_
  refine WL.u rfl rfl (Wt.plain rfl) (Ex.assign rfl) ?_
  refine WL.next ?_
  refine WC.seq ?_
  refine WC.seq ?_
  refine WC.region ?_
  refine WL.u rfl rfl (Wt.plain rfl) (Ex.move rfl) ?_
  refine WL.u rfl rfl (Wt.plain rfl) (Ex.lenSl Tryd.underlying22 rfl) ?_
  refine WL.u rfl rfl (Wt.plain rfl) (Ex.gtr rfl rfl) ?_
  refine WL.next ?_
  refine WC.cond rfl (fun hc1 => ?_) (fun hc1 => ?_)
  · have hc1' := hc1; try simp only [decide_eq_true_eq, decide_eq_false_iff_not, Bool.not_eq_true', Bool.not_eq_false', Bool.not_eq_true, Bool.not_eq_false] at hc1'
    refine WC.seq ?_
    refine WC.region ?_
    refine WL.u rfl rfl (Wt.plain rfl) (Ex.assign rfl) ?_
    refine WL.next ?_
    refine WC.ret ?_
    refine WN.retThen ?_
    refine WN.body1 rfl rfl ?_
    exact ⟨rfl, hH.keep⟩
  have hc1' := hc1; try simp only [decide_eq_true_eq, decide_eq_false_iff_not, Bool.not_eq_true', Bool.not_eq_false', Bool.not_eq_true, Bool.not_eq_false] at hc1'
  refine WC.skip ?_
  refine WN.next ?_
  refine WC.seq ?_
  refine WC.region ?_
  refine WL.u rfl rfl (Wt.plain rfl) (Ex.move rfl) ?_
  refine WL.call callable20 rfl (Wt.plain rfl) rfl rfl (sDrawProofRound _ _ _ _ (hc.kept hH.keep) hcap) ?_
  rintro _ wn ⟨g, hC, hN, hgl, hgr⟩; obtain ⟨b22, cap22, cur22, rfl, hge22, hbb22, ho22⟩ := hN.own; replace hH := hH.push hC hge22 hbb22; clear hC hN; have hs := short_of hgr (by omega)
  refine WL.u rfl rfl (Wt.plain rfl) (Ex.assign rfl) ?_
  refine WL.next ?_
  refine WC.seq ?_
  refine WC.region ?_
  refine WL.u rfl rfl (Wt.plain rfl) (Ex.move rfl) ?_
  refine WL.call callable15 rfl (Wt.plain rfl) rfl rfl (iProofRound g _ _ _ (ho22.slAt hH 0 rfl) hs) ?_
  rintro _ wn ⟨rfl, hC⟩; replace hH := hH.call hC; clear hC
  refine WL.u rfl rfl (Wt.plain rfl) (Ex.move rfl) ?_
  refine WL.u rfl rfl (Wt.plain rfl) (Ex.extract rfl rfl) ?_
  refine WL.u rfl rfl (Wt.plain rfl) (Ex.extract rfl rfl) ?_
  refine WL.u rfl rfl (Wt.plain rfl) (Ex.assign rfl) ?_
  refine WL.u rfl rfl (Wt.plain rfl) (Ex.assign rfl) ?_
  refine WL.next ?_
  refine WC.seq ?_
  refine WC.region ?_
  refine WL.u rfl rfl (Wt.plain rfl) (Ex.move rfl) ?_
  refine WL.call callable21 rfl (Wt.plain rfl) rfl rfl (sProofRound g _ _ _ (ho22.slAt hH 0 rfl) hs) ?_
  rintro _ wn ⟨rfl, hC⟩; replace hH := hH.call hC; clear hC
  refine WL.u rfl rfl (Wt.plain rfl) (Ex.move rfl) ?_
  refine WL.u rfl rfl (Wt.plain rfl) (Ex.extract rfl rfl) ?_
  refine WL.u rfl rfl (Wt.plain rfl) (Ex.extract rfl rfl) ?_
  refine WL.u rfl rfl (Wt.plain rfl) (Ex.assign rfl) ?_
  refine WL.u rfl rfl (Wt.plain rfl) (Ex.assign rfl) ?_
  refine WL.next ?_
  refine WC.seq ?_
  refine WC.seq ?_
  refine WC.region ?_
  refine WL.u rfl rfl (Wt.plain rfl) (Ex.move rfl) ?_
  refine WL.u rfl rfl (Wt.plain rfl) (Ex.move rfl) ?_
  refine WL.u rfl rfl (Wt.plain rfl) (Ex.neqB Tryd.underlying4 rfl rfl) ?_
  refine WL.u rfl rfl (Wt.plain rfl) (Ex.move rfl) ?_
  refine WL.split (t := 36) rfl (fun hg6_3 => ?_) (fun hg6_3 => ?_)
  · exfalso; simp at hg6_3
  have hg6_3' := hg6_3; try simp only [decide_eq_true_eq, decide_eq_false_iff_not, Bool.not_eq_true', Bool.not_eq_false', Bool.not_eq_true, Bool.not_eq_false] at hg6_3'
  refine WL.u rfl rfl (Wt.guard' rfl rfl rfl hg6_3 rfl) (Ex.move rfl) ?_
  refine WL.u rfl rfl (Wt.guard' rfl rfl rfl hg6_3 rfl) (Ex.move rfl) ?_
  refine WL.u rfl rfl (Wt.guard' rfl rfl rfl hg6_3 rfl) (Ex.neqStr rfl rfl) ?_
  refine WL.u rfl rfl (Wt.plain rfl) (Ex.pickF rfl hg6_3 rfl) ?_
  refine WL.u rfl rfl (Wt.plain rfl) (Ex.move rfl) ?_
  refine WL.split (t := 41) rfl (fun hg6_8 => ?_) (fun hg6_8 => ?_)
  · exfalso; simp at hg6_8
  have hg6_8' := hg6_8; try simp only [decide_eq_true_eq, decide_eq_false_iff_not, Bool.not_eq_true', Bool.not_eq_false', Bool.not_eq_true, Bool.not_eq_false] at hg6_8'
  refine WL.u rfl rfl (Wt.guard' rfl rfl rfl hg6_8 rfl) (Ex.move rfl) ?_
  refine WL.u rfl rfl (Wt.guard' rfl rfl rfl hg6_8 rfl) (Ex.not rfl) ?_
  refine WL.u rfl rfl (Wt.plain rfl) (Ex.pickF rfl hg6_8 rfl) ?_
  refine WL.next ?_
  refine WC.cond rfl (fun hc2 => ?_) (fun hc2 => ?_)
  · have hc2' := hc2; try simp only [decide_eq_true_eq, decide_eq_false_iff_not, Bool.not_eq_true', Bool.not_eq_false', Bool.not_eq_true, Bool.not_eq_false] at hc2'
    refine WC.seq ?_
    refine WC.region ?_
    refine WL.u rfl rfl (Wt.plain rfl) (Ex.move rfl) ?_
    refine WL.u rfl rfl (Wt.plain rfl) (Ex.move rfl) ?_
    refine WL.u rfl rfl (Wt.plain rfl) (Ex.eqlB Tryd.underlying4 rfl rfl) ?_
    refine WL.u rfl rfl (Wt.plain rfl) (Ex.move rfl) ?_
    refine WL.split (t := 48) rfl (fun hg7_3 => ?_) (fun hg7_3 => ?_)
    · have hg7_3' := hg7_3; try simp only [decide_eq_true_eq, decide_eq_false_iff_not, Bool.not_eq_true', Bool.not_eq_false', Bool.not_eq_true, Bool.not_eq_false] at hg7_3'
      refine WL.u rfl rfl (Wt.guard' rfl rfl rfl hg7_3 rfl) (Ex.move rfl) ?_
      refine WL.u rfl rfl (Wt.guard' rfl rfl rfl hg7_3 rfl) (Ex.move rfl) ?_
      refine WL.u rfl rfl (Wt.guard' rfl rfl rfl hg7_3 rfl) (Ex.eqlStr rfl rfl) ?_
      refine WL.u rfl rfl (Wt.plain rfl) (Ex.pickT rfl hg7_3 rfl) ?_
      refine WL.u rfl rfl (Wt.plain rfl) (Ex.assign rfl) ?_
      refine WL.next ?_
      refine WC.ret ?_
      refine WN.retThen ?_
      refine WN.body1 rfl rfl ?_
      exact ⟨congrArg Value.bool (by simp), hH.keep⟩
    exfalso; simp at hg7_3
  have hts : (proofRound g).2 = true := by simpa using hc2
  obtain ⟨hgi, x, hx, hpr⟩ := proofRound_ex hts
  have hG := (gridOk_iff g).1 hgi
  have z := hG.sz
  obtain ⟨hx1, hx2, hx3⟩ := off_close z hx
  have hok : Ok g (stepOf x) := stepOf_ok hx1
  have h100 : x / 4 < 100 := cell_100 z hok
  have hri := roundIs_hit z hgi hok (text_ne z hx) rfl
  have hrl : roundLeast g = (x / 4, true) := by rw [roundLeast, if_pos hgi, hx]
  obtain ⟨hT8, hT1, hT2⟩ := round_bytes hx2 h100
  have hlm : ((close g (stepOf x)).1.length : Int) ∈ (sortI ((rounds g).map fun r => (r.length : Int))) := sortI_mem (List.mem_map.2 ⟨_, off_mem hx, rfl⟩)
  have hll : ((sortI ((rounds g).map fun r => (r.length : Int)))).length ≤ 1000 := by rw [sortI_len, List.length_map]; have := rounds_len g; have := cells_le hG; omega
  rw [hpr] at *
  refine WC.skip ?_
  refine WN.next ?_
  refine WC.seq ?_
  refine WC.region ?_
  refine WL.u rfl rfl (Wt.plain rfl) (Ex.move rfl) ?_
  refine WL.u rfl rfl (Wt.plain rfl) (Ex.move rfl) ?_
  refine WL.call callable22 rfl (Wt.plain rfl) rfl rfl (iProofRoundIs g _ _ (roundText g (stepOf x)) _ (ho22.slAt hH 0 rfl) hs) ?_
  rintro _ wn ⟨rfl, hC⟩; replace hH := hH.call hC; clear hC
  refine WL.u rfl rfl (Wt.plain rfl) (Ex.move rfl) ?_
  refine WL.u rfl rfl (Wt.plain rfl) (Ex.extract rfl rfl) ?_
  refine WL.u rfl rfl (Wt.plain rfl) (Ex.extract rfl rfl) ?_
  refine WL.u rfl rfl (Wt.plain rfl) (Ex.assign rfl) ?_
  refine WL.u rfl rfl (Wt.plain rfl) (Ex.assign rfl) ?_
  refine WL.next ?_
  refine WC.seq ?_
  rw [hri]
  refine WC.region ?_
  refine WL.u rfl rfl (Wt.plain rfl) (Ex.move rfl) ?_
  refine WL.call callable23 rfl (Wt.plain rfl) rfl rfl (iRoundLengths g _ _ _ (ho22.slAt hH 0 rfl) hG) ?_
  rintro _ wn ⟨x1, rfl, hC, hN⟩; obtain ⟨b61, cap61, cur61, rfl, hge61, hbb61, ho61⟩ := hN.own; replace hH := hH.push hC hge61 hbb61; clear hC hN
  refine WL.u rfl rfl (Wt.plain rfl) (Ex.move rfl) ?_
  refine WL.u rfl rfl (Wt.plain rfl) (Ex.extract rfl rfl) ?_
  refine WL.u rfl rfl (Wt.plain rfl) (Ex.extract rfl rfl) ?_
  refine WL.u rfl rfl (Wt.plain rfl) (Ex.assign rfl) ?_
  refine WL.u rfl rfl (Wt.plain rfl) (Ex.assign rfl) ?_
  refine WL.next ?_
  refine WC.seq ?_
  refine WC.region ?_
  refine WL.u rfl rfl (Wt.plain rfl) (Ex.move rfl) ?_
  refine WL.call callable24 rfl (Wt.plain rfl) rfl rfl (iRoundLeast g _ _ _ (ho22.slAt hH 1 rfl) hs) ?_
  rintro _ wn ⟨rfl, hC⟩; replace hH := hH.call hC; clear hC
  refine WL.u rfl rfl (Wt.plain rfl) (Ex.move rfl) ?_
  refine WL.u rfl rfl (Wt.plain rfl) (Ex.extract rfl rfl) ?_
  refine WL.u rfl rfl (Wt.plain rfl) (Ex.extract rfl rfl) ?_
  refine WL.u rfl rfl (Wt.plain rfl) (Ex.assign rfl) ?_
  refine WL.u rfl rfl (Wt.plain rfl) (Ex.assign rfl) ?_
  refine WL.next ?_
  refine WC.seq ?_
  rw [hrl]
  refine WC.region ?_
  refine WL.u rfl rfl (Wt.plain rfl) (Ex.assign rfl) ?_
  refine WL.next ?_
  refine WC.seq ?_
  refine WC.seq ?_
  refine WC.region ?_
  refine WL.u rfl rfl (Wt.plain rfl) (Ex.assign rfl) ?_
  refine WL.next ?_
  refine WC.block ?_
  refine WC.loop (ι := Nat × Bool) (fun (i, bb) => [(4, vstr (roundText g (stepOf x))), (8, vint ((close g (stepOf x)).1.length : Int)), (9, .bool true), (10, vsl b61 (sortI ((rounds g).map fun r => (r.length : Int))).length cap61), (11, .bool true), (12, vint (x / 4 : Nat)), (13, .bool true), (14, .bool bb), (15, vint i)]) (fun (i, bb) wn => Hp [] w wn [(b61, .cells cur61 3 (0, 0))] ∧ (bb = true ↔ ∃ j, j < i ∧ (sortI ((rounds g).map fun r => (r.length : Int))).getD j 0 = ((close g (stepOf x)).1.length : Int)) ∧ i ≤ (sortI ((rounds g).map fun r => (r.length : Int))).length) (fun (i, bb) => (sortI ((rounds g).map fun r => (r.length : Int))).length - i) ((0, false)) (by exact ⟨rfl, rfl, rfl, rfl, rfl, rfl, rfl, rfl, rfl, trivial⟩) ?_ ?_
  · exact ⟨hH.first1, by simp, Nat.zero_le _⟩
  rintro ⟨i, bb⟩ wn ⟨hH, hbb, hi⟩
  intro mu0 hmu; try dsimp only at hmu
  show WC _ _ _ _ [(4, vstr (roundText g (stepOf x))), (8, vint ((close g (stepOf x)).1.length : Int)), (9, .bool true), (10, vsl b61 (sortI ((rounds g).map fun r => (r.length : Int))).length cap61), (11, .bool true), (12, vint (x / 4 : Nat)), (13, .bool true), (14, .bool bb), (15, vint i)] _
  refine WC.seq ?_
  refine WC.seq ?_
  refine WC.region ?_
  refine WL.u rfl rfl (Wt.plain rfl) (Ex.move rfl) ?_
  refine WL.u rfl rfl (Wt.plain rfl) (Ex.move rfl) ?_
  refine WL.u rfl rfl (Wt.plain rfl) (Ex.lenSl Tryd.underlying34 rfl) ?_
  refine WL.u rfl rfl (Wt.plain rfl) (Ex.lss rfl rfl) ?_
  refine WL.next ?_
  refine WC.cond rfl (fun hc3 => ?_) (fun hc3 => ?_)
  · have hc3' := hc3; try simp only [decide_eq_true_eq, decide_eq_false_iff_not, Bool.not_eq_true', Bool.not_eq_false', Bool.not_eq_true, Bool.not_eq_false] at hc3'
    have hli : i < (sortI ((rounds g).map fun r => (r.length : Int))).length := by omega
    refine WC.skip ?_
    refine WN.next ?_
    refine WC.seq ?_
    refine WC.block ?_
    refine WC.region ?_
    refine WL.u rfl rfl (Wt.plain rfl) (Ex.move rfl) ?_
    refine WL.u rfl rfl (Wt.plain rfl) (Ex.move rfl) ?_
    refine WL.split (t := 76) rfl (fun hg15_1 => ?_) (fun hg15_1 => ?_)
    · have hg15_1' := hg15_1; try simp only [decide_eq_true_eq, decide_eq_false_iff_not, Bool.not_eq_true', Bool.not_eq_false', Bool.not_eq_true, Bool.not_eq_false] at hg15_1'
      refine WL.pass rfl rfl (Wt.guard' rfl rfl rfl hg15_1 rfl) ?_
      refine WL.pass rfl rfl (Wt.guard' rfl rfl rfl hg15_1 rfl) ?_
      refine WL.pass rfl rfl (Wt.guard' rfl rfl rfl hg15_1 rfl) ?_
      refine WL.pass rfl rfl (Wt.guard' rfl rfl rfl hg15_1 rfl) ?_
      refine WL.pass rfl rfl (Wt.guard' rfl rfl rfl hg15_1 rfl) ?_
      refine WL.pass rfl rfl (Wt.guard' rfl rfl rfl hg15_1 rfl) ?_
      refine WL.u rfl rfl (Wt.plain rfl) (Ex.pickT rfl hg15_1 rfl) ?_
      refine WL.u rfl rfl (Wt.plain rfl) (Ex.assign rfl) ?_
      refine WL.last ?_
      refine WN.normalBlock ?_
      refine WN.next ?_
      refine WC.region ?_
      refine WL.u rfl rfl (Wt.plain rfl) (Ex.move rfl) ?_
      refine WL.u rfl rfl (Wt.plain rfl) (Ex.add rfl rfl (by omega)) ?_
      refine WL.u rfl rfl (Wt.plain rfl) (Ex.assign rfl) ?_
      refine WL.last ?_
      refine WN.round (i + 1, true) (by exact ⟨rfl, rfl, rfl, rfl, rfl, rfl, rfl, rfl, rfl, trivial⟩) ?_ ?_
      · exact ⟨hH, ⟨fun _ => by obtain ⟨j, hj, e⟩ := hbb.1 hg15_1; exact ⟨j, by omega, e⟩, fun _ => rfl⟩, by omega⟩
      · (try dsimp only); omega
    have hg15_1' := hg15_1; try simp only [decide_eq_true_eq, decide_eq_false_iff_not, Bool.not_eq_true', Bool.not_eq_false', Bool.not_eq_true, Bool.not_eq_false] at hg15_1'
    refine WL.u rfl rfl (Wt.guard' rfl rfl rfl hg15_1 rfl) (Ex.move rfl) ?_
    refine WL.u rfl rfl (Wt.guard' rfl rfl rfl hg15_1 rfl) (Ex.move rfl) ?_
    refine WL.u rfl rfl (Wt.guard' rfl rfl rfl hg15_1 rfl) (Ex.indexAddr Tryd.underlying34 ty3 rfl rfl (by omega)) ?_
    refine WL.u rfl rfl (Wt.guard' rfl rfl rfl hg15_1 rfl) (Ex.loadHp flat3 rfl hH (ho61.get rfl (getD_get (sortI ((rounds g).map fun r => (r.length : Int))) i 0 hli))) ?_
    refine WL.u rfl rfl (Wt.guard' rfl rfl rfl hg15_1 rfl) (Ex.move rfl) ?_
    refine WL.u rfl rfl (Wt.guard' rfl rfl rfl hg15_1 rfl) (Ex.eql rfl rfl) ?_
    refine WL.u rfl rfl (Wt.plain rfl) (Ex.pickF rfl hg15_1 rfl) ?_
    refine WL.u rfl rfl (Wt.plain rfl) (Ex.assign rfl) ?_
    refine WL.last ?_
    refine WN.normalBlock ?_
    refine WN.next ?_
    refine WC.region ?_
    refine WL.u rfl rfl (Wt.plain rfl) (Ex.move rfl) ?_
    refine WL.u rfl rfl (Wt.plain rfl) (Ex.add rfl rfl (by omega)) ?_
    refine WL.u rfl rfl (Wt.plain rfl) (Ex.assign rfl) ?_
    refine WL.last ?_
    refine WN.round (i + 1, decide ((sortI ((rounds g).map fun r => (r.length : Int))).getD i 0 = ((close g (stepOf x)).1.length : Int))) (by exact ⟨rfl, rfl, rfl, rfl, rfl, rfl, rfl, rfl, rfl, trivial⟩) ?_ ?_
    · refine ⟨hH, ?_, by omega⟩
      rw [decide_eq_true_eq]
      constructor
      · intro e; exact ⟨i, by omega, e⟩
      · rintro ⟨j, hj, e⟩
        rcases Nat.lt_succ_iff_lt_or_eq.1 hj with h | h
        · rw [hbb.2 ⟨j, h, e⟩] at hg15_1; cases hg15_1
        · rw [← h]; exact e
    · (try dsimp only); omega
  have hc3' := hc3; try simp only [decide_eq_true_eq, decide_eq_false_iff_not, Bool.not_eq_true', Bool.not_eq_false', Bool.not_eq_true, Bool.not_eq_false] at hc3'
  have hin : bb = true := by
    obtain ⟨j, hj, e⟩ := List.getElem_of_mem hlm
    exact hbb.2 ⟨j, by omega, by rw [List.getD_eq_getElem?_getD, List.getElem?_eq_getElem hj]; exact e⟩
  rw [show (stepOf x).1 = x / 4 from rfl] at hT1 hT2
  refine WC.exit ?_
  refine WN.exitThen ?_
  refine WN.exitThen ?_
  refine WN.exitHere ?_
  refine WN.next ?_
  refine WC.seq ?_
  refine WC.region ?_
  refine WL.u rfl rfl (Wt.plain rfl) (Ex.move rfl) ?_
  refine WL.u rfl rfl (Wt.plain rfl) ((Ex.quo rfl rfl (by omega) (by omega)).to (congrArg (Value.int IntKind.i64) (show _ = ((x / 4 / 10 : Nat) : Int) from rfl))) ?_
  refine WL.u rfl rfl (Wt.plain rfl) (Ex.gtr rfl rfl) ?_
  refine WL.u rfl rfl (Wt.plain rfl) (Ex.move rfl) ?_
  refine WL.split (t := 87) rfl (fun hg16_3 => ?_) (fun hg16_3 => ?_)
  · have hg16_3' := hg16_3; try simp only [decide_eq_true_eq, decide_eq_false_iff_not, Bool.not_eq_true', Bool.not_eq_false', Bool.not_eq_true, Bool.not_eq_false] at hg16_3'
    have hten : 10 ≤ x / 4 := by omega
    obtain ⟨hd6, hd7⟩ := hT2 hten
    refine WL.u rfl rfl (Wt.guard' rfl rfl rfl hg16_3 rfl) (Ex.move rfl) ?_
    refine WL.u rfl rfl (Wt.guard' rfl rfl rfl hg16_3 rfl) (Ex.indexStr Tryd.underlying9 rfl rfl (by (try simp only [List.length_cons, List.length_nil]); omega)) ?_
    refine WL.u rfl rfl (Wt.guard' rfl rfl rfl hg16_3 rfl) (Ex.move rfl) ?_
    refine WL.u rfl rfl (Wt.guard' rfl rfl rfl hg16_3 rfl) ((Ex.quo rfl rfl (by omega) (by omega)).to (congrArg (Value.int IntKind.i64) (show _ = ((x / 4 / 10 : Nat) : Int) from rfl))) ?_
    refine WL.u rfl rfl (Wt.guard' rfl rfl rfl hg16_3 rfl) ((Ex.add rfl rfl (by omega)).to (congrArg (Value.int IntKind.i64) (show _ = ((48 + x / 4 / 10 : Nat) : Int) by omega))) ?_
    refine WL.u rfl rfl (Wt.guard' rfl rfl rfl hg16_3 rfl) ((Ex.conv Tryd.underlying5 Tryd.underlying3 rfl).to (congrArg (Value.int IntKind.u8) (wrapU8 (k := 48 + x / 4 / 10) (by omega)))) ?_
    refine WL.u rfl rfl (Wt.guard' rfl rfl rfl hg16_3 rfl) (Ex.eql rfl rfl) ?_
    refine WL.u rfl rfl (Wt.plain rfl) (Ex.pickT rfl hg16_3 rfl) ?_
    refine WL.u rfl rfl (Wt.plain rfl) (Ex.move rfl) ?_
    refine WL.u rfl rfl (Wt.guard' rfl rfl rfl (decide_eq_true (by show (((roundText g (stepOf x)).getD 6 0).toNat : Int) = _; rw [hd6])) rfl) (Ex.move rfl) ?_
    refine WL.u rfl rfl (Wt.guard' rfl rfl rfl (decide_eq_true (by show (((roundText g (stepOf x)).getD 6 0).toNat : Int) = _; rw [hd6])) rfl) (Ex.indexStr Tryd.underlying9 rfl rfl (by (try simp only [List.length_cons, List.length_nil]); omega)) ?_
    refine WL.u rfl rfl (Wt.guard' rfl rfl rfl (decide_eq_true (by show (((roundText g (stepOf x)).getD 6 0).toNat : Int) = _; rw [hd6])) rfl) (Ex.move rfl) ?_
    refine WL.u rfl rfl (Wt.guard' rfl rfl rfl (decide_eq_true (by show (((roundText g (stepOf x)).getD 6 0).toNat : Int) = _; rw [hd6])) rfl) ((Ex.rem rfl rfl (by omega) (by omega)).to (congrArg (Value.int IntKind.i64) (show _ = ((x / 4 % 10 : Nat) : Int) from rfl))) ?_
    refine WL.u rfl rfl (Wt.guard' rfl rfl rfl (decide_eq_true (by show (((roundText g (stepOf x)).getD 6 0).toNat : Int) = _; rw [hd6])) rfl) ((Ex.add rfl rfl (by omega)).to (congrArg (Value.int IntKind.i64) (show _ = ((48 + x / 4 % 10 : Nat) : Int) by omega))) ?_
    refine WL.u rfl rfl (Wt.guard' rfl rfl rfl (decide_eq_true (by show (((roundText g (stepOf x)).getD 6 0).toNat : Int) = _; rw [hd6])) rfl) ((Ex.conv Tryd.underlying5 Tryd.underlying3 rfl).to (congrArg (Value.int IntKind.u8) (wrapU8 (k := 48 + x / 4 % 10) (by omega)))) ?_
    refine WL.u rfl rfl (Wt.guard' rfl rfl rfl (decide_eq_true (by show (((roundText g (stepOf x)).getD 6 0).toNat : Int) = _; rw [hd6])) rfl) (Ex.eql rfl rfl) ?_
    refine WL.u rfl rfl (Wt.plain rfl) (Ex.pickT rfl (decide_eq_true (by show (((roundText g (stepOf x)).getD 6 0).toNat : Int) = _; rw [hd6])) rfl) ?_
    refine WL.u rfl rfl (Wt.plain rfl) (Ex.assign rfl) ?_
    refine WL.next ?_
    refine WC.seq ?_
    refine WC.region ?_
    refine WL.u rfl rfl (Wt.plain rfl) (Ex.move rfl) ?_
    refine WL.u rfl rfl (Wt.plain rfl) (Ex.lss rfl rfl) ?_
    refine WL.u rfl rfl (Wt.plain rfl) (Ex.move rfl) ?_
    refine WL.pass rfl rfl (Wt.guard' rfl rfl rfl (decide_eq_false (by omega)) rfl) ?_
    refine WL.pass rfl rfl (Wt.guard' rfl rfl rfl (decide_eq_false (by omega)) rfl) ?_
    refine WL.pass rfl rfl (Wt.guard' rfl rfl rfl (decide_eq_false (by omega)) rfl) ?_
    refine WL.pass rfl rfl (Wt.guard' rfl rfl rfl (decide_eq_false (by omega)) rfl) ?_
    refine WL.pass rfl rfl (Wt.guard' rfl rfl rfl (decide_eq_false (by omega)) rfl) ?_
    refine WL.pass rfl rfl (Wt.guard' rfl rfl rfl (decide_eq_false (by omega)) rfl) ?_
    refine WL.u rfl rfl (Wt.plain rfl) (Ex.pickF rfl (decide_eq_false (by omega)) rfl) ?_
    refine WL.u rfl rfl (Wt.plain rfl) (Ex.move rfl) ?_
    refine WL.pass rfl rfl (Wt.guard' rfl rfl rfl rfl rfl) ?_
    refine WL.pass rfl rfl (Wt.guard' rfl rfl rfl rfl rfl) ?_
    refine WL.pass rfl rfl (Wt.guard' rfl rfl rfl rfl rfl) ?_
    refine WL.u rfl rfl (Wt.plain rfl) (Ex.pickF rfl rfl rfl) ?_
    refine WL.u rfl rfl (Wt.plain rfl) (Ex.assign rfl) ?_
    refine WL.next ?_
    refine WC.seq ?_
    refine WC.region ?_
    refine WL.u rfl rfl (Wt.plain rfl) (Ex.move rfl) ?_
    refine WL.u rfl rfl (Wt.plain rfl) (Ex.move rfl) ?_
    refine WL.u rfl rfl (Wt.guard' rfl rfl rfl (rfl) rfl) (Ex.move rfl) ?_
    refine WL.u rfl rfl (Wt.plain rfl) (Ex.pickT rfl (rfl) rfl) ?_
    refine WL.u rfl rfl (Wt.plain rfl) (Ex.move rfl) ?_
    refine WL.u rfl rfl (Wt.guard' rfl rfl rfl (rfl) rfl) (Ex.move rfl) ?_
    refine WL.u rfl rfl (Wt.plain rfl) (Ex.pickT rfl (rfl) rfl) ?_
    refine WL.u rfl rfl (Wt.plain rfl) (Ex.move rfl) ?_
    refine WL.u rfl rfl (Wt.guard' rfl rfl rfl (rfl) rfl) (Ex.move rfl) ?_
    refine WL.u rfl rfl (Wt.plain rfl) (Ex.pickT rfl (rfl) rfl) ?_
    refine WL.u rfl rfl (Wt.plain rfl) (Ex.move rfl) ?_
    refine WL.u rfl rfl (Wt.guard' rfl rfl rfl (hin) rfl) (Ex.move rfl) ?_
    refine WL.u rfl rfl (Wt.guard' rfl rfl rfl (hin) rfl) (Ex.move rfl) ?_
    refine WL.u rfl rfl (Wt.guard' rfl rfl rfl rfl rfl) (Ex.move rfl) ?_
    refine WL.u rfl rfl (Wt.guard' rfl rfl rfl (hin) rfl) (Ex.pickF rfl rfl rfl) ?_
    refine WL.u rfl rfl (Wt.plain rfl) (Ex.pickT rfl (hin) rfl) ?_
    refine WL.u rfl rfl (Wt.plain rfl) (Ex.assign rfl) ?_
    refine WL.next ?_
    refine WC.ret ?_
    refine WN.body1 rfl rfl ?_
    exact ⟨congrArg Value.bool (decide_eq_true (by show (((roundText g (stepOf x)).getD 7 0).toNat : Int) = _; rw [hd7])), hH.keep⟩
  have hg16_3' := hg16_3; try simp only [decide_eq_true_eq, decide_eq_false_iff_not, Bool.not_eq_true', Bool.not_eq_false', Bool.not_eq_true, Bool.not_eq_false] at hg16_3'
  have hten : x / 4 < 10 := by omega
  obtain ⟨hd6, hd7⟩ := hT1 hten
  refine WL.pass rfl rfl (Wt.guard' rfl rfl rfl hg16_3 rfl) ?_
  refine WL.pass rfl rfl (Wt.guard' rfl rfl rfl hg16_3 rfl) ?_
  refine WL.pass rfl rfl (Wt.guard' rfl rfl rfl hg16_3 rfl) ?_
  refine WL.pass rfl rfl (Wt.guard' rfl rfl rfl hg16_3 rfl) ?_
  refine WL.pass rfl rfl (Wt.guard' rfl rfl rfl hg16_3 rfl) ?_
  refine WL.pass rfl rfl (Wt.guard' rfl rfl rfl hg16_3 rfl) ?_
  refine WL.pass rfl rfl (Wt.guard' rfl rfl rfl hg16_3 rfl) ?_
  refine WL.u rfl rfl (Wt.plain rfl) (Ex.pickF rfl hg16_3 rfl) ?_
  refine WL.u rfl rfl (Wt.plain rfl) (Ex.move rfl) ?_
  refine WL.pass rfl rfl (Wt.guard' rfl rfl rfl rfl rfl) ?_
  refine WL.pass rfl rfl (Wt.guard' rfl rfl rfl rfl rfl) ?_
  refine WL.pass rfl rfl (Wt.guard' rfl rfl rfl rfl rfl) ?_
  refine WL.pass rfl rfl (Wt.guard' rfl rfl rfl rfl rfl) ?_
  refine WL.pass rfl rfl (Wt.guard' rfl rfl rfl rfl rfl) ?_
  refine WL.pass rfl rfl (Wt.guard' rfl rfl rfl rfl rfl) ?_
  refine WL.pass rfl rfl (Wt.guard' rfl rfl rfl rfl rfl) ?_
  refine WL.u rfl rfl (Wt.plain rfl) (Ex.pickF rfl rfl rfl) ?_
  refine WL.u rfl rfl (Wt.plain rfl) (Ex.assign rfl) ?_
  refine WL.next ?_
  refine WC.seq ?_
  refine WC.region ?_
  refine WL.u rfl rfl (Wt.plain rfl) (Ex.move rfl) ?_
  refine WL.u rfl rfl (Wt.plain rfl) (Ex.lss rfl rfl) ?_
  refine WL.u rfl rfl (Wt.plain rfl) (Ex.move rfl) ?_
  refine WL.u rfl rfl (Wt.guard' rfl rfl rfl (decide_eq_true (by omega)) rfl) (Ex.move rfl) ?_
  refine WL.u rfl rfl (Wt.guard' rfl rfl rfl (decide_eq_true (by omega)) rfl) (Ex.indexStr Tryd.underlying9 rfl rfl (by (try simp only [List.length_cons, List.length_nil]); omega)) ?_
  refine WL.u rfl rfl (Wt.guard' rfl rfl rfl (decide_eq_true (by omega)) rfl) (Ex.move rfl) ?_
  refine WL.u rfl rfl (Wt.guard' rfl rfl rfl (decide_eq_true (by omega)) rfl) ((Ex.add rfl rfl (by omega)).to (congrArg (Value.int IntKind.i64) (show _ = ((48 + x / 4 : Nat) : Int) by omega))) ?_
  refine WL.u rfl rfl (Wt.guard' rfl rfl rfl (decide_eq_true (by omega)) rfl) ((Ex.conv Tryd.underlying5 Tryd.underlying3 rfl).to (congrArg (Value.int IntKind.u8) (wrapU8 (k := 48 + x / 4) (by omega)))) ?_
  refine WL.u rfl rfl (Wt.guard' rfl rfl rfl (decide_eq_true (by omega)) rfl) (Ex.eql rfl rfl) ?_
  refine WL.u rfl rfl (Wt.plain rfl) (Ex.pickT rfl (decide_eq_true (by omega)) rfl) ?_
  refine WL.u rfl rfl (Wt.plain rfl) (Ex.move rfl) ?_
  refine WL.u rfl rfl (Wt.guard' rfl rfl rfl (decide_eq_true (by show (((roundText g (stepOf x)).getD 6 0).toNat : Int) = _; rw [hd6])) rfl) (Ex.move rfl) ?_
  refine WL.u rfl rfl (Wt.guard' rfl rfl rfl (decide_eq_true (by show (((roundText g (stepOf x)).getD 6 0).toNat : Int) = _; rw [hd6])) rfl) (Ex.indexStr Tryd.underlying9 rfl rfl (by (try simp only [List.length_cons, List.length_nil]); omega)) ?_
  refine WL.u rfl rfl (Wt.guard' rfl rfl rfl (decide_eq_true (by show (((roundText g (stepOf x)).getD 6 0).toNat : Int) = _; rw [hd6])) rfl) (Ex.eql rfl rfl) ?_
  refine WL.u rfl rfl (Wt.plain rfl) (Ex.pickT rfl (decide_eq_true (by show (((roundText g (stepOf x)).getD 6 0).toNat : Int) = _; rw [hd6])) rfl) ?_
  refine WL.u rfl rfl (Wt.plain rfl) (Ex.assign rfl) ?_
  refine WL.next ?_
  refine WC.seq ?_
  refine WC.region ?_
  refine WL.u rfl rfl (Wt.plain rfl) (Ex.move rfl) ?_
  refine WL.u rfl rfl (Wt.plain rfl) (Ex.move rfl) ?_
  refine WL.u rfl rfl (Wt.guard' rfl rfl rfl (rfl) rfl) (Ex.move rfl) ?_
  refine WL.u rfl rfl (Wt.plain rfl) (Ex.pickT rfl (rfl) rfl) ?_
  refine WL.u rfl rfl (Wt.plain rfl) (Ex.move rfl) ?_
  refine WL.u rfl rfl (Wt.guard' rfl rfl rfl (rfl) rfl) (Ex.move rfl) ?_
  refine WL.u rfl rfl (Wt.plain rfl) (Ex.pickT rfl (rfl) rfl) ?_
  refine WL.u rfl rfl (Wt.plain rfl) (Ex.move rfl) ?_
  refine WL.u rfl rfl (Wt.guard' rfl rfl rfl (rfl) rfl) (Ex.move rfl) ?_
  refine WL.u rfl rfl (Wt.plain rfl) (Ex.pickT rfl (rfl) rfl) ?_
  refine WL.u rfl rfl (Wt.plain rfl) (Ex.move rfl) ?_
  refine WL.u rfl rfl (Wt.guard' rfl rfl rfl (hin) rfl) (Ex.move rfl) ?_
  refine WL.u rfl rfl (Wt.guard' rfl rfl rfl (hin) rfl) (Ex.move rfl) ?_
  refine WL.pass rfl rfl (Wt.guard' rfl rfl rfl (decide_eq_true (by show (((roundText g (stepOf x)).getD 7 0).toNat : Int) = _; rw [hd7]; rfl)) rfl) ?_
  refine WL.u rfl rfl (Wt.guard' rfl rfl rfl (hin) rfl) (Ex.pickT rfl (decide_eq_true (by show (((roundText g (stepOf x)).getD 7 0).toNat : Int) = _; rw [hd7]; rfl)) rfl) ?_
  refine WL.u rfl rfl (Wt.plain rfl) (Ex.pickT rfl (hin) rfl) ?_
  refine WL.u rfl rfl (Wt.plain rfl) (Ex.assign rfl) ?_
  refine WL.next ?_
  refine WC.ret ?_
  refine WN.body1 rfl rfl ?_
  exact ⟨rfl, hH.keep⟩

end Go.Proofs.YtmhmdlgcdeodmaaDoor
