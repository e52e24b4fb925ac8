/- Texts of lengths: the program's by the library, the reference's by hand. -/
import Derived.Test.YtmhmdlgcdeodmaaDoorDoLp
import Derived.Test.YtmhmdlgcdeodmaaDoorShelf
import Derived.Test.YtmhmdlgcdeodmaaDoorDoRn
import Derived.Test.YtmhmdlgcdeodmaaDoorAsk
import Derived.Test.YtmhmdlgcdeodmaaDoorBLen
import Derived.Test.YtmhmdlgcdeodmaaDoorTexts
import Derived.Test.YtmhmdlgcdeodmaaDoorDraw
import Derived.Test.YtmhmdlgcdeodmaaDoorConv
namespace Go.Proofs.YtmhmdlgcdeodmaaDoor
set_option maxRecDepth 100000
set_option linter.unusedSimpArgs false
set_option linter.unusedVariables false
open Go Go.RowKit
theorem decDig {n : Nat} (h : n < 100) : Go.Lib.decDigits n = decL n := by
  unfold Go.Lib.decDigits decL
  by_cases h1 : n < 10
  · rw [dif_pos h1, if_pos h1]
  · rw [dif_neg h1, if_neg h1]
    unfold Go.Lib.decDigits
    rw [dif_pos (by omega)]; rfl
theorem Keep.ofBelow {w w' : World} (h : Below w.heap.size w w') : Keep [] w w' := ⟨h.os, h.tape, h.output, h.size, fun k hk _ => h.block k hk⟩
theorem iItoa (n : Nat) (w : World) (h : n < 100) : Fn Tryd.prog 41 [vint n] w (fun v w1 => v = vstr (decL n) ∧ w1 = w) :=
  Calls.mono (Tryd.strconv_Itoa_small n h w) fun e w1 ⟨h1, h2⟩ => by subst h1; exact ⟨by rw [decDig h] <;> rfl, h2⟩
theorem join_words (l : List Nat) : Go.Lib.join (lth :: l.map decL) [32] = wordsT l := by
  rw [Go.Lib.join_cons]
  unfold wordsT Go.Lib.joinTail
  rw [List.map_map, List.flatten_eq_flatMap, List.flatMap_map]
  rfl
theorem iJoin (l : List Nat) (b cap : Nat) (w : World) (hs : Sl rStr w (some ⟨b, 0, none⟩) (lth :: l.map decL)) (hl : l.length ≤ 100) (hcap : l.length + 1 ≤ cap) (hd : ∀ x ∈ l, x < 100) :
    Fn Tryd.prog 42 [vsl b (l.length + 1) cap, vstr [32]] w (fun v w1 => v = vstr (wordsT l) ∧ Keep [] w w1) := by
  have hxs : ((lth :: l.map decL).map fun s => (⟨s.toArray⟩ : ByteArray)).length = l.length + 1 := by simp
  have hdat : (((lth :: l.map decL).map fun s => (⟨s.toArray⟩ : ByteArray)).map (·.data.toList)) = lth :: l.map decL := by
    rw [List.map_map]
    exact (List.map_congr_left (g := id) fun x _ => rfl).trans (List.map_id _)
  have hcell : ∀ (j : Nat) x, ((lth :: l.map decL).map fun s => (⟨s.toArray⟩ : ByteArray))[j]? = some x → w.cell? ⟨b, 0 + j, none⟩ = some (.string x) := fun j x hx => by
    rw [List.getElem?_map] at hx
    cases hg : (lth :: l.map decL)[j]? with
    | none => rw [hg] at hx; cases hx
    | some s =>
      rw [hg] at hx
      cases hx
      have := hs.cell (k := 0) hg rfl
      rw [show rStr.sz = 1 from rfl, Nat.mul_one, Nat.add_zero] at this
      exact this
  have hlt : b < w.heap.size := World.block_lt_of_cell? w _ (hcell 0 _ rfl)
  have hw := wordsT_len hd
  have h := Tryd.strings_Join b 0 cap ((lth :: l.map decL).map fun s => (⟨s.toArray⟩ : ByteArray)) ⟨#[32]⟩ w hcell hlt (by rw [hxs]; omega) (by rw [hxs]; exact hcap) (by
    rw [hdat]
    show (Go.Lib.join (lth :: l.map decL) [32]).length ≤ _
    rw [join_words]; omega)
  rw [hxs, hdat] at h
  refine Calls.mono h fun e w1 ⟨h1, h2⟩ => by
    subst h1
    refine ⟨?_, Keep.ofBelow h2⟩
    show Value.string ⟨(Go.Lib.join (lth :: l.map decL) [32]).toArray⟩ = _
    rw [join_words] <;> rfl
theorem beamWay_len {g : Grid} (hG : GridOk g) {p : Nat} (hp : p < ports g) : (beamWay g (p : Int)).length = (way g p).1.length := by
  have hpi : portIn g (p : Int) = true := by
    unfold portIn; rw [gridIn_true hG, decide_eq_true (show (0 : Int) ≤ p ∧ (p : Int) < ports g by omega)]; rfl
  unfold beamWay
  rw [if_pos hpi]; simp
theorem gshortP {g : Grid} (h : GridOk g) : Short g := fun i => by
  by_cases hi : i < g.length
  · have h1 := h.row i hi
    have h2 := h.m5
    omega
  · have e : g.getD i [] = [] := by simp [List.getD_eq_getElem?_getD, List.getElem?_eq_none (Nat.le_of_not_lt hi)]
    rw [e]; simp
theorem Own.str1P (x : Str) : Own rStr #[rStr.val x] 1 [x] := ⟨by simp [show rStr.sz = 1 from rfl], by simp, by decide, by unfold Rw; rw [flat_one rfl]; rfl⟩
theorem Own.bt1P (c : UInt8) : Own rByte #[rByte.val c] 1 [c] := ⟨by simp [show rByte.sz = 1 from rfl], by simp, by decide, by unfold Rw; rw [flat_one rfl]; rfl⟩
theorem wrapDig {k : Nat} (h : k < 10) : IntKind.u8.wrap (48 + (k : Int)) = ((UInt8.ofNat (48 + k)).toNat : Int) := by
  have h1 : (UInt8.ofNat (48 + k)).toNat = 48 + k := UInt8.toNat_ofNat_of_lt' (by show 48 + k < 256; omega)
  rw [h1]
  unfold IntKind.wrap
  simp [IntKind.bits, IntKind.signed]
  omega

theorem sdec1 (n : Nat) (w : World) (hn : n < 10) : Fn Tryd.prog 48 [vint n] w (fun v w1 => v = vstr (decL n) ∧ Keep [] w w1) := by
  refine Fn.enter (n := 28) Tryd.func48 rfl rfl rfl ?_
  show WC _ _ _ _ [(0, vint n)] _
  have hH := Hp.start [] w
  have hwd := wrapDig hn
  refine WC.seq ?_
  refine WC.region ?_
  refine WL.u rfl rfl (Wt.plain rfl) (Ex.assign rfl) ?_
  refine WL.next ?_
  refine WC.seq ?_
  refine WC.seq ?_
  refine WC.region ?_
  refine WL.u rfl rfl (Wt.plain rfl) (Ex.move rfl) ?_
  refine WL.u rfl rfl (Wt.plain rfl) (Ex.lss rfl rfl) ?_
  refine WL.next ?_
  refine WC.condF rfl (decide_eq_false (by omega)) ?_
  refine WC.skip ?_
  refine WN.next ?_
  refine WC.seq ?_
  refine WC.seq ?_
  refine WC.region ?_
  refine WL.u rfl rfl (Wt.plain rfl) (Ex.move rfl) ?_
  refine WL.u rfl rfl (Wt.plain rfl) (Ex.lss rfl rfl) ?_
  refine WL.next ?_
  refine WC.condF rfl (decide_eq_false (by omega)) ?_
  refine WC.skip ?_
  refine WN.next ?_
  refine WC.seq ?_
  refine WC.seq ?_
  refine WC.region ?_
  refine WL.u rfl rfl (Wt.plain rfl) (Ex.move rfl) ?_
  refine WL.u rfl rfl (Wt.plain rfl) (Ex.lss rfl rfl) ?_
  refine WL.next ?_
  refine WC.condT rfl (decide_eq_true (by omega)) ?_
  refine WC.seq ?_
  refine WC.region ?_
  refine WL.u rfl rfl (Wt.plain rfl) (Ex.move rfl) ?_
  refine WL.u rfl rfl (Wt.plain rfl) (Ex.add rfl rfl (by omega)) ?_
  refine WL.u rfl rfl (Wt.plain rfl) ((Ex.conv Tryd.underlying5 Tryd.underlying3 rfl).to (congrArg (Value.int IntKind.u8) hwd)) ?_
  refine WL.lit Tryd.underlying22 ty5 rfl rfl rfl rfl rfl rfl rfl (Wt.plain rfl) hH (fun b16 wn hb16 hk16 hH => ?_)
  have ho16 := Own.bt1P (UInt8.ofNat (48 + n))
  refine WL.u rfl rfl (Wt.plain rfl) (Ex.bytesStr Tryd.underlying22 Tryd.underlying5 Tryd.underlying9 rfl (ho16.slAt hH 0 rfl)) ?_
  refine WL.u rfl rfl (Wt.plain rfl) (Ex.assign rfl) ?_
  refine WL.next ?_
  refine WC.ret ?_
  refine WN.retThen ?_
  refine WN.body1 rfl rfl ?_
  exact ⟨by unfold decL; rw [if_pos hn], hH.keep⟩

theorem sl6Dec0 (n : Nat) (w : World) (h10 : ¬ n < 10) (hn : n < 100) : Fn Tryd.prog 48 [vint n] w (fun v w1 => v = vstr (decL n) ∧ Keep [] w w1) := by
  refine Fn.enter (n := 28) Tryd.func48 rfl rfl rfl ?_
  show WC _ _ _ _ [(0, vint n)] _
  have hH := Hp.start [] w
  have hwd := wrapDig (show n % 10 < 10 by omega)
  have hq : decL (n / 10) = [UInt8.ofNat (48 + n / 10)] := by unfold decL; rw [if_pos (by omega)]
  refine WC.seq ?_
  refine WC.region ?_
  refine WL.u rfl rfl (Wt.plain rfl) (Ex.assign rfl) ?_
  refine WL.next ?_
  refine WC.seq ?_
  refine WC.seq ?_
  refine WC.region ?_
  refine WL.u rfl rfl (Wt.plain rfl) (Ex.move rfl) ?_
  refine WL.u rfl rfl (Wt.plain rfl) (Ex.lss rfl rfl) ?_
  refine WL.next ?_
  refine WC.condF rfl (decide_eq_false (by omega)) ?_
  refine WC.skip ?_
  refine WN.next ?_
  refine WC.seq ?_
  refine WC.seq ?_
  refine WC.region ?_
  refine WL.u rfl rfl (Wt.plain rfl) (Ex.move rfl) ?_
  refine WL.u rfl rfl (Wt.plain rfl) (Ex.lss rfl rfl) ?_
  refine WL.next ?_
  refine WC.condF rfl (decide_eq_false (by omega)) ?_
  refine WC.skip ?_
  refine WN.next ?_
  refine WC.seq ?_
  refine WC.seq ?_
  refine WC.region ?_
  refine WL.u rfl rfl (Wt.plain rfl) (Ex.move rfl) ?_
  refine WL.u rfl rfl (Wt.plain rfl) (Ex.lss rfl rfl) ?_
  refine WL.next ?_
  refine WC.condF rfl (decide_eq_false (by omega)) ?_
  refine WC.skip ?_
  refine WN.next ?_
  refine WC.seq ?_
  have hQ := hH
  refine WC.ptree (Keep [] _) (.q 0 (.q 1 (.q 3 (.q 4 (.q 5 (.q 6 (.alt 2 7 (.f 7 (.f 8 (.q 9 (.q 10 .nil)))) (.alt 2 8 (.f 8 (.q 9 (.q 10 .nil))) (.f 2 (.q 9 (.q 10 .nil))))))))))) rfl (by kernel_rfl) (Keep.drew _ _) (fun hR => ?_)
  replace hH := hH.drew
  refine WPt.q rfl rfl rfl (Wt.plain rfl) (fun w hC => Ex.move rfl) ?_
  refine WPt.q rfl rfl rfl (Wt.plain rfl) (fun w hC => (Ex.quo rfl rfl (by omega) (by omega)).to (congrArg (Value.int IntKind.i64) (show _ = ((n / 10 : Nat) : Int) by omega))) ?_
  refine WPt.q rfl rfl rfl (Wt.plain rfl) (fun w hC => Ex.move rfl) ?_
  refine WPt.q rfl rfl rfl (Wt.plain rfl) (fun w hC => (Ex.rem rfl rfl (by omega) (by omega)).to (congrArg (Value.int IntKind.i64) (show _ = ((n % 10 : Nat) : Int) by omega))) ?_
  refine WPt.q rfl rfl rfl (Wt.plain rfl) (fun w hC => Ex.add rfl rfl (by omega)) ?_
  refine WPt.q rfl rfl rfl (Wt.plain rfl) (fun w hC => (Ex.conv Tryd.underlying5 Tryd.underlying3 rfl).to (congrArg (Value.int IntKind.u8) hwd)) ?_
  refine WPt.alt rfl rfl ?_ ?_
  · refine WL.call callable48 rfl (Wt.plain rfl) rfl rfl (sdec1 (n / 10) _ (by omega)) ?_
    rintro _ wn ⟨rfl, hC⟩; replace hR := hR.trans hC.nil; replace hH := hH.call hC; clear hC
    refine WPt.b hR ?_
    refine WPt.f rfl ?_
    have hsR25 := hR.size
    refine WL.lit Tryd.underlying22 ty5 rfl rfl rfl rfl rfl rfl rfl (Wt.plain rfl) hH (fun b25 wn hb25 hk25 hH => ?_)
    replace hR := hR.trans (hk25.nil)
    have ho25 := Own.bt1P (UInt8.ofNat (48 + n % 10))
    refine WPt.b hR ?_
    refine WPt.f rfl ?_
    refine WL.u rfl rfl (Wt.plain rfl) (Ex.bytesStr Tryd.underlying22 Tryd.underlying5 Tryd.underlying9 rfl (ho25.slAt hH 0 rfl)) ?_
    refine WPt.b hR ?_
    refine WPt.q rfl rfl rfl (Wt.plain rfl) (fun w hC => Ex.concat rfl rfl (by (try rw [hq]); simp only [List.length_cons, List.length_nil]; omega)) ?_
    refine WPt.q rfl rfl rfl (Wt.plain rfl) (fun w hC => Ex.assign rfl) ?_
    refine WPt.nil (fun hC => ?_); clear hC
    refine WN.next ?_
    refine WC.ret ?_
    refine WN.body1 rfl rfl ?_
    exact ⟨by rw [hq]; unfold decL; rw [if_neg h10]; rfl, hH.keep⟩
  have hsR25 := hR.size
  refine WL.lit Tryd.underlying22 ty5 rfl rfl rfl rfl rfl rfl rfl (Wt.plain rfl) hH (fun b25 wn hb25 hk25 hH => ?_)
  replace hR := hR.trans (hk25.nil)
  have ho25 := Own.bt1P (UInt8.ofNat (48 + n % 10))
  refine WPt.b hR ?_
  refine WPt.alt rfl rfl ?_ ?_
  · refine WL.call callable48 rfl (Wt.plain rfl) rfl rfl (sdec1 (n / 10) _ (by omega)) ?_
    rintro _ wn ⟨rfl, hC⟩; replace hR := hR.trans hC.nil; replace hH := hH.call hC; clear hC
    refine WPt.b hR ?_
    refine WPt.f rfl ?_
    refine WL.u rfl rfl (Wt.plain rfl) (Ex.bytesStr Tryd.underlying22 Tryd.underlying5 Tryd.underlying9 rfl (ho25.slAt hH 0 rfl)) ?_
    refine WPt.b hR ?_
    refine WPt.q rfl rfl rfl (Wt.plain rfl) (fun w hC => Ex.concat rfl rfl (by (try rw [hq]); simp only [List.length_cons, List.length_nil]; omega)) ?_
    refine WPt.q rfl rfl rfl (Wt.plain rfl) (fun w hC => Ex.assign rfl) ?_
    refine WPt.nil (fun hC => ?_); clear hC
    refine WN.next ?_
    refine WC.ret ?_
    refine WN.body1 rfl rfl ?_
    exact ⟨by rw [hq]; unfold decL; rw [if_neg h10]; rfl, hH.keep⟩
  refine WL.u rfl rfl (Wt.plain rfl) (Ex.bytesStr Tryd.underlying22 Tryd.underlying5 Tryd.underlying9 rfl (ho25.slAt hH 0 rfl)) ?_
  refine WPt.b hR ?_
  refine WPt.f rfl ?_
  refine WL.call callable48 rfl (Wt.plain rfl) rfl rfl (sdec1 (n / 10) _ (by omega)) ?_
  rintro _ wn ⟨rfl, hC⟩; replace hR := hR.trans hC.nil; replace hH := hH.call hC; clear hC
  refine WPt.b hR ?_
  refine WPt.q rfl rfl rfl (Wt.plain rfl) (fun w hC => Ex.concat rfl rfl (by (try rw [hq]); simp only [List.length_cons, List.length_nil]; omega)) ?_
  refine WPt.q rfl rfl rfl (Wt.plain rfl) (fun w hC => Ex.assign rfl) ?_
  refine WPt.nil (fun hC => ?_); clear hC
  refine WN.next ?_
  refine WC.ret ?_
  refine WN.body1 rfl rfl ?_
  exact ⟨by rw [hq]; unfold decL; rw [if_neg h10]; rfl, hH.keep⟩


theorem sl6Dec (n : Nat) (w : World) (hn : n < 100) : Fn Tryd.prog 48 [vint n] w (fun v w1 => v = vstr (decL n) ∧ Keep [] w w1) := by
  by_cases h : n < 10
  · exact sdec1 n w h
  · exact sl6Dec0 n w h hn

set_option maxHeartbeats 1000000 in
theorem iProofNone (g : Grid) (a : Option Addr) (cap : Nat) (w : World) (hg : Sl rStr w a g) (hs : Short g) : Fn Tryd.prog 16 [.slice a g.length cap] w (fun v w1 => v = .tuple #[vstr (proofNone g).1, .bool (proofNone g).2] ∧ Keep [] w w1) := by
  refine Fn.enter (n := 43) Tryd.func16 rfl rfl rfl ?_
  show WC _ _ _ _ [(0, .slice a g.length cap)] _
  have hH := Hp.start [] w
  refine WC.seq ?_
  refine WC.region ?_
  refine WL.u rfl rfl (Wt.plain rfl) (Ex.assign rfl) ?_
  refine WL.u rfl rfl (Wt.plain rfl) (Ex.assign rfl) ?_
  refine WL.next ?_
  refine WC.seq ?_
  refine WC.seq ?_
  refine WC.region ?_
  refine WL.u rfl rfl (Wt.plain rfl) (Ex.move rfl) ?_
  refine WL.call callable34 rfl (Wt.plain rfl) rfl rfl (iGridIn _ _ _ _ (hg.kept hH.keep) hs) ?_
  rintro _ _ ⟨rfl, hw⟩; obtain rfl := hw.symm
  refine WL.u rfl rfl (Wt.plain rfl) (Ex.not rfl) ?_
  refine WL.u rfl rfl (Wt.plain rfl) (Ex.move rfl) ?_
  refine WL.split (t := 12) rfl (fun hg1_3 => ?_) (fun hg1_3 => ?_)
  · have hg1_3' := hg1_3; try simp only [decide_eq_true_eq, decide_eq_false_iff_not, Bool.not_eq_true', Bool.not_eq_false', Bool.not_eq_true, Bool.not_eq_false] at hg1_3'
    have hno : ¬ (gridIn g = true ∧ (rounds g).length = 0) := fun e => by rw [e.1] at hg1_3; cases hg1_3
    refine WL.pass rfl rfl (Wt.guard' rfl rfl rfl hg1_3 rfl) ?_
    refine WL.pass rfl rfl (Wt.guard' rfl rfl rfl hg1_3 rfl) ?_
    refine WL.pass rfl rfl (Wt.guard' rfl rfl rfl hg1_3 rfl) ?_
    refine WL.u rfl rfl (Wt.plain rfl) (Ex.pickT rfl hg1_3 rfl) ?_
    refine WL.next ?_
    refine WC.condT rfl rfl ?_
    refine WC.seq ?_
    refine WC.region ?_
    refine WL.u rfl rfl (Wt.plain rfl) (Ex.assign rfl) ?_
    refine WL.u rfl rfl (Wt.plain rfl) (Ex.assign rfl) ?_
    refine WL.next ?_
    refine WC.ret ?_
    refine WN.retThen ?_
    refine WN.body2 rfl rfl rfl ?_
    exact ⟨by rw [proofNone_not hno] <;> rfl, hH.keep⟩
  have hg1_3' := hg1_3; try simp only [decide_eq_true_eq, decide_eq_false_iff_not, Bool.not_eq_true', Bool.not_eq_false', Bool.not_eq_true, Bool.not_eq_false] at hg1_3'
  have hgi : gridIn g = true := by simpa using hg1_3
  have hG := (gridOk_iff g).1 hgi
  have z := hG.sz
  have hpl := ports_le hG
  refine WL.u rfl rfl (Wt.guard' rfl rfl rfl hg1_3 rfl) (Ex.move rfl) ?_
  refine WL.call callable35 rfl (Wt.guard' rfl rfl rfl hg1_3 rfl) rfl rfl (iroundMany _ _ _ _ (hg.kept hH.keep) hG) ?_
  rintro _ wn ⟨rfl, hC⟩; replace hH := hH.call hC; clear hC
  refine WL.u rfl rfl (Wt.guard' rfl rfl rfl hg1_3 rfl) (Ex.gtr rfl rfl) ?_
  refine WL.u rfl rfl (Wt.plain rfl) (Ex.pickF rfl hg1_3 rfl) ?_
  refine WL.next ?_
  refine WC.cond rfl (fun hc1 => ?_) (fun hc1 => ?_)
  · have hc1' := hc1; try simp only [decide_eq_true_eq, decide_eq_false_iff_not, Bool.not_eq_true', Bool.not_eq_false', Bool.not_eq_true, Bool.not_eq_false] at hc1'
    have hno : ¬ (gridIn g = true ∧ (rounds g).length = 0) := fun e => by omega
    refine WC.seq ?_
    refine WC.region ?_
    refine WL.u rfl rfl (Wt.plain rfl) (Ex.assign rfl) ?_
    refine WL.u rfl rfl (Wt.plain rfl) (Ex.assign rfl) ?_
    refine WL.next ?_
    refine WC.ret ?_
    refine WN.retThen ?_
    refine WN.body2 rfl rfl rfl ?_
    exact ⟨by rw [proofNone_not hno] <;> rfl, hH.keep⟩
  have hc1' := hc1; try simp only [decide_eq_true_eq, decide_eq_false_iff_not, Bool.not_eq_true', Bool.not_eq_false', Bool.not_eq_true, Bool.not_eq_false] at hc1'
  have hr0 : (rounds g).length = 0 := by omega
  refine WC.skip ?_
  refine WN.next ?_
  refine WC.seq ?_
  refine WC.region ?_
  refine WL.lit Tryd.underlying23 ty9 rfl rfl rfl rfl rfl rfl rfl (Wt.plain rfl) hH (fun b17 wn hb17 hk17 hH => ?_)
  have ho17 := Own.str1P lth
  refine WL.u rfl rfl (Wt.plain rfl) (Ex.assign rfl) ?_
  refine WL.next ?_
  refine WC.seq ?_
  refine WC.seq ?_
  refine WC.region ?_
  refine WL.u rfl rfl (Wt.plain rfl) (Ex.move rfl) ?_
  refine WL.call callable39 rfl (Wt.plain rfl) rfl rfl (ipairsOf g _ _ _ (hg.kept hH.keep) hG) ?_
  rintro _ wn ⟨hC, hN⟩; obtain ⟨b19, cap19, cur19, rfl, hge19, hbb19, ho19⟩ := hN.own; rw [pairsI_len]; replace hH := hH.push hC hge19 hbb19; clear hC hN
  refine WL.u rfl rfl (Wt.plain rfl) (Ex.lenSl Tryd.underlying34 rfl) ?_
  refine WL.u rfl rfl (Wt.plain rfl) (Ex.move rfl) ?_
  refine WL.next ?_
  refine WC.block ?_
  replace hH := hH.f1
  refine WC.loop (ι := Nat × Nat × Nat × (Array Value)) (fun (i, b17, cap17, cur17) => [(0, .slice a g.length cap), (4, vsl b17 (lth :: (lensTo g i).map decL).length cap17), (19, vsl b19 (ports g) cap19), (20, vint (ports g)), (21, vint i)]) (fun (i, b17, cap17, cur17) wn => Hp [] w wn [(b17, .cells cur17 9 (0, 0)), (b19, .cells cur19 3 (0, 0))] ∧ Own rStr cur17 cap17 (lth :: (lensTo g i).map decL) ∧ i ≤ ports g) (fun (i, b17, cap17, cur17) => ports g - i) ((0, b17, 1, #[rStr.val lth])) (by exact ⟨rfl, rfl, rfl, rfl, rfl, trivial⟩) ?_ ?_
  · exact ⟨hH, ho17, Nat.zero_le _⟩
  rintro ⟨i, b17, cap17, cur17⟩ wn ⟨hH, ho17, hi⟩
  have hll := lensTo_len g i
  have hwl : (lth :: (lensTo g i).map decL).length = (lensTo g i).length + 1 := by simp
  intro mu0 hmu; try dsimp only at hmu
  show WC _ _ _ _ [(0, .slice a g.length cap), (4, vsl b17 (lth :: (lensTo g i).map decL).length cap17), (19, vsl b19 (ports g) cap19), (20, vint (ports g)), (21, vint i)] _
  refine WC.seq ?_
  refine WC.region ?_
  refine WL.u rfl rfl (Wt.plain rfl) (Ex.lss rfl rfl) ?_
  refine WL.next ?_
  refine WC.seq ?_
  refine WC.cond rfl (fun hc2 => ?_) (fun hc2 => ?_)
  · have hc2' := hc2; try simp only [decide_eq_true_eq, decide_eq_false_iff_not, Bool.not_eq_true', Bool.not_eq_false', Bool.not_eq_true, Bool.not_eq_false] at hc2'
    have hlt : i < ports g := by omega
    have hpe := pairsI_get g hlt
    have hlen100 : (way g i).1.length ≤ 100 := by have := way_len g i; have := cells_le hG; omega
    refine WC.skip ?_
    refine WN.next ?_
    refine WC.seq ?_
    refine WC.block ?_
    refine WC.seq ?_
    refine WC.region ?_
    refine WL.u rfl rfl (Wt.plain rfl) (Ex.move rfl) ?_
    refine WL.u rfl rfl (Wt.plain rfl) (Ex.indexAddr Tryd.underlying34 ty3 rfl rfl (by omega)) ?_
    replace hH := hH.f1
    refine WL.u rfl rfl (Wt.plain rfl) (Ex.loadHp flat3 rfl hH (ho19.get rfl (getD_get (pairsI g) i 0 (by rw [pairsI_len]; exact hlt)))) ?_
    refine WL.u rfl rfl (Wt.plain rfl) (Ex.assign rfl) ?_
    refine WL.u rfl rfl (Wt.plain rfl) (Ex.assign rfl) ?_
    refine WL.next ?_
    refine WC.seq ?_
    refine WC.region ?_
    refine WL.u rfl rfl (Wt.plain rfl) (Ex.move rfl) ?_
    refine WL.u rfl rfl (Wt.plain rfl) (Ex.move rfl) ?_
    refine WL.u rfl rfl (Wt.plain rfl) (Ex.lss rfl rfl) ?_
    refine WL.next ?_
    refine WC.cond rfl (fun hc3 => ?_) (fun hc3 => ?_)
    · have hlw : i < (way g i).2 := by rw [hpe] at hc3; have := of_decide_eq_true hc3; omega
      have hbw := beamWay_len hG hlt
      have hl1 : lensTo g (i + 1) = lensTo g i ++ [(way g i).1.length] := by rw [lensTo, if_pos hlw]
      have hx100 : (way g i).1.length < 100 := lens_lt z (k := i + 1) (by omega) _ (by rw [hl1]; simp)
      refine WC.seq ?_
      refine WC.region ?_
      refine WL.u rfl rfl (Wt.plain rfl) (Ex.move rfl) ?_
      refine WL.u rfl rfl (Wt.plain rfl) (Ex.move rfl) ?_
      refine WL.call callable40 rfl (Wt.plain rfl) rfl rfl (iBeamLength g _ _ (i : Int) _ (hg.kept hH.keep) (gshortP hG)) ?_
      rintro _ wn ⟨rfl, hC⟩; replace hH := hH.call hC; clear hC
      refine WL.u rfl rfl (Wt.plain rfl) (Ex.move rfl) ?_
      refine WL.u rfl rfl (Wt.plain rfl) (Ex.extract rfl rfl) ?_
      refine WL.u rfl rfl (Wt.plain rfl) (Ex.extract rfl rfl) ?_
      refine WL.u rfl rfl (Wt.plain rfl) (Ex.assign rfl) ?_
      refine WL.u rfl rfl (Wt.plain rfl) (Ex.assign rfl) ?_
      refine WL.next ?_
      rw [hbw]
      refine WC.region ?_
      refine WL.u rfl rfl (Wt.plain rfl) (Ex.move rfl) ?_
      refine WL.u rfl rfl (Wt.plain rfl) (Ex.move rfl) ?_
      refine WL.call callable41 rfl (Wt.plain rfl) rfl rfl (iItoa (way g i).1.length _ hx100) ?_
      rintro _ _ ⟨rfl, hw⟩; obtain rfl := hw.symm
      replace hH := hH.f1
      refine WL.append1 (r := rStr) (u := decL (way g i).1.length) Tryd.underlying23 ty9 rfl rfl (fun _ => rfl) (fun _ => rfl) rfl rfl (Wt.plain rfl) (fun _ => (Wt.plain rfl)) hH ho17 rfl (by omega) (by omega) (fun b17 cap17 cur17 wn x17 hb17 hk17 hH ho17 => ?_)
      refine WL.u rfl rfl (Wt.plain rfl) (Ex.assign rfl) ?_
      refine WL.last ?_
      refine WN.normalBlock ?_
      refine WN.next ?_
      refine WC.region ?_
      refine WL.u rfl rfl (Wt.plain rfl) (Ex.add rfl rfl (by omega)) ?_
      refine WL.u rfl rfl (Wt.plain rfl) (Ex.move rfl) ?_
      refine WL.last ?_
      replace hH := hH.f1
      replace hH := hH.f1
      refine WN.round (i + 1, b17, cap17, cur17) (by exact ⟨rfl, congrArg (fun k : Nat => some (vsl b17 k cap17)) (show _ = (lth :: (lensTo g (i + 1)).map decL).length by rw [hl1]; simp), rfl, rfl, rfl, trivial⟩) ?_ ?_
      · exact ⟨hH, by rw [hl1, List.map_append]; exact ho17, by omega⟩
      · (try dsimp only); omega
    have hlw : ¬ i < (way g i).2 := by rw [hpe] at hc3; have := of_decide_eq_false hc3; omega
    have hl1 : lensTo g (i + 1) = lensTo g i := by rw [lensTo, if_neg hlw]
    refine WC.skip ?_
    refine WN.normalBlock ?_
    refine WN.next ?_
    refine WC.region ?_
    refine WL.u rfl rfl (Wt.plain rfl) (Ex.add rfl rfl (by omega)) ?_
    refine WL.u rfl rfl (Wt.plain rfl) (Ex.move rfl) ?_
    refine WL.last ?_
    replace hH := hH.f1
    refine WN.round (i + 1, b17, cap17, cur17) (by exact ⟨rfl, congrArg (fun k : Nat => some (vsl b17 k cap17)) (show _ = (lth :: (lensTo g (i + 1)).map decL).length by rw [hl1]), rfl, rfl, rfl, trivial⟩) ?_ ?_
    · exact ⟨hH, by rw [hl1]; exact ho17, by omega⟩
    · (try dsimp only); omega
  have hc2' := hc2; try simp only [decide_eq_true_eq, decide_eq_false_iff_not, Bool.not_eq_true', Bool.not_eq_false', Bool.not_eq_true, Bool.not_eq_false] at hc2'
  obtain rfl : i = ports g := by omega
  rw [hwl]
  refine WC.exit ?_
  refine WN.exitThen ?_
  refine WN.exitThen ?_
  refine WN.exitHere ?_
  refine WN.next ?_
  refine WC.seq ?_
  refine WC.region ?_
  refine WL.u rfl rfl (Wt.plain rfl) (Ex.move rfl) ?_
  refine WL.call callable42 rfl (Wt.plain rfl) rfl rfl (iJoin (lensTo g (ports g)) b17 cap17 _ (ho17.slAt hH 0 rfl) (by omega) (by have := ho17.le; rw [hwl] at this; exact this) (lens_lt z (Nat.le_refl _))) ?_
  rintro _ wn ⟨rfl, hC⟩; replace hH := hH.call hC; clear hC
  refine WL.u rfl rfl (Wt.plain rfl) (Ex.assign rfl) ?_
  refine WL.u rfl rfl (Wt.plain rfl) (Ex.assign rfl) ?_
  refine WL.next ?_
  refine WC.ret ?_
  refine WN.body2 rfl rfl rfl ?_
  exact ⟨by rw [proofNone_at hgi hr0] <;> rfl, hH.keep⟩

theorem iProofNoneIs (g : Grid) (a : Option Addr) (cap : Nat) (t : Str) (w : World) (hg : Sl rStr w a g) (hs : Short g) : Fn Tryd.prog 18 [.slice a g.length cap, vstr t] w (fun v w1 => v = .bool (proofNoneIs g t) ∧ Keep [] w w1) := by
  refine Fn.enter (n := 18) Tryd.func18 rfl rfl rfl ?_
  show WC _ _ _ _ [(0, .slice a g.length cap), (1, vstr t)] _
  have hH := Hp.start [] w
  refine WC.seq ?_
  refine WC.region ?_
  refine WL.u rfl rfl (Wt.plain rfl) (Ex.assign rfl) ?_
  refine WL.next ?_
  refine WC.seq ?_
  refine WC.region ?_
  refine WL.u rfl rfl (Wt.plain rfl) (Ex.move rfl) ?_
  refine WL.call callable16 rfl (Wt.plain rfl) rfl rfl (iProofNone _ _ _ _ (hg.kept hH.keep) hs) ?_
  rintro _ wn ⟨rfl, hC⟩; replace hH := hH.call hC; clear hC
  refine WL.u rfl rfl (Wt.plain rfl) (Ex.move rfl) ?_
  refine WL.u rfl rfl (Wt.plain rfl) (Ex.extract rfl rfl) ?_
  refine WL.u rfl rfl (Wt.plain rfl) (Ex.extract rfl rfl) ?_
  refine WL.u rfl rfl (Wt.plain rfl) (Ex.assign rfl) ?_
  refine WL.u rfl rfl (Wt.plain rfl) (Ex.assign rfl) ?_
  refine WL.next ?_
  refine WC.seq ?_
  refine WC.region ?_
  refine WL.u rfl rfl (Wt.plain rfl) (Ex.move rfl) ?_
  refine WL.u rfl rfl (Wt.plain rfl) (Ex.move rfl) ?_
  refine WL.split (t := 13) rfl (fun hg2_1 => ?_) (fun hg2_1 => ?_)
  · have hg2_1' := hg2_1; try simp only [decide_eq_true_eq, decide_eq_false_iff_not, Bool.not_eq_true', Bool.not_eq_false', Bool.not_eq_true, Bool.not_eq_false] at hg2_1'
    refine WL.u rfl rfl (Wt.guard' rfl rfl rfl hg2_1 rfl) (Ex.move rfl) ?_
    refine WL.u rfl rfl (Wt.guard' rfl rfl rfl hg2_1 rfl) (Ex.move rfl) ?_
    refine WL.u rfl rfl (Wt.guard' rfl rfl rfl hg2_1 rfl) (Ex.eqlStr rfl rfl) ?_
    refine WL.u rfl rfl (Wt.plain rfl) (Ex.pickT rfl hg2_1 rfl) ?_
    refine WL.u rfl rfl (Wt.plain rfl) (Ex.assign rfl) ?_
    refine WL.next ?_
    refine WC.ret ?_
    refine WN.body1 rfl rfl ?_
    exact ⟨by unfold proofNoneIs; rw [hg2_1]; rfl, hH.keep⟩
  have hg2_1' := hg2_1; try simp only [decide_eq_true_eq, decide_eq_false_iff_not, Bool.not_eq_true', Bool.not_eq_false', Bool.not_eq_true, Bool.not_eq_false] at hg2_1'
  refine WL.pass rfl rfl (Wt.guard' rfl rfl rfl hg2_1 rfl) ?_
  refine WL.pass rfl rfl (Wt.guard' rfl rfl rfl hg2_1 rfl) ?_
  refine WL.pass rfl rfl (Wt.guard' rfl rfl rfl hg2_1 rfl) ?_
  refine WL.u rfl rfl (Wt.plain rfl) (Ex.pickF rfl hg2_1 rfl) ?_
  refine WL.u rfl rfl (Wt.plain rfl) (Ex.assign rfl) ?_
  refine WL.next ?_
  refine WC.ret ?_
  refine WN.body1 rfl rfl ?_
  exact ⟨by unfold proofNoneIs; rw [hg2_1]; rfl, hH.keep⟩

set_option maxHeartbeats 1000000 in
theorem sl12Lengths (g : Grid) (a : Option Addr) (cap : Nat) (w : World) (hg : Sl rStr w a g) (hG : GridOk g) : Fn Tryd.prog 56 [.slice a g.length cap] w (fun v w1 => ∃ x, v = .tuple #[x, vint (halfSum g (ports g))] ∧ Keep [] w w1 ∧ New rNat 3 w w1 x (lensL g)) := by
  refine Fn.enter (n := 43) Tryd.func56 rfl rfl rfl ?_
  show WC _ _ _ _ [(0, .slice a g.length cap)] _
  have hH := Hp.start [] w
  have z := hG.sz
  have hpl := ports_le hG
  obtain ⟨b, off, rfl⟩ := hg.addr (show 0 < g.length from hG.n1)
  have hn1 := hG.n1
  have hn5 := hG.n5
  have hm1 := hG.m1
  have hm5 := hG.m5
  have hpe : ports g = 2 * (g.length + (g.getD 0 []).length) := by unfold ports; dsimp only [nR, nC]; omega
  refine WC.seq ?_
  refine WC.region ?_
  refine WL.u rfl rfl (Wt.plain rfl) (Ex.assign rfl) ?_
  refine WL.u rfl rfl (Wt.plain rfl) (Ex.assign rfl) ?_
  refine WL.next ?_
  refine WC.seq ?_
  refine WC.region ?_
  refine WL.lit0 Tryd.underlying34 ty3 rfl (Wt.plain rfl) hH (fun b10 wn hb10 hk10 hH => ?_)
  have ho10 := Own.nil rNat
  refine WL.u rfl rfl (Wt.plain rfl) (Ex.assign rfl) ?_
  refine WL.next ?_
  refine WC.seq ?_
  refine WC.region ?_
  refine WL.u rfl rfl (Wt.plain rfl) (Ex.assign rfl) ?_
  refine WL.next ?_
  refine WC.seq ?_
  refine WC.seq ?_
  refine WC.region ?_
  refine WL.u rfl rfl (Wt.plain rfl) (Ex.assign rfl) ?_
  refine WL.next ?_
  refine WC.block ?_
  refine WC.loop (ι := Nat × Nat × Nat × (Array Value)) (fun (i, b10, cap10, cur10) => [(0, .slice (some ⟨b, off, none⟩) g.length cap), (4, vsl b10 (lensTo g i).length cap10), (5, vint (halfSum g i : Nat)), (6, vint i)]) (fun (i, b10, cap10, cur10) wn => Hp [] w wn [(b10, .cells cur10 3 (0, 0))] ∧ Own rNat cur10 cap10 (lensTo g i) ∧ i ≤ ports g) (fun (i, b10, cap10, cur10) => ports g - i) ((0, b10, 0, #[])) (by exact ⟨rfl, rfl, rfl, rfl, trivial⟩) ?_ ?_
  · exact ⟨hH, ho10, Nat.zero_le _⟩
  rintro ⟨i, b10, cap10, cur10⟩ wn ⟨hH, ho10, hi⟩
  have hll := lensTo_len g i
  have hsl := halfSum_le z i hi
  intro mu0 hmu; try dsimp only at hmu
  show WC _ _ _ _ [(0, .slice (some ⟨b, off, none⟩) g.length cap), (4, vsl b10 (lensTo g i).length cap10), (5, vint (halfSum g i : Nat)), (6, vint i)] _
  refine WC.seq ?_
  refine WC.seq ?_
  refine WC.region ?_
  refine WL.u rfl rfl (Wt.plain rfl) (Ex.move rfl) ?_
  refine WL.u rfl rfl (Wt.plain rfl) (Ex.move rfl) ?_
  refine WL.u rfl rfl (Wt.plain rfl) (Ex.lenSl Tryd.underlying23 rfl) ?_
  refine WL.u rfl rfl (Wt.plain rfl) (Ex.move rfl) ?_
  refine WL.u rfl rfl (Wt.plain rfl) (Ex.indexAddr Tryd.underlying23 ty9 rfl rfl (by omega)) ?_
  refine WL.u rfl rfl (Wt.plain rfl) (Ex.loadSl flat9 (hg.kept hH.keep) rfl rfl (getD_get g 0 [] (by omega))) ?_
  refine WL.u rfl rfl (Wt.plain rfl) (Ex.lenStr Tryd.underlying9 rfl) ?_
  refine WL.call callable72 rfl (Wt.plain rfl) rfl rfl (sl2Ports g.length (g.getD 0 []).length _ (by omega) (by omega)) ?_
  rintro _ _ ⟨rfl, hw⟩; obtain rfl := hw.symm
  refine WL.u rfl rfl (Wt.plain rfl) (Ex.lss rfl rfl) ?_
  refine WL.next ?_
  refine WC.cond rfl (fun hc1 => ?_) (fun hc1 => ?_)
  · have hc1' := hc1; try simp only [decide_eq_true_eq, decide_eq_false_iff_not, Bool.not_eq_true', Bool.not_eq_false', Bool.not_eq_true, Bool.not_eq_false] at hc1'
    have hlt : i < ports g := by rw [hpe]; omega
    have hwl100 : (way g i).1.length ≤ 100 := by have := way_len g i; have := cells_le hG; omega
    have hcl := cells_le hG
    refine WC.skip ?_
    refine WN.next ?_
    refine WC.seq ?_
    refine WC.block ?_
    refine WC.seq ?_
    refine WC.region ?_
    refine WL.u rfl rfl (Wt.plain rfl) (Ex.move rfl) ?_
    refine WL.u rfl rfl (Wt.plain rfl) (Ex.move rfl) ?_
    refine WL.call callable73 rfl (Wt.plain rfl) rfl rfl (sl2Way g _ _ i _ (hg.kept hH.keep) hG hlt) ?_
    rintro _ wn ⟨x, y, rfl, hC, hN1, hN2⟩; obtain ⟨b25, cap25, cur25, rfl, hge25, hbb25, ho25⟩ := hN1.own; rw [List.length_map]; replace hH := hH.call hC; clear hN1 hN2
    refine WL.u rfl rfl (Wt.plain rfl) (Ex.move rfl) ?_
    refine WL.u rfl rfl (Wt.plain rfl) (Ex.extract rfl rfl) ?_
    refine WL.u rfl rfl (Wt.plain rfl) (Ex.extract rfl rfl) ?_
    refine WL.u rfl rfl (Wt.plain rfl) (Ex.extract rfl rfl) ?_
    refine WL.u rfl rfl (Wt.plain rfl) (Ex.assign rfl) ?_
    refine WL.u rfl rfl (Wt.plain rfl) (Ex.assign rfl) ?_
    refine WL.u rfl rfl (Wt.plain rfl) (Ex.assign rfl) ?_
    refine WL.next ?_
    refine WC.seq ?_
    refine WC.region ?_
    refine WL.u rfl rfl (Wt.plain rfl) (Ex.move rfl) ?_
    refine WL.u rfl rfl (Wt.plain rfl) (Ex.move rfl) ?_
    refine WL.u rfl rfl (Wt.plain rfl) (Ex.lss rfl rfl) ?_
    refine WL.next ?_
    refine WC.cond rfl (fun hc2 => ?_) (fun hc2 => ?_)
    · have hc2' := hc2; try simp only [decide_eq_true_eq, decide_eq_false_iff_not, Bool.not_eq_true', Bool.not_eq_false', Bool.not_eq_true, Bool.not_eq_false] at hc2'
      have hlw : i < (way g i).2 := by omega
      have hl1 : lensTo g (i + 1) = lensTo g i ++ [(way g i).1.length] := by rw [lensTo, if_pos hlw]
      have hs1 : halfSum g (i + 1) = halfSum g i + (way g i).1.length := by rw [halfSum, if_pos hlw]
      refine WC.seq ?_
      refine WC.region ?_
      refine WL.u rfl rfl (Wt.plain rfl) (Ex.move rfl) ?_
      refine WL.u rfl rfl (Wt.plain rfl) (Ex.move rfl) ?_
      refine WL.u rfl rfl (Wt.plain rfl) (Ex.lenSl Tryd.underlying34 rfl) ?_
      refine WL.append1 (r := rNat) (u := (way g i).1.length) Tryd.underlying34 ty3 rfl rfl (fun _ => rfl) (fun _ => rfl) rfl rfl (Wt.plain rfl) (fun _ => (Wt.plain rfl)) hH ho10 rfl (by omega) (by omega) (fun b10 cap10 cur10 wn x10 hb10 hk10 hH ho10 => ?_)
      refine WL.u rfl rfl (Wt.plain rfl) (Ex.assign rfl) ?_
      refine WL.next ?_
      refine WC.region ?_
      refine WL.u rfl rfl (Wt.plain rfl) (Ex.move rfl) ?_
      refine WL.u rfl rfl (Wt.plain rfl) (Ex.move rfl) ?_
      refine WL.u rfl rfl (Wt.plain rfl) (Ex.lenSl Tryd.underlying34 rfl) ?_
      refine WL.u rfl rfl (Wt.plain rfl) (Ex.add rfl rfl (by omega)) ?_
      refine WL.u rfl rfl (Wt.plain rfl) (Ex.assign rfl) ?_
      refine WL.last ?_
      refine WN.normalBlock ?_
      refine WN.next ?_
      refine WC.region ?_
      refine WL.u rfl rfl (Wt.plain rfl) (Ex.move rfl) ?_
      refine WL.u rfl rfl (Wt.plain rfl) (Ex.add rfl rfl (by omega)) ?_
      refine WL.u rfl rfl (Wt.plain rfl) (Ex.assign rfl) ?_
      refine WL.last ?_
      refine WN.round (i + 1, b10, cap10, cur10) (by exact ⟨rfl, congrArg (fun k : List Nat => some (vsl b10 k.length cap10)) hl1.symm, congrArg (fun k : Nat => some (vint k)) hs1.symm, rfl, trivial⟩) ?_ ?_
      · exact ⟨hH, by rw [hl1]; exact ho10, by omega⟩
      · (try dsimp only); omega
    have hc2' := hc2; try simp only [decide_eq_true_eq, decide_eq_false_iff_not, Bool.not_eq_true', Bool.not_eq_false', Bool.not_eq_true, Bool.not_eq_false] at hc2'
    have hlw : ¬ i < (way g i).2 := by omega
    have hl1 : lensTo g (i + 1) = lensTo g i := by rw [lensTo, if_neg hlw]
    have hs1 : halfSum g (i + 1) = halfSum g i := by rw [halfSum, if_neg hlw]; omega
    refine WC.skip ?_
    refine WN.normalBlock ?_
    refine WN.next ?_
    refine WC.region ?_
    refine WL.u rfl rfl (Wt.plain rfl) (Ex.move rfl) ?_
    refine WL.u rfl rfl (Wt.plain rfl) (Ex.add rfl rfl (by omega)) ?_
    refine WL.u rfl rfl (Wt.plain rfl) (Ex.assign rfl) ?_
    refine WL.last ?_
    refine WN.round (i + 1, b10, cap10, cur10) (by exact ⟨rfl, congrArg (fun k : List Nat => some (vsl b10 k.length cap10)) hl1.symm, congrArg (fun k : Nat => some (vint k)) hs1.symm, rfl, trivial⟩) ?_ ?_
    · exact ⟨hH, by rw [hl1]; exact ho10, by omega⟩
    · (try dsimp only); omega
  have hc1' := hc1; try simp only [decide_eq_true_eq, decide_eq_false_iff_not, Bool.not_eq_true', Bool.not_eq_false', Bool.not_eq_true, Bool.not_eq_false] at hc1'
  refine WC.exit ?_
  refine WN.exitThen ?_
  refine WN.exitThen ?_
  refine WN.exitHere ?_
  refine WN.next ?_
  refine WC.seq ?_
  refine WC.region ?_
  refine WL.u rfl rfl (Wt.plain rfl) (Ex.move rfl) ?_
  refine WL.u rfl rfl (Wt.plain rfl) (Ex.move rfl) ?_
  refine WL.u rfl rfl (Wt.plain rfl) (Ex.assign rfl) ?_
  refine WL.u rfl rfl (Wt.plain rfl) (Ex.assign rfl) ?_
  refine WL.next ?_
  refine WC.ret ?_
  refine WN.body2 rfl rfl rfl ?_
  have hpp : i = ports g := by have : ports g ≤ i := by { rw [hpe]; omega }; omega
  subst hpp
  exact ⟨_, rfl, hH.keep, New.of hH ho10 (hH.base 0 rfl)⟩

set_option maxHeartbeats 1000000 in
theorem sProofNone (g : Grid) (a : Option Addr) (cap : Nat) (w : World) (hg : Sl rStr w a g) (hs : Short g) : Fn Tryd.prog 29 [.slice a g.length cap] w (fun v w1 => v = .tuple #[vstr (proofNone g).1, .bool (proofNone g).2] ∧ Keep [] w w1) := by
  refine Fn.enter (n := 41) Tryd.func29 rfl rfl rfl ?_
  show WC _ _ _ _ [(0, .slice a g.length cap)] _
  have hH := Hp.start [] w
  refine WC.seq ?_
  refine WC.region ?_
  refine WL.u rfl rfl (Wt.plain rfl) (Ex.assign rfl) ?_
  refine WL.u rfl rfl (Wt.plain rfl) (Ex.assign rfl) ?_
  refine WL.next ?_
  refine WC.seq ?_
  refine WC.seq ?_
  refine WC.region ?_
  refine WL.u rfl rfl (Wt.plain rfl) (Ex.move rfl) ?_
  refine WL.call callable36 rfl (Wt.plain rfl) rfl rfl (sGridIn _ _ _ _ (hg.kept hH.keep) hs) ?_
  rintro _ wn ⟨rfl, hC⟩; replace hH := hH.dr hC; clear hC
  refine WL.u rfl rfl (Wt.plain rfl) (Ex.not rfl) ?_
  refine WL.next ?_
  refine WC.cond rfl (fun hc1 => ?_) (fun hc1 => ?_)
  · have hc1' := hc1; try simp only [decide_eq_true_eq, decide_eq_false_iff_not, Bool.not_eq_true', Bool.not_eq_false', Bool.not_eq_true, Bool.not_eq_false] at hc1'
    have hno : ¬ (gridIn g = true ∧ (rounds g).length = 0) := fun e => by rw [e.1] at hc1; cases hc1
    refine WC.seq ?_
    refine WC.region ?_
    refine WL.u rfl rfl (Wt.plain rfl) (Ex.assign rfl) ?_
    refine WL.u rfl rfl (Wt.plain rfl) (Ex.assign rfl) ?_
    refine WL.next ?_
    refine WC.ret ?_
    refine WN.retThen ?_
    refine WN.body2 rfl rfl rfl ?_
    exact ⟨by rw [proofNone_not hno] <;> rfl, hH.keep⟩
  have hc1' := hc1; try simp only [decide_eq_true_eq, decide_eq_false_iff_not, Bool.not_eq_true', Bool.not_eq_false', Bool.not_eq_true, Bool.not_eq_false] at hc1'
  have hgi : gridIn g = true := by simpa using hc1
  have hG := (gridOk_iff g).1 hgi
  have z := hG.sz
  have hpl := ports_le hG
  have hn1 := hG.n1
  have hn5 := hG.n5
  have hm5 := hG.m5
  have hcl := cells_le hG
  obtain ⟨b, off, rfl⟩ := hg.addr (show 0 < g.length from hG.n1)
  have hmul : (2 * (g.length : Int)) * ((g.getD 0 []).length : Int) = ((2 * (nR g * nC g) : Nat) : Int) := by dsimp only [nR, nC]; rw [Int.natCast_mul, Int.natCast_mul, Int.mul_assoc]; rfl
  have hsl := halfSum_le z (ports g) (Nat.le_refl _)
  have hhi := half_iff z
  refine WC.skip ?_
  refine WN.next ?_
  refine WC.seq ?_
  refine WC.region ?_
  refine WL.u rfl rfl (Wt.plain rfl) (Ex.move rfl) ?_
  refine WL.call callable56 rfl (Wt.plain rfl) rfl rfl (sl12Lengths g _ _ _ (hg.kept hH.keep) hG) ?_
  rintro _ wn ⟨_, rfl, hC, hN⟩; obtain ⟨b13, cap13, cur13, rfl, hge13, hbb13, ho13⟩ := hN.own; replace hH := hH.push hC hge13 hbb13; clear hC hN
  refine WL.u rfl rfl (Wt.plain rfl) (Ex.move rfl) ?_
  refine WL.u rfl rfl (Wt.plain rfl) (Ex.extract rfl rfl) ?_
  refine WL.u rfl rfl (Wt.plain rfl) (Ex.extract rfl rfl) ?_
  refine WL.u rfl rfl (Wt.plain rfl) (Ex.assign rfl) ?_
  refine WL.u rfl rfl (Wt.plain rfl) (Ex.assign rfl) ?_
  refine WL.next ?_
  refine WC.seq ?_
  refine WC.seq ?_
  refine WC.region ?_
  refine WL.u rfl rfl (Wt.plain rfl) (Ex.move rfl) ?_
  refine WL.u rfl rfl (Wt.plain rfl) (Ex.move rfl) ?_
  refine WL.u rfl rfl (Wt.plain rfl) (Ex.lenSl Tryd.underlying23 rfl) ?_
  refine WL.u rfl rfl (Wt.plain rfl) (Ex.mul rfl rfl (by omega)) ?_
  refine WL.u rfl rfl (Wt.plain rfl) (Ex.move rfl) ?_
  refine WL.u rfl rfl (Wt.plain rfl) (Ex.indexAddr Tryd.underlying23 ty9 rfl rfl (by omega)) ?_
  refine WL.u rfl rfl (Wt.plain rfl) (Ex.loadSl flat9 (hg.kept hH.keep) rfl rfl (getD_get g 0 [] (by omega))) ?_
  refine WL.u rfl rfl (Wt.plain rfl) (Ex.lenStr Tryd.underlying9 rfl) ?_
  refine WL.u rfl rfl (Wt.plain rfl) ((Ex.mul rfl rfl (by rw [hmul]; omega)).to (congrArg (Value.int IntKind.i64) hmul)) ?_
  refine WL.u rfl rfl (Wt.plain rfl) (Ex.neq rfl rfl) ?_
  refine WL.next ?_
  refine WC.cond rfl (fun hc2 => ?_) (fun hc2 => ?_)
  · have hc2' := hc2; try simp only [decide_eq_true_eq, decide_eq_false_iff_not, Bool.not_eq_true', Bool.not_eq_false', Bool.not_eq_true, Bool.not_eq_false] at hc2'
    have hno : ¬ (gridIn g = true ∧ (rounds g).length = 0) := fun e => by have := hhi.2 e.2; omega
    refine WC.seq ?_
    refine WC.region ?_
    refine WL.u rfl rfl (Wt.plain rfl) (Ex.assign rfl) ?_
    refine WL.u rfl rfl (Wt.plain rfl) (Ex.assign rfl) ?_
    refine WL.next ?_
    refine WC.ret ?_
    refine WN.retThen ?_
    refine WN.body2 rfl rfl rfl ?_
    exact ⟨by rw [proofNone_not hno] <;> rfl, hH.keep⟩
  have hc2' := hc2; try simp only [decide_eq_true_eq, decide_eq_false_iff_not, Bool.not_eq_true', Bool.not_eq_false', Bool.not_eq_true, Bool.not_eq_false] at hc2'
  have hr0 : (rounds g).length = 0 := hhi.1 (by omega)
  have hlt100 := lens_lt z (Nat.le_refl (ports g))
  have hll := lensTo_len g (ports g)
  have hlL : (lensL g).length ≤ ports g := hll
  refine WC.skip ?_
  refine WN.next ?_
  refine WC.seq ?_
  refine WC.region ?_
  refine WL.u rfl rfl (Wt.plain rfl) (Ex.assign rfl) ?_
  refine WL.next ?_
  refine WC.seq ?_
  refine WC.seq ?_
  refine WC.region ?_
  refine WL.u rfl rfl (Wt.plain rfl) (Ex.assign rfl) ?_
  refine WL.next ?_
  refine WC.block ?_
  refine WC.loop (ι := Nat) (fun i => [(0, .slice (some ⟨b, off, none⟩) g.length cap), (4, vsl b13 (lensL g).length cap13), (6, vstr (wordsT ((lensL g).take i))), (7, vint i)]) (fun i wn => Hp [] w wn [(b13, .cells cur13 3 (0, 0))] ∧ i ≤ (lensL g).length) (fun i => (lensL g).length - i) (0) (by exact ⟨rfl, rfl, rfl, rfl, trivial⟩) ?_ ?_
  · exact ⟨hH, Nat.zero_le _⟩
  rintro i wn ⟨hH, hi⟩
  intro mu0 hmu; try dsimp only at hmu
  show WC _ _ _ _ [(0, .slice (some ⟨b, off, none⟩) g.length cap), (4, vsl b13 (lensL g).length cap13), (6, vstr (wordsT ((lensL g).take i))), (7, vint i)] _
  refine WC.seq ?_
  refine WC.seq ?_
  refine WC.region ?_
  refine WL.u rfl rfl (Wt.plain rfl) (Ex.move rfl) ?_
  refine WL.u rfl rfl (Wt.plain rfl) (Ex.move rfl) ?_
  refine WL.u rfl rfl (Wt.plain rfl) (Ex.lenSl Tryd.underlying34 rfl) ?_
  refine WL.u rfl rfl (Wt.plain rfl) (Ex.lss rfl rfl) ?_
  refine WL.next ?_
  refine WC.cond rfl (fun hc3 => ?_) (fun hc3 => ?_)
  · have hc3' := hc3; try simp only [decide_eq_true_eq, decide_eq_false_iff_not, Bool.not_eq_true', Bool.not_eq_false', Bool.not_eq_true, Bool.not_eq_false] at hc3'
    have hli : i < (lensL g).length := by omega
    have hxi : (lensL g).getD i 0 < 100 := hlt100 _ (List.mem_of_getElem? (getD_get (lensL g) i 0 hli))
    have htk : (lensL g).take (i + 1) = (lensL g).take i ++ [(lensL g).getD i 0] := by rw [List.take_add_one, getD_get (lensL g) i 0 hli]; rfl
    have hwt := wordsT_len (l := (lensL g).take i) (fun x hx => hlt100 x (List.mem_of_mem_take hx))
    have hdl := decL_len hxi
    have htl : ((lensL g).take i).length ≤ 100 := by rw [List.length_take]; have : (lensL g).length ≤ ports g := hll; omega
    refine WC.skip ?_
    refine WN.next ?_
    refine WC.seq ?_
    refine WC.block ?_
    refine WC.region ?_
    refine WL.u rfl rfl (Wt.plain rfl) (Ex.move rfl) ?_
    refine WL.u rfl rfl (Wt.plain rfl) (Ex.concat rfl rfl (by simp only [List.length_cons, List.length_nil]; omega)) ?_
    refine WL.u rfl rfl (Wt.plain rfl) (Ex.move rfl) ?_
    refine WL.u rfl rfl (Wt.plain rfl) (Ex.move rfl) ?_
    refine WL.u rfl rfl (Wt.plain rfl) (Ex.indexAddr Tryd.underlying34 ty3 rfl rfl (by omega)) ?_
    refine WL.u rfl rfl (Wt.plain rfl) (Ex.loadHp flat3 rfl hH (ho13.get rfl (getD_get (lensL g) i 0 hli))) ?_
    refine WL.call callable48 rfl (Wt.plain rfl) rfl rfl (sl6Dec ((lensL g).getD i 0) _ hxi) ?_
    rintro _ wn ⟨rfl, hC⟩; replace hH := hH.call hC; clear hC
    refine WL.u rfl rfl (Wt.plain rfl) (Ex.concat rfl rfl (by simp only [List.length_append, List.length_cons, List.length_nil]; omega)) ?_
    refine WL.u rfl rfl (Wt.plain rfl) (Ex.assign rfl) ?_
    refine WL.last ?_
    refine WN.normalBlock ?_
    refine WN.next ?_
    refine WC.region ?_
    refine WL.u rfl rfl (Wt.plain rfl) (Ex.move rfl) ?_
    refine WL.u rfl rfl (Wt.plain rfl) (Ex.add rfl rfl (by omega)) ?_
    refine WL.u rfl rfl (Wt.plain rfl) (Ex.assign rfl) ?_
    refine WL.last ?_
    refine WN.round (i + 1) (by exact ⟨rfl, rfl, congrArg (fun k : Str => some (vstr k)) (show _ = wordsT ((lensL g).take (i + 1)) by rw [htk, wordsT_snoc]), rfl, trivial⟩) ?_ ?_
    · exact ⟨hH, by omega⟩
    · (try dsimp only); omega
  have hc3' := hc3; try simp only [decide_eq_true_eq, decide_eq_false_iff_not, Bool.not_eq_true', Bool.not_eq_false', Bool.not_eq_true, Bool.not_eq_false] at hc3'
  refine WC.exit ?_
  refine WN.exitThen ?_
  refine WN.exitThen ?_
  refine WN.exitHere ?_
  refine WN.next ?_
  refine WC.seq ?_
  refine WC.region ?_
  refine WL.u rfl rfl (Wt.plain rfl) (Ex.move rfl) ?_
  refine WL.u rfl rfl (Wt.plain rfl) (Ex.assign rfl) ?_
  refine WL.u rfl rfl (Wt.plain rfl) (Ex.assign rfl) ?_
  refine WL.next ?_
  refine WC.ret ?_
  refine WN.body2 rfl rfl rfl ?_
  have hie : i = (lensL g).length := by omega
  exact ⟨by rw [proofNone_at hgi hr0, hie, List.take_length] <;> rfl, hH.keep⟩

theorem sProofNoneIs (g : Grid) (a : Option Addr) (cap : Nat) (t : Str) (w : World) (hg : Sl rStr w a g) (hs : Short g) : Fn Tryd.prog 19 [.slice a g.length cap, vstr t] w (fun v w1 => v = .bool (proofNoneIs g t) ∧ Keep [] w w1) := by
  refine Fn.enter (n := 18) Tryd.func19 rfl rfl rfl ?_
  show WC _ _ _ _ [(0, .slice a g.length cap), (1, vstr t)] _
  have hH := Hp.start [] w
  refine WC.seq ?_
  refine WC.region ?_
  refine WL.u rfl rfl (Wt.plain rfl) (Ex.assign rfl) ?_
  refine WL.next ?_
  refine WC.seq ?_
  refine WC.region ?_
  refine WL.u rfl rfl (Wt.plain rfl) (Ex.move rfl) ?_
  refine WL.call callable29 rfl (Wt.plain rfl) rfl rfl (sProofNone _ _ _ _ (hg.kept hH.keep) hs) ?_
  rintro _ wn ⟨rfl, hC⟩; replace hH := hH.call hC; clear hC
  refine WL.u rfl rfl (Wt.plain rfl) (Ex.move rfl) ?_
  refine WL.u rfl rfl (Wt.plain rfl) (Ex.extract rfl rfl) ?_
  refine WL.u rfl rfl (Wt.plain rfl) (Ex.extract rfl rfl) ?_
  refine WL.u rfl rfl (Wt.plain rfl) (Ex.assign rfl) ?_
  refine WL.u rfl rfl (Wt.plain rfl) (Ex.assign rfl) ?_
  refine WL.next ?_
  refine WC.seq ?_
  refine WC.region ?_
  refine WL.u rfl rfl (Wt.plain rfl) (Ex.move rfl) ?_
  refine WL.u rfl rfl (Wt.plain rfl) (Ex.move rfl) ?_
  refine WL.split (t := 13) rfl (fun hg2_1 => ?_) (fun hg2_1 => ?_)
  · have hg2_1' := hg2_1; try simp only [decide_eq_true_eq, decide_eq_false_iff_not, Bool.not_eq_true', Bool.not_eq_false', Bool.not_eq_true, Bool.not_eq_false] at hg2_1'
    refine WL.u rfl rfl (Wt.guard' rfl rfl rfl hg2_1 rfl) (Ex.move rfl) ?_
    refine WL.u rfl rfl (Wt.guard' rfl rfl rfl hg2_1 rfl) (Ex.move rfl) ?_
    refine WL.u rfl rfl (Wt.guard' rfl rfl rfl hg2_1 rfl) (Ex.eqlStr rfl rfl) ?_
    refine WL.u rfl rfl (Wt.plain rfl) (Ex.pickT rfl hg2_1 rfl) ?_
    refine WL.u rfl rfl (Wt.plain rfl) (Ex.assign rfl) ?_
    refine WL.next ?_
    refine WC.ret ?_
    refine WN.body1 rfl rfl ?_
    exact ⟨by unfold proofNoneIs; rw [hg2_1]; rfl, hH.keep⟩
  have hg2_1' := hg2_1; try simp only [decide_eq_true_eq, decide_eq_false_iff_not, Bool.not_eq_true', Bool.not_eq_false', Bool.not_eq_true, Bool.not_eq_false] at hg2_1'
  refine WL.pass rfl rfl (Wt.guard' rfl rfl rfl hg2_1 rfl) ?_
  refine WL.pass rfl rfl (Wt.guard' rfl rfl rfl hg2_1 rfl) ?_
  refine WL.pass rfl rfl (Wt.guard' rfl rfl rfl hg2_1 rfl) ?_
  refine WL.u rfl rfl (Wt.plain rfl) (Ex.pickF rfl hg2_1 rfl) ?_
  refine WL.u rfl rfl (Wt.plain rfl) (Ex.assign rfl) ?_
  refine WL.next ?_
  refine WC.ret ?_
  refine WN.body1 rfl rfl ?_
  exact ⟨by unfold proofNoneIs; rw [hg2_1]; rfl, hH.keep⟩

theorem lawExactProofNone (g : Grid) (a : Option Addr) (cap : Nat) (w : World) (hg : Sl rStr w a g) (hs : Short g) : Fn Tryd.prog 8 [.slice a g.length cap] w (fun v w1 => v = .bool true ∧ Keep [] w w1) := by
  refine Fn.enter (n := 40) Tryd.func8 rfl rfl rfl ?_
  show WC _ _ _ _ [(0, .slice a g.length cap)] _
  have hH := Hp.start [] w
  refine WC.seq ?_
  refine WC.region ?_
  refine WL.u rfl rfl (Wt.plain rfl) (Ex.assign rfl) ?_
  refine WL.next ?_
  refine WC.seq ?_
  refine WC.region ?_
  refine WL.u rfl rfl (Wt.plain rfl) (Ex.assign rfl) ?_
  refine WL.next ?_
  refine WC.seq ?_
  refine WC.region ?_
  refine WL.u rfl rfl (Wt.plain rfl) (Ex.move rfl) ?_
  refine WL.u rfl rfl (Wt.plain rfl) (Ex.move rfl) ?_
  refine WL.call callable25 rfl (Wt.plain rfl) rfl rfl (szStringS g a cap 1048576 _ (hg.kept hH.keep) hs (by omega)) ?_
  rintro _ _ ⟨r, rfl, hw, hr⟩; obtain rfl := hw.symm
  refine WL.u rfl rfl (Wt.plain rfl) (Ex.assign rfl) ?_
  refine WL.next ?_
  refine WC.seq ?_
  refine WC.seq ?_
  refine WC.region ?_
  refine WL.u rfl rfl (Wt.plain rfl) (Ex.move rfl) ?_
  refine WL.u rfl rfl (Wt.plain rfl) (Ex.lss rfl rfl) ?_
  refine WL.next ?_
  refine WC.cond rfl (fun hc1 => ?_) (fun hc1 => ?_)
  · have hc1' := hc1; try simp only [decide_eq_true_eq, decide_eq_false_iff_not, Bool.not_eq_true', Bool.not_eq_false', Bool.not_eq_true, Bool.not_eq_false] at hc1'
    refine WC.seq ?_
    refine WC.region ?_
    refine WL.u rfl rfl (Wt.plain rfl) (Ex.assign rfl) ?_
    refine WL.next ?_
    refine WC.ret ?_
    refine WN.retThen ?_
    refine WN.body1 rfl rfl ?_
    exact ⟨rfl, hH.keep⟩
  have hc1' := hc1; try simp only [decide_eq_true_eq, decide_eq_false_iff_not, Bool.not_eq_true', Bool.not_eq_false', Bool.not_eq_true, Bool.not_eq_false] at hc1'
  have hr2 := hr (by omega)
  have hgl := hr2.1
  refine WC.skip ?_
  refine WN.next ?_
  refine WC.seq ?_
  refine WC.region ?_
  refine WL.u rfl rfl (Wt.plain rfl) (Ex.move rfl) ?_
  refine WL.call callable27 rfl (Wt.plain rfl) rfl rfl (toStringS _ _ _ _ (hg.kept hH.keep) hgl) ?_
  rintro _ wn ⟨hC, hN⟩; obtain ⟨b101, cap101, cur101, rfl, hge, hbb, ho101⟩ := hN.own; replace hH := hH.push hC hge hbb
  refine WL.call callable29 rfl (Wt.plain rfl) rfl rfl (sProofNone g _ _ _ (ho101.slAt hH 0 rfl) hs) ?_
  rintro _ wn ⟨rfl, hC⟩; replace hH := hH.call hC; clear hC
  refine WL.u rfl rfl (Wt.plain rfl) (Ex.move rfl) ?_
  refine WL.u rfl rfl (Wt.plain rfl) (Ex.extract rfl rfl) ?_
  refine WL.u rfl rfl (Wt.plain rfl) (Ex.extract rfl rfl) ?_
  refine WL.u rfl rfl (Wt.plain rfl) (Ex.assign rfl) ?_
  refine WL.u rfl rfl (Wt.plain rfl) (Ex.assign rfl) ?_
  refine WL.next ?_
  refine WC.seq ?_
  refine WC.region ?_
  refine WL.u rfl rfl (Wt.plain rfl) (Ex.move rfl) ?_
  refine WL.call callable27 rfl (Wt.plain rfl) rfl rfl (toStringS _ _ _ _ (hg.kept hH.keep) hgl) ?_
  rintro _ wn ⟨hC, hN⟩; obtain ⟨b102, cap102, cur102, rfl, hge, hbb, ho102⟩ := hN.own; replace hH := hH.push hC hge hbb
  refine WL.u rfl rfl (Wt.plain rfl) (Ex.assign rfl) ?_
  refine WL.next ?_
  refine WC.seq ?_
  refine WC.region ?_
  refine WL.u rfl rfl (Wt.plain rfl) (Ex.move rfl) ?_
  refine WL.call callable16 rfl (Wt.plain rfl) rfl rfl (iProofNone g _ _ _ (ho102.slAt hH 0 rfl) hs) ?_
  rintro _ wn ⟨rfl, hC⟩; replace hH := hH.call hC; clear hC
  refine WL.u rfl rfl (Wt.plain rfl) (Ex.move rfl) ?_
  refine WL.u rfl rfl (Wt.plain rfl) (Ex.extract rfl rfl) ?_
  refine WL.u rfl rfl (Wt.plain rfl) (Ex.extract rfl rfl) ?_
  refine WL.u rfl rfl (Wt.plain rfl) (Ex.assign rfl) ?_
  refine WL.u rfl rfl (Wt.plain rfl) (Ex.assign rfl) ?_
  refine WL.next ?_
  refine WC.seq ?_
  refine WC.seq ?_
  refine WC.region ?_
  refine WL.u rfl rfl (Wt.plain rfl) (Ex.move rfl) ?_
  refine WL.u rfl rfl (Wt.plain rfl) (Ex.move rfl) ?_
  refine WL.u rfl rfl (Wt.plain rfl) (Ex.neqStr rfl rfl) ?_
  refine WL.u rfl rfl (Wt.plain rfl) (Ex.move rfl) ?_
  refine WL.split (t := 30) rfl (fun hg8_3 => ?_) (fun hg8_3 => ?_)
  · exfalso; simp at hg8_3
  have hg8_3' := hg8_3; try simp only [decide_eq_true_eq, decide_eq_false_iff_not, Bool.not_eq_true', Bool.not_eq_false', Bool.not_eq_true, Bool.not_eq_false] at hg8_3'
  refine WL.u rfl rfl (Wt.guard' rfl rfl rfl hg8_3 rfl) (Ex.move rfl) ?_
  refine WL.u rfl rfl (Wt.guard' rfl rfl rfl hg8_3 rfl) (Ex.move rfl) ?_
  refine WL.u rfl rfl (Wt.guard' rfl rfl rfl hg8_3 rfl) (Ex.neqB Tryd.underlying4 rfl rfl) ?_
  refine WL.u rfl rfl (Wt.plain rfl) (Ex.pickF rfl hg8_3 rfl) ?_
  refine WL.next ?_
  refine WC.condF rfl (by simp) ?_
  refine WC.skip ?_
  refine WN.next ?_
  refine WC.seq ?_
  refine WC.seq ?_
  refine WC.region ?_
  refine WL.u rfl rfl (Wt.plain rfl) (Ex.move rfl) ?_
  refine WL.u rfl rfl (Wt.plain rfl) (Ex.move rfl) ?_
  refine WL.call callable27 rfl (Wt.plain rfl) rfl rfl (toStringS _ _ _ _ (hg.kept hH.keep) hgl) ?_
  rintro _ wn ⟨hC, hN⟩; obtain ⟨b103, cap103, cur103, rfl, hge, hbb, ho103⟩ := hN.own; replace hH := hH.push hC hge hbb
  refine WL.call callable28 rfl (Wt.plain rfl) rfl rfl (eqStringS g g _ _ _ _ _ (ho102.slAt hH 1 rfl) (ho103.slAt hH 0 rfl)) ?_
  rintro _ wn ⟨rfl, hC⟩; replace hH := hH.dr hC; clear hC
  refine WL.u rfl rfl (Wt.plain rfl) (Ex.not rfl) ?_
  refine WL.next ?_
  refine WC.condF rfl (by simp) ?_
  refine WC.skip ?_
  refine WN.next ?_
  refine WC.seq ?_
  refine WC.region ?_
  refine WL.u rfl rfl (Wt.plain rfl) (Ex.assign rfl) ?_
  refine WL.next ?_
  refine WC.ret ?_
  refine WN.body1 rfl rfl ?_
  exact ⟨rfl, hH.keep⟩

theorem lawExactProofNoneIs (g : Grid) (a : Option Addr) (cap : Nat) (t : Str) (w : World) (hg : Sl rStr w a g) (hs : Short g) (hy : (t.length : Int) ≤ 9223372036854775807) : Fn Tryd.prog 9 [.slice a g.length cap, vstr t] w (fun v w1 => v = .bool true ∧ Keep [] w w1) := by
  refine Fn.enter (n := 34) Tryd.func9 rfl rfl rfl ?_
  show WC _ _ _ _ [(0, .slice a g.length cap), (1, vstr t)] _
  have hH := Hp.start [] w
  refine WC.seq ?_
  refine WC.region ?_
  refine WL.u rfl rfl (Wt.plain rfl) (Ex.assign rfl) ?_
  refine WL.next ?_
  refine WC.seq ?_
  refine WC.seq ?_
  refine WC.region ?_
  refine WL.u rfl rfl (Wt.plain rfl) (Ex.move rfl) ?_
  refine WL.u rfl rfl (Wt.plain rfl) (Ex.lenStr Tryd.underlying9 rfl) ?_
  refine WL.u rfl rfl (Wt.plain rfl) (Ex.gtr rfl rfl) ?_
  refine WL.next ?_
  refine WC.cond rfl (fun hc1 => ?_) (fun hc1 => ?_)
  · have hc1' := hc1; try simp only [decide_eq_true_eq, decide_eq_false_iff_not, Bool.not_eq_true', Bool.not_eq_false', Bool.not_eq_true, Bool.not_eq_false] at hc1'
    refine WC.seq ?_
    refine WC.region ?_
    refine WL.u rfl rfl (Wt.plain rfl) (Ex.assign rfl) ?_
    refine WL.next ?_
    refine WC.ret ?_
    refine WN.retThen ?_
    refine WN.body1 rfl rfl ?_
    exact ⟨rfl, hH.keep⟩
  have hc1' := hc1; try simp only [decide_eq_true_eq, decide_eq_false_iff_not, Bool.not_eq_true', Bool.not_eq_false', Bool.not_eq_true, Bool.not_eq_false] at hc1'
  refine WC.skip ?_
  refine WN.next ?_
  refine WC.seq ?_
  refine WC.region ?_
  refine WL.u rfl rfl (Wt.plain rfl) (Ex.assign rfl) ?_
  refine WL.next ?_
  refine WC.seq ?_
  refine WC.region ?_
  refine WL.u rfl rfl (Wt.plain rfl) (Ex.move rfl) ?_
  refine WL.u rfl rfl (Wt.plain rfl) (Ex.move rfl) ?_
  refine WL.call callable25 rfl (Wt.plain rfl) rfl rfl (szStringS g a cap 1048576 _ (hg.kept hH.keep) hs (by omega)) ?_
  rintro _ _ ⟨r, rfl, hw, hr⟩; obtain rfl := hw.symm
  refine WL.u rfl rfl (Wt.plain rfl) (Ex.assign rfl) ?_
  refine WL.next ?_
  refine WC.seq ?_
  refine WC.seq ?_
  refine WC.region ?_
  refine WL.u rfl rfl (Wt.plain rfl) (Ex.move rfl) ?_
  refine WL.u rfl rfl (Wt.plain rfl) (Ex.lss rfl rfl) ?_
  refine WL.next ?_
  refine WC.cond rfl (fun hc2 => ?_) (fun hc2 => ?_)
  · have hc2' := hc2; try simp only [decide_eq_true_eq, decide_eq_false_iff_not, Bool.not_eq_true', Bool.not_eq_false', Bool.not_eq_true, Bool.not_eq_false] at hc2'
    refine WC.seq ?_
    refine WC.region ?_
    refine WL.u rfl rfl (Wt.plain rfl) (Ex.assign rfl) ?_
    refine WL.next ?_
    refine WC.ret ?_
    refine WN.retThen ?_
    refine WN.body1 rfl rfl ?_
    exact ⟨rfl, hH.keep⟩
  have hc2' := hc2; try simp only [decide_eq_true_eq, decide_eq_false_iff_not, Bool.not_eq_true', Bool.not_eq_false', Bool.not_eq_true, Bool.not_eq_false] at hc2'
  have hr2 := hr (by omega)
  have hgl := hr2.1
  refine WC.skip ?_
  refine WN.next ?_
  refine WC.seq ?_
  refine WC.region ?_
  refine WL.u rfl rfl (Wt.plain rfl) (Ex.move rfl) ?_
  refine WL.call callable27 rfl (Wt.plain rfl) rfl rfl (toStringS _ _ _ _ (hg.kept hH.keep) hgl) ?_
  rintro _ wn ⟨hC, hN⟩; obtain ⟨b101, cap101, cur101, rfl, hge, hbb, ho101⟩ := hN.own; replace hH := hH.push hC hge hbb
  refine WL.u rfl rfl (Wt.plain rfl) (Ex.move rfl) ?_
  refine WL.call callable19 rfl (Wt.plain rfl) rfl rfl (sProofNoneIs g _ _ t _ (ho101.slAt hH 0 rfl) hs) ?_
  rintro _ wn ⟨rfl, hC⟩; replace hH := hH.call hC; clear hC
  refine WL.u rfl rfl (Wt.plain rfl) (Ex.assign rfl) ?_
  refine WL.next ?_
  refine WC.seq ?_
  refine WC.region ?_
  refine WL.u rfl rfl (Wt.plain rfl) (Ex.move rfl) ?_
  refine WL.call callable27 rfl (Wt.plain rfl) rfl rfl (toStringS _ _ _ _ (hg.kept hH.keep) hgl) ?_
  rintro _ wn ⟨hC, hN⟩; obtain ⟨b102, cap102, cur102, rfl, hge, hbb, ho102⟩ := hN.own; replace hH := hH.push hC hge hbb
  refine WL.u rfl rfl (Wt.plain rfl) (Ex.assign rfl) ?_
  refine WL.next ?_
  refine WC.seq ?_
  refine WC.region ?_
  refine WL.u rfl rfl (Wt.plain rfl) (Ex.move rfl) ?_
  refine WL.u rfl rfl (Wt.plain rfl) (Ex.move rfl) ?_
  refine WL.call callable18 rfl (Wt.plain rfl) rfl rfl (iProofNoneIs g _ _ t _ (ho102.slAt hH 0 rfl) hs) ?_
  rintro _ wn ⟨rfl, hC⟩; replace hH := hH.call hC; clear hC
  refine WL.u rfl rfl (Wt.plain rfl) (Ex.assign rfl) ?_
  refine WL.next ?_
  refine WC.seq ?_
  refine WC.seq ?_
  refine WC.region ?_
  refine WL.u rfl rfl (Wt.plain rfl) (Ex.move rfl) ?_
  refine WL.u rfl rfl (Wt.plain rfl) (Ex.move rfl) ?_
  refine WL.u rfl rfl (Wt.plain rfl) (Ex.neqB Tryd.underlying4 rfl rfl) ?_
  refine WL.next ?_
  refine WC.condF rfl (by simp) ?_
  refine WC.skip ?_
  refine WN.next ?_
  refine WC.seq ?_
  refine WC.seq ?_
  refine WC.region ?_
  refine WL.u rfl rfl (Wt.plain rfl) (Ex.move rfl) ?_
  refine WL.u rfl rfl (Wt.plain rfl) (Ex.move rfl) ?_
  refine WL.call callable27 rfl (Wt.plain rfl) rfl rfl (toStringS _ _ _ _ (hg.kept hH.keep) hgl) ?_
  rintro _ wn ⟨hC, hN⟩; obtain ⟨b103, cap103, cur103, rfl, hge, hbb, ho103⟩ := hN.own; replace hH := hH.push hC hge hbb
  refine WL.call callable28 rfl (Wt.plain rfl) rfl rfl (eqStringS g g _ _ _ _ _ (ho102.slAt hH 1 rfl) (ho103.slAt hH 0 rfl)) ?_
  rintro _ wn ⟨rfl, hC⟩; replace hH := hH.dr hC; clear hC
  refine WL.u rfl rfl (Wt.plain rfl) (Ex.not rfl) ?_
  refine WL.next ?_
  refine WC.condF rfl (by simp) ?_
  refine WC.skip ?_
  refine WN.next ?_
  refine WC.seq ?_
  refine WC.region ?_
  refine WL.u rfl rfl (Wt.plain rfl) (Ex.assign rfl) ?_
  refine WL.next ?_
  refine WC.ret ?_
  refine WN.body1 rfl rfl ?_
  exact ⟨rfl, hH.keep⟩

theorem sl91OneP (a : Option Addr) (l : List UInt8) (cap : Nat) (w : World) (hc : Sl rByte w a l) (hcap : l.length ≤ cap) : Fn Tryd.prog 43 [.slice a l.length cap] w (fun v w1 => ∃ g, Keep [] w w1 ∧ New rStr 9 w w1 v g ∧ (1 ≤ g.length ∧ g.length ≤ 4) ∧ (∀ s ∈ g, s.length ≤ 5)) := by
  refine Fn.enter (n := 6) Tryd.func43 rfl rfl rfl ?_
  show WC _ _ _ _ [(0, .slice a l.length cap)] _
  have hH := Hp.start [] w
  replace hc := hc.take 2000
  have hl := List.length_take_le 2000 l
  refine WC.seq ?_
  refine WC.region ?_
  refine WL.u rfl rfl (Wt.plain rfl) (Ex.assign rfl) ?_
  refine WL.next ?_
  refine WC.seq ?_
  refine WC.region ?_
  refine WL.u rfl rfl (Wt.plain rfl) (Ex.move rfl) ?_
  refine WL.call callable33 rfl (Wt.plain rfl) rfl rfl (sl6Open _ _ _ _ hcap) ?_
  rintro _ wn ⟨r, rfl, hrn, hC, hro⟩; have hca := (hc.kept hH.keep).offNew hrn; replace hH := hH.push hC hrn hro; clear hC hro
  refine WL.call callable32 rfl (Wt.plain rfl) rfl rfl (sl91Some _ _ _ _ _ 4 4 _ (hH.at 0 rfl) (hc.kept hH.keep) hca hl (by omega) (by omega) (by omega)) ?_
  rintro _ wn ⟨g, q, hN, hgl, hgr, hKK, ho, hq⟩; obtain ⟨b5, cap5, cur5, rfl, hge5, hbb5, ho5⟩ := hN.own; replace hH := hH.turnPush hKK ho hge5 hbb5; clear hKK ho hN
  refine WL.u rfl rfl (Wt.plain rfl) (Ex.assign rfl) ?_
  refine WL.next ?_
  refine WC.ret ?_
  refine WN.body1 rfl rfl ?_
  exact ⟨g, hH.keep, New.of (hH.front 0 rfl) ho5 (hH.base 0 rfl), by omega, fun s hs => by have := hgr s hs; omega⟩

theorem sDrawProofNone (a : Option Addr) (l : List UInt8) (cap : Nat) (w : World) (hc : Sl rByte w a l) (hcap : l.length ≤ cap) : Fn Tryd.prog 31 [.slice a l.length cap] w (fun v w1 => ∃ g, Keep [] w w1 ∧ New rStr 9 w w1 v g ∧ (1 ≤ g.length ∧ g.length ≤ 4) ∧ (∀ s ∈ g, s.length ≤ 5)) := by
  refine Fn.enter (n := 5) Tryd.func31 rfl rfl rfl ?_
  show WC _ _ _ _ [(0, .slice a l.length cap)] _
  have hH := Hp.start [] w
  refine WC.seq ?_
  refine WC.region ?_
  refine WL.u rfl rfl (Wt.plain rfl) (Ex.assign rfl) ?_
  refine WL.next ?_
  refine WC.seq ?_
  refine WC.region ?_
  refine WL.u rfl rfl (Wt.plain rfl) (Ex.move rfl) ?_
  refine WL.call callable43 rfl (Wt.plain rfl) rfl rfl (sl91OneP _ _ _ _ (hc.kept hH.keep) hcap) ?_
  rintro _ wn ⟨g, hC, hN, hgl, hgr⟩; obtain ⟨b4, cap4, cur4, rfl, hge4, hbb4, ho4⟩ := hN.own; replace hH := hH.push hC hge4 hbb4; clear hC hN; have hs := short_of hgr (by omega)
  refine WL.u rfl rfl (Wt.plain rfl) (Ex.assign rfl) ?_
  refine WL.next ?_
  refine WC.ret ?_
  refine WN.body1 rfl rfl ?_
  exact ⟨g, hH.keep, New.of hH ho4 (hH.base 0 rfl), hgl, hgr⟩


theorem proofNone_ex {g : Grid} (h : (proofNone g).2 = true) : gridIn g = true ∧ (rounds g).length = 0 := by
  apply Classical.byContradiction
  intro e
  rw [proofNone_not e] at h; cases h
theorem proofNoneIs_ex {g : Grid} {t : Str} (h : proofNoneIs g t = true) : gridIn g = true ∧ (rounds g).length = 0 := by
  unfold proofNoneIs at h
  rw [Bool.and_eq_true] at h
  exact proofNone_ex h.1
def roundManyQ (g : Grid) : Int × Bool := if gridIn g = true then (((rounds g).length : Int), true) else (0, false)
theorem roundManyP {g : Grid} (h : gridIn g = true) : roundManyQ g = (((rounds g).length : Int), true) := by unfold roundManyQ; rw [if_pos h]

theorem iRoundManyQ (g : Grid) (a : Option Addr) (cap : Nat) (w : World) (hg : Sl rStr w a g) (hs : Short g) : Fn Tryd.prog 13 [.slice a g.length cap] w (fun v w1 => v = .tuple #[vint (roundManyQ g).1, .bool (roundManyQ g).2] ∧ Keep [] w w1) := by
  refine Fn.enter (n := 9) Tryd.func13 rfl rfl rfl ?_
  show WC _ _ _ _ [(0, .slice a g.length cap)] _
  have hH := Hp.start [] w
  refine WC.seq ?_
  refine WC.region ?_
  refine WL.u rfl rfl (Wt.plain rfl) (Ex.assign rfl) ?_
  refine WL.u rfl rfl (Wt.plain rfl) (Ex.assign rfl) ?_
  refine WL.next ?_
  refine WC.seq ?_
  refine WC.seq ?_
  refine WC.region ?_
  refine WL.u rfl rfl (Wt.plain rfl) (Ex.move rfl) ?_
  refine WL.call callable34 rfl (Wt.plain rfl) rfl rfl (iGridIn _ _ _ _ (hg.kept hH.keep) hs) ?_
  rintro _ _ ⟨rfl, hw⟩; obtain rfl := hw.symm
  refine WL.u rfl rfl (Wt.plain rfl) (Ex.not rfl) ?_
  refine WL.next ?_
  refine WC.cond rfl (fun hc1 => ?_) (fun hc1 => ?_)
  · have hc1' := hc1; try simp only [decide_eq_true_eq, decide_eq_false_iff_not, Bool.not_eq_true', Bool.not_eq_false', Bool.not_eq_true, Bool.not_eq_false] at hc1'
    have hgi : gridIn g = false := by simpa using hc1
    refine WC.seq ?_
    refine WC.region ?_
    refine WL.u rfl rfl (Wt.plain rfl) (Ex.assign rfl) ?_
    refine WL.u rfl rfl (Wt.plain rfl) (Ex.assign rfl) ?_
    refine WL.next ?_
    refine WC.ret ?_
    refine WN.retThen ?_
    refine WN.body2 rfl rfl rfl ?_
    exact ⟨by unfold roundManyQ; rw [if_neg (by rw [hgi]; decide)] <;> rfl, hH.keep⟩
  have hc1' := hc1; try simp only [decide_eq_true_eq, decide_eq_false_iff_not, Bool.not_eq_true', Bool.not_eq_false', Bool.not_eq_true, Bool.not_eq_false] at hc1'
  have hgi : gridIn g = true := by simpa using hc1
  have hG := (gridOk_iff g).1 hgi
  refine WC.skip ?_
  refine WN.next ?_
  refine WC.seq ?_
  refine WC.region ?_
  refine WL.u rfl rfl (Wt.plain rfl) (Ex.move rfl) ?_
  refine WL.call callable35 rfl (Wt.plain rfl) rfl rfl (iroundMany _ _ _ _ (hg.kept hH.keep) hG) ?_
  rintro _ wn ⟨rfl, hC⟩; replace hH := hH.call hC; clear hC
  refine WL.u rfl rfl (Wt.plain rfl) (Ex.assign rfl) ?_
  refine WL.u rfl rfl (Wt.plain rfl) (Ex.assign rfl) ?_
  refine WL.next ?_
  refine WC.ret ?_
  refine WN.body2 rfl rfl rfl ?_
  exact ⟨by rw [roundManyP hgi] <;> rfl, hH.keep⟩

theorem lawProofNone (a : Option Addr) (l : List UInt8) (cap : Nat) (w : World) (hc : Sl rByte w a l) (hcap : l.length ≤ cap) : Fn Tryd.prog 11 [.slice a l.length cap] w (fun v w1 => v = .bool true ∧ Keep [] w w1) := by
  refine Fn.enter (n := 60) Tryd.func11 rfl rfl rfl ?_
  show WC _ _ _ _ [(0, .slice a l.length cap)] _
  have hH := Hp.start [] w
  refine WC.seq ?_
  refine WC.region ?_
  refine WL.u rfl rfl (Wt.plain rfl) (Ex.assign rfl) ?_
  refine WL.next ?_
  refine WC.seq ?_
  refine WC.seq ?_
  refine WC.region ?_
  refine WL.u rfl rfl (Wt.plain rfl) (Ex.move rfl) ?_
  refine WL.u rfl rfl (Wt.plain rfl) (Ex.lenSl Tryd.underlying22 rfl) ?_
  refine WL.u rfl rfl (Wt.plain rfl) (Ex.gtr rfl rfl) ?_
  refine WL.next ?_
  refine WC.cond rfl (fun hc1 => ?_) (fun hc1 => ?_)
  · have hc1' := hc1; try simp only [decide_eq_true_eq, decide_eq_false_iff_not, Bool.not_eq_true', Bool.not_eq_false', Bool.not_eq_true, Bool.not_eq_false] at hc1'
    refine WC.seq ?_
    refine WC.region ?_
    refine WL.u rfl rfl (Wt.plain rfl) (Ex.assign rfl) ?_
    refine WL.next ?_
    refine WC.ret ?_
    refine WN.retThen ?_
    refine WN.body1 rfl rfl ?_
    exact ⟨rfl, hH.keep⟩
  have hc1' := hc1; try simp only [decide_eq_true_eq, decide_eq_false_iff_not, Bool.not_eq_true', Bool.not_eq_false', Bool.not_eq_true, Bool.not_eq_false] at hc1'
  refine WC.skip ?_
  refine WN.next ?_
  refine WC.seq ?_
  refine WC.region ?_
  refine WL.u rfl rfl (Wt.plain rfl) (Ex.move rfl) ?_
  refine WL.call callable31 rfl (Wt.plain rfl) rfl rfl (sDrawProofNone _ _ _ _ (hc.kept hH.keep) hcap) ?_
  rintro _ wn ⟨g, hC, hN, hgl, hgr⟩; obtain ⟨b14, cap14, cur14, rfl, hge14, hbb14, ho14⟩ := hN.own; replace hH := hH.push hC hge14 hbb14; clear hC hN; have hs := short_of hgr (by omega)
  refine WL.u rfl rfl (Wt.plain rfl) (Ex.assign rfl) ?_
  refine WL.next ?_
  refine WC.seq ?_
  refine WC.region ?_
  refine WL.u rfl rfl (Wt.plain rfl) (Ex.move rfl) ?_
  refine WL.call callable16 rfl (Wt.plain rfl) rfl rfl (iProofNone g _ _ _ (ho14.slAt hH 0 rfl) hs) ?_
  rintro _ wn ⟨rfl, hC⟩; replace hH := hH.call hC; clear hC
  refine WL.u rfl rfl (Wt.plain rfl) (Ex.move rfl) ?_
  refine WL.u rfl rfl (Wt.plain rfl) (Ex.extract rfl rfl) ?_
  refine WL.u rfl rfl (Wt.plain rfl) (Ex.extract rfl rfl) ?_
  refine WL.u rfl rfl (Wt.plain rfl) (Ex.assign rfl) ?_
  refine WL.u rfl rfl (Wt.plain rfl) (Ex.assign rfl) ?_
  refine WL.next ?_
  refine WC.seq ?_
  refine WC.region ?_
  refine WL.u rfl rfl (Wt.plain rfl) (Ex.move rfl) ?_
  refine WL.call callable29 rfl (Wt.plain rfl) rfl rfl (sProofNone g _ _ _ (ho14.slAt hH 0 rfl) hs) ?_
  rintro _ wn ⟨rfl, hC⟩; replace hH := hH.call hC; clear hC
  refine WL.u rfl rfl (Wt.plain rfl) (Ex.move rfl) ?_
  refine WL.u rfl rfl (Wt.plain rfl) (Ex.extract rfl rfl) ?_
  refine WL.u rfl rfl (Wt.plain rfl) (Ex.extract rfl rfl) ?_
  refine WL.u rfl rfl (Wt.plain rfl) (Ex.assign rfl) ?_
  refine WL.u rfl rfl (Wt.plain rfl) (Ex.assign rfl) ?_
  refine WL.next ?_
  refine WC.seq ?_
  refine WC.seq ?_
  refine WC.region ?_
  refine WL.u rfl rfl (Wt.plain rfl) (Ex.move rfl) ?_
  refine WL.u rfl rfl (Wt.plain rfl) (Ex.move rfl) ?_
  refine WL.u rfl rfl (Wt.plain rfl) (Ex.neqB Tryd.underlying4 rfl rfl) ?_
  refine WL.u rfl rfl (Wt.plain rfl) (Ex.move rfl) ?_
  refine WL.split (t := 28) rfl (fun hg6_3 => ?_) (fun hg6_3 => ?_)
  · exfalso; simp at hg6_3
  have hg6_3' := hg6_3; try simp only [decide_eq_true_eq, decide_eq_false_iff_not, Bool.not_eq_true', Bool.not_eq_false', Bool.not_eq_true, Bool.not_eq_false] at hg6_3'
  refine WL.u rfl rfl (Wt.guard' rfl rfl rfl hg6_3 rfl) (Ex.move rfl) ?_
  refine WL.u rfl rfl (Wt.guard' rfl rfl rfl hg6_3 rfl) (Ex.move rfl) ?_
  refine WL.u rfl rfl (Wt.guard' rfl rfl rfl hg6_3 rfl) (Ex.neqStr rfl rfl) ?_
  refine WL.u rfl rfl (Wt.plain rfl) (Ex.pickF rfl hg6_3 rfl) ?_
  refine WL.u rfl rfl (Wt.plain rfl) (Ex.move rfl) ?_
  refine WL.split (t := 33) rfl (fun hg6_8 => ?_) (fun hg6_8 => ?_)
  · exfalso; simp at hg6_8
  have hg6_8' := hg6_8; try simp only [decide_eq_true_eq, decide_eq_false_iff_not, Bool.not_eq_true', Bool.not_eq_false', Bool.not_eq_true, Bool.not_eq_false] at hg6_8'
  refine WL.u rfl rfl (Wt.guard' rfl rfl rfl hg6_8 rfl) (Ex.move rfl) ?_
  refine WL.u rfl rfl (Wt.guard' rfl rfl rfl hg6_8 rfl) (Ex.not rfl) ?_
  refine WL.u rfl rfl (Wt.plain rfl) (Ex.pickF rfl hg6_8 rfl) ?_
  refine WL.next ?_
  refine WC.cond rfl (fun hc2 => ?_) (fun hc2 => ?_)
  · have hc2' := hc2; try simp only [decide_eq_true_eq, decide_eq_false_iff_not, Bool.not_eq_true', Bool.not_eq_false', Bool.not_eq_true, Bool.not_eq_false] at hc2'
    refine WC.seq ?_
    refine WC.region ?_
    refine WL.u rfl rfl (Wt.plain rfl) (Ex.move rfl) ?_
    refine WL.u rfl rfl (Wt.plain rfl) (Ex.move rfl) ?_
    refine WL.u rfl rfl (Wt.plain rfl) (Ex.eqlB Tryd.underlying4 rfl rfl) ?_
    refine WL.u rfl rfl (Wt.plain rfl) (Ex.move rfl) ?_
    refine WL.split (t := 40) rfl (fun hg7_3 => ?_) (fun hg7_3 => ?_)
    · have hg7_3' := hg7_3; try simp only [decide_eq_true_eq, decide_eq_false_iff_not, Bool.not_eq_true', Bool.not_eq_false', Bool.not_eq_true, Bool.not_eq_false] at hg7_3'
      refine WL.u rfl rfl (Wt.guard' rfl rfl rfl hg7_3 rfl) (Ex.move rfl) ?_
      refine WL.u rfl rfl (Wt.guard' rfl rfl rfl hg7_3 rfl) (Ex.move rfl) ?_
      refine WL.u rfl rfl (Wt.guard' rfl rfl rfl hg7_3 rfl) (Ex.eqlStr rfl rfl) ?_
      refine WL.u rfl rfl (Wt.plain rfl) (Ex.pickT rfl hg7_3 rfl) ?_
      refine WL.u rfl rfl (Wt.plain rfl) (Ex.assign rfl) ?_
      refine WL.next ?_
      refine WC.ret ?_
      refine WN.retThen ?_
      refine WN.body1 rfl rfl ?_
      exact ⟨congrArg Value.bool (by simp), hH.keep⟩
    exfalso; simp at hg7_3
  have hts : (proofNone g).2 = true := by simpa using hc2
  obtain ⟨hgi, hr0⟩ := proofNone_ex hts
  have erm := roundManyP hgi
  rw [hr0] at erm
  have eni : proofNoneIs g (proofNone g).1 = true := by unfold proofNoneIs; rw [hts]; exact decide_eq_true rfl
  have erm1 : decide ((roundManyQ g).1 = 0) = true := by rw [erm]; rfl
  refine WC.skip ?_
  refine WN.next ?_
  refine WC.seq ?_
  refine WC.region ?_
  refine WL.u rfl rfl (Wt.plain rfl) (Ex.move rfl) ?_
  refine WL.call callable13 rfl (Wt.plain rfl) rfl rfl (iRoundManyQ g _ _ _ (ho14.slAt hH 0 rfl) hs) ?_
  rintro _ wn ⟨rfl, hC⟩; replace hH := hH.call hC; clear hC
  refine WL.u rfl rfl (Wt.plain rfl) (Ex.move rfl) ?_
  refine WL.u rfl rfl (Wt.plain rfl) (Ex.extract rfl rfl) ?_
  refine WL.u rfl rfl (Wt.plain rfl) (Ex.extract rfl rfl) ?_
  refine WL.u rfl rfl (Wt.plain rfl) (Ex.assign rfl) ?_
  refine WL.u rfl rfl (Wt.plain rfl) (Ex.assign rfl) ?_
  refine WL.next ?_
  refine WC.seq ?_
  refine WC.region ?_
  refine WL.u rfl rfl (Wt.plain rfl) (Ex.move rfl) ?_
  refine WL.u rfl rfl (Wt.plain rfl) (Ex.move rfl) ?_
  refine WL.u rfl rfl (Wt.guard' rfl rfl rfl (by rw [erm]) rfl) (Ex.move rfl) ?_
  refine WL.u rfl rfl (Wt.guard' rfl rfl rfl (by rw [erm]) rfl) (Ex.eql rfl rfl) ?_
  refine WL.u rfl rfl (Wt.plain rfl) (Ex.pickT rfl (by rw [erm]) rfl) ?_
  refine WL.u rfl rfl (Wt.plain rfl) (Ex.move rfl) ?_
  refine WL.u rfl rfl (Wt.guard' rfl rfl rfl (erm1) rfl) (Ex.move rfl) ?_
  refine WL.u rfl rfl (Wt.guard' rfl rfl rfl (erm1) rfl) (Ex.move rfl) ?_
  refine WL.call callable18 rfl (Wt.guard' rfl rfl rfl (erm1) rfl) rfl rfl (iProofNoneIs g _ _ (proofNone g).1 _ (ho14.slAt hH 0 rfl) hs) ?_
  rintro _ wn ⟨rfl, hC⟩; replace hH := hH.call hC; clear hC
  refine WL.u rfl rfl (Wt.plain rfl) (Ex.pickT rfl (erm1) rfl) ?_
  refine WL.u rfl rfl (Wt.plain rfl) (Ex.assign rfl) ?_
  refine WL.next ?_
  refine WC.ret ?_
  refine WN.body1 rfl rfl ?_
  exact ⟨congrArg Value.bool eni, hH.keep⟩

end Go.Proofs.YtmhmdlgcdeodmaaDoor
