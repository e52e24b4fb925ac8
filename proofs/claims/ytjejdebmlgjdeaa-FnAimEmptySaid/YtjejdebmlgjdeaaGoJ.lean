/- The program's search goes on. -/
import Derived.Test.YtjejdebmlgjdeaaGoI
namespace Go.Proofs.Ytjejdebmlgjdeaa
set_option maxRecDepth 100000
set_option linter.unusedSimpArgs false
set_option linter.unusedVariables false
open Go Go.RowKit
theorem Own.three : Own rByte #[.int .u8 46, .int .u8 114, .int .u8 102] 3 ([46, 114, 102] : List UInt8) := ⟨by decide, by decide, by decide, by unfold Rw; rw [flat_one rfl]; rfl⟩
theorem goM_met {q f : Nat} {h : Grid} {F : List Bool} {s : Nat × Nat} {c b : Nat} (hs : F.getD s.1 false = true) : goM q (f + 1) h F s c b = leaveW (goM q f) q h F s c b := by
  conv => lhs; unfold goM
  rw [if_pos hs]
theorem cst_letter {g h : Grid} {cell : Nat} (x : UInt8) (e : letter h cell = letter g cell) : (x = letter g cell → cst h cell x = 0) ∧ (x ≠ letter g cell → cst h cell x = 1) := by
  unfold cst
  exact ⟨fun h1 => by rw [e, if_pos h1], fun h1 => by rw [e, if_neg h1]⟩

theorem iletterAt (g : Grid) (a : Option Addr) (cap cell : Nat) (w : World) (hg : Sl rStr w a g) (hG : GridOk g) (hc : cell < nR g * nC g) : Fn Try.prog 87 [.slice a g.length cap, vint cell] w (fun v w1 => v = .int .u8 (letter g cell).toNat ∧ Dr w w1) := by
  refine Fn.enter (n := 21) Try.func87 rfl rfl rfl ?_
  show WC _ _ _ _ [(0, .slice a g.length cap), (1, vint cell)] _
  have hD := Dr.refl w
  obtain ⟨h1, h2, h3, h4, h5, h6⟩ := id hG
  obtain ⟨b, off, rfl⟩ := hg.addr (by omega)
  have hF := cellF hG hc
  obtain ⟨hc25, hrl, hcl, hrow, hdi, hmi⟩ := hF
  have hrowN : (g.getD (cell / nC g) []).length = nC g := hrow
  have hclN : cell % nC g < nC g := hcl
  have hrlN : cell / nC g < g.length := hrl
  refine WC.seq ?_
  refine WC.region ?_
  refine WL.u rfl rfl (Wt.plain rfl) (Ex.assign rfl) ?_
  refine WL.next ?_
  refine WC.seq ?_
  refine WC.quiet rfl (by kernel_rfl) ?_
  refine WQ.u rfl rfl (Wt.plain rfl) (fun w hC => Ex.move rfl) ?_
  refine WQ.u rfl rfl (Wt.plain rfl) (fun w hC => Ex.move rfl) ?_
  refine WQ.u rfl rfl (Wt.plain rfl) (fun w hC => Ex.move rfl) ?_
  refine WQ.u rfl rfl (Wt.plain rfl) (fun w hC => Ex.indexAddr Try.underlying22 ty9 rfl rfl (by omega)) ?_
  refine WQ.u rfl rfl (Wt.plain rfl) (fun w hC => Ex.loadSl flat9 (hg.dr (hD.trans hC)) rfl rfl (getD_get g 0 [] (by omega))) ?_
  refine WQ.u rfl rfl (Wt.plain rfl) (fun w hC => Ex.lenStr Try.underlying9 rfl) ?_
  refine WQ.u rfl rfl (Wt.plain rfl) (fun w hC => (Ex.quo rfl rfl (by omega) (by omega)).to (congrArg (Value.int IntKind.i64) (show _ = ((cell / nC g : Nat) : Int) from rfl))) ?_
  refine WQ.u rfl rfl (Wt.plain rfl) (fun w hC => Ex.indexAddr Try.underlying22 ty9 rfl rfl (⟨Int.natCast_nonneg _, Int.ofNat_lt.2 hrlN⟩)) ?_
  refine WQ.u rfl rfl (Wt.plain rfl) (fun w hC => Ex.loadSl flat9 (hg.dr (hD.trans hC)) rfl rfl (show g[(((cell / nC g : Nat) : Int)).toNat]? = some (g.getD (cell / nC g) []) from getD_get g (cell / nC g) [] hrl)) ?_
  refine WQ.u rfl rfl (Wt.plain rfl) (fun w hC => Ex.move rfl) ?_
  refine WQ.u rfl rfl (Wt.plain rfl) (fun w hC => Ex.move rfl) ?_
  refine WQ.u rfl rfl (Wt.plain rfl) (fun w hC => Ex.indexAddr Try.underlying22 ty9 rfl rfl (by omega)) ?_
  refine WQ.u rfl rfl (Wt.plain rfl) (fun w hC => Ex.loadSl flat9 (hg.dr (hD.trans hC)) rfl rfl (getD_get g 0 [] (by omega))) ?_
  refine WQ.u rfl rfl (Wt.plain rfl) (fun w hC => Ex.lenStr Try.underlying9 rfl) ?_
  refine WQ.u rfl rfl (Wt.plain rfl) (fun w hC => (Ex.rem rfl rfl (by omega) (by omega)).to (congrArg (Value.int IntKind.i64) (show _ = ((cell % nC g : Nat) : Int) from rfl))) ?_
  refine WQ.u rfl rfl (Wt.plain rfl) (fun w hC => Ex.indexStr Try.underlying9 rfl rfl (⟨Int.natCast_nonneg _, by rw [hrowN]; exact Int.ofNat_lt.2 hclN⟩)) ?_
  refine WQ.u rfl rfl (Wt.plain rfl) (fun w hC => Ex.assign rfl) ?_
  refine WQ.nil ?_
  intro wn hC; replace hD := hD.trans hC; clear hC
  refine WN.next ?_
  refine WC.ret ?_
  refine WN.body1 rfl rfl ?_
  exact ⟨rfl, hD⟩

set_option maxHeartbeats 2000000 in
theorem igoOn (g h : Grid) (a : Option Addr) (cap ba bm q p f : Nat) (M : List Nat) (F : List Bool) (s : Nat × Nat) (c b : Nat) (w : World) (ihL : IHle q p f g a cap ba bm) (hg : Sl rStr w a g) (hga : Off [ba, bm] a g) (hne : ba ≠ bm) (hst : GoSt g a cap ba bm q h M b w) (hI : GoInv p (f + 1) g h M F s c b) : Fn Try.prog 49 [vptr ba 0, .agg #[vint s.1, vint s.2], vint c] w (fun v w1 => Keep [ba, bm] w w1 ∧ GoSt g a cap ba bm q h M (goM q (f + 1) h F s c b) w1) := by
  refine Fn.enter (n := 94) Try.func49 rfl rfl rfl ?_
  show WC _ _ _ _ [(0, vptr ba 0), (1, .agg #[vint s.1, vint s.2]), (2, vint c)] _
  obtain ⟨bn, capn, cur, es, ck, hba, hbm, hMvm, hbn, hbnh, hon⟩ := hst
  have hH := Hp.at2 hba hbm hne
  have hok := hI.en.ok hI.hH hI.hp
  have hc25 := hI.c25
  have hbI := bestI_spec hI.b100
  have hHn := hI.hH
  have hlF : s.1 < F.length := by rw [hI.len]; exact hok.cell
  have hcg : s.1 < nR g * nC g := by rw [← hI.n, ← hI.m]; exact hok.cell
  refine WC.seq ?_
  refine WC.region ?_
  refine WL.box rfl rfl rfl (Wt.plain rfl) hH (fun b4 wn hb4 hk4 hH => ?_)
  refine WL.next ?_
  refine WC.seq ?_
  refine WC.seq ?_
  refine WC.region ?_
  refine WL.u rfl rfl (Wt.plain rfl) (Ex.move rfl) ?_
  refine WL.u rfl rfl (Wt.plain rfl) (Ex.nilCheck rfl) ?_
  refine WL.u rfl rfl (Wt.plain rfl) (Ex.fieldAddr fd55_4 rfl) ?_
  replace hH := hH.f1
  refine WL.u rfl rfl (Wt.plain rfl) (Ex.loadHp flat3 rfl hH rfl) ?_
  refine WL.u rfl rfl (Wt.plain rfl) (Ex.geq rfl rfl) ?_
  refine WL.u rfl rfl (Wt.plain rfl) (Ex.move rfl) ?_
  refine WL.split (t := 14) rfl (fun hg1_5 => ?_) (fun hg1_5 => ?_)
  · have hg1_5' := hg1_5; try simp only [decide_eq_true_eq, decide_eq_false_iff_not, Bool.not_eq_true', Bool.not_eq_false', Bool.not_eq_true, Bool.not_eq_false] at hg1_5'
    refine WL.u rfl rfl (Wt.guard' rfl rfl rfl hg1_5 rfl) (Ex.move rfl) ?_
    refine WL.u rfl rfl (Wt.guard' rfl rfl rfl hg1_5 rfl) (Ex.move rfl) ?_
    refine WL.u rfl rfl (Wt.guard' rfl rfl rfl hg1_5 rfl) (Ex.nilCheck rfl) ?_
    refine WL.u rfl rfl (Wt.guard' rfl rfl rfl hg1_5 rfl) (Ex.fieldAddr fd55_4 rfl) ?_
    refine WL.u rfl rfl (Wt.guard' rfl rfl rfl hg1_5 rfl) (Ex.loadHp flat3 rfl hH rfl) ?_
    refine WL.u rfl rfl (Wt.guard' rfl rfl rfl hg1_5 rfl) (Ex.geq rfl rfl) ?_
    refine WL.u rfl rfl (Wt.plain rfl) (Ex.pickT rfl hg1_5 rfl) ?_
    refine WL.next ?_
    refine WC.cond rfl (fun hc1 => ?_) (fun hc1 => ?_)
    · have hc1' := hc1; try simp only [decide_eq_true_eq, decide_eq_false_iff_not, Bool.not_eq_true', Bool.not_eq_false', Bool.not_eq_true, Bool.not_eq_false] at hc1'
      refine WC.ret ?_
      refine WN.retThen ?_
      refine WN.body0 rfl ?_
      refine ⟨hH.keep, ?_⟩
      rw [goM_prune (show b ≤ c by omega)]
      exact ⟨bn, capn, cur, es, ck, (hH.at 0 rfl), (hH.at 2 rfl), hMvm, hbn, hH.keep.heap hbnh hbn, hon⟩
    have hc1' := hc1; try simp only [decide_eq_true_eq, decide_eq_false_iff_not, Bool.not_eq_true', Bool.not_eq_false', Bool.not_eq_true, Bool.not_eq_false] at hc1'
    refine WC.skip ?_
    refine WN.next ?_
    refine WC.seq ?_
    refine WC.seq ?_
    refine WC.quietK rfl (by kernel_rfl) ?_
    refine WQ.u rfl rfl (Wt.plain rfl) (fun w hC => Ex.move rfl) ?_
    refine WQ.u rfl rfl (Wt.plain rfl) (fun w hC => Ex.nilCheck rfl) ?_
    refine WQ.u rfl rfl (Wt.plain rfl) (fun w hC => Ex.fieldAddr fd55_2 rfl) ?_
    refine WQ.u rfl rfl (Wt.plain rfl) (fun w hC => Ex.loadHp flat53 rfl (hH.call hC) rfl) ?_
    refine WQ.u rfl rfl (Wt.plain rfl) (fun w hC => Ex.fieldAddr fd58_0 rfl) ?_
    replace hH := hH.f1
    refine WQ.u rfl rfl (Wt.plain rfl) (fun w hC => Ex.loadHp flat3 rfl (hH.call hC) rfl) ?_
    refine WQ.u rfl rfl (Wt.plain rfl) (fun w hC => Ex.lookupI mt53 ((hH.call hC).at 2 rfl) hMvm rfl rfl) ?_
    refine WQ.nil ?_
    intro wn hC; replace hH := hH.call hC; clear hC
    refine WN.next ?_
    refine WC.cond rfl (fun hc2 => ?_) (fun hc2 => ?_)
    · have hc2' := hc2; try simp only [decide_eq_true_eq, decide_eq_false_iff_not, Bool.not_eq_true', Bool.not_eq_false', Bool.not_eq_true, Bool.not_eq_false] at hc2'
      have hs : F.getD s.1 false = true := (hI.mem s.1 hok.cell).1 hc2'
      refine WC.seq ?_
      refine WC.region ?_
      refine WL.u rfl rfl (Wt.plain rfl) (Ex.move rfl) ?_
      refine WL.u rfl rfl (Wt.plain rfl) (Ex.loadHp2 Try.underlying58 ty58 rfl hH) ?_
      refine WL.u rfl rfl (Wt.plain rfl) (Ex.move rfl) ?_
      replace hH := hH.f2
      replace hH := hH.f2
      refine WL.call callable86 rfl (Wt.plain rfl) rfl rfl (ihL h M F s c b _ (hg.keepO hH.keep hga) hga hne ⟨bn, capn, cur, es, ck, hH.at 0 rfl, hH.at 1 rfl, hMvm, hbn, hH.keep.heap hbnh hbn, hon⟩ hI hs) ?_
      rintro _ wn ⟨hK, bn2, capn2, cur2, es2, ck2, hba2, hbm2, hM2, hbn2, hbnh2, hon2⟩; replace hH := hH.turn2 hK hba2 hbm2
      refine WL.next ?_
      refine WC.ret ?_
      refine WN.retThen ?_
      refine WN.body0 rfl ?_
      refine ⟨hH.keep, ?_⟩
      rw [goM_met hs]
      exact ⟨bn2, capn2, cur2, es2, ck2, hH.at 0 rfl, hH.at 1 rfl, hM2, hbn2, hbnh2, hon2⟩
    have hc2' := hc2; try simp only [decide_eq_true_eq, decide_eq_false_iff_not, Bool.not_eq_true', Bool.not_eq_false', Bool.not_eq_true, Bool.not_eq_false] at hc2'
    have hs : F.getD s.1 false = false := by
      cases e : F.getD s.1 false with
      | false => rfl
      | true => exact absurd ((hI.mem s.1 hok.cell).2 e) hc2'
    refine WC.skip ?_
    refine WN.next ?_
    refine WC.seq ?_
    refine WC.tail 6 rfl (by kernel_rfl) ?_
    replace hH := hH.drew
    refine WS.u rfl rfl (Wt.plain rfl) (Ex.move rfl) ?_
    refine WS.u rfl rfl (Wt.plain rfl) (Ex.nilCheck rfl) ?_
    refine WS.u rfl rfl (Wt.plain rfl) (Ex.fieldAddr fd55_2 rfl) ?_
    replace hH := hH.f1
    refine WS.u rfl rfl (Wt.plain rfl) (Ex.loadHp flat53 rfl hH rfl) ?_
    refine WS.u rfl rfl (Wt.plain rfl) (Ex.fieldAddr fd58_0 rfl) ?_
    replace hH := hH.f1
    refine WS.u rfl rfl (Wt.plain rfl) (Ex.loadHp flat3 rfl hH rfl) ?_
    refine WS.nil ?_
    replace hH := hH.f2
    refine WL.mapAddI mt53 hMvm (fun hm => by rw [(hI.mem s.1 hok.cell).1 hm] at hs; cases hs) rfl rfl rfl (Wt.plain rfl) hH (fun esvm ckvm wn hk hH hMvm => ?_)
    replace hbnh := hH.keep.heap hbnh hbn
    refine WL.next ?_
    refine WC.seq ?_
    refine WC.quietK rfl (by kernel_rfl) ?_
    refine WQ.u rfl rfl (Wt.plain rfl) (fun w hC => Ex.move rfl) ?_
    refine WQ.u rfl rfl (Wt.plain rfl) (fun w hC => Ex.nilCheck rfl) ?_
    refine WQ.u rfl rfl (Wt.plain rfl) (fun w hC => Ex.fieldAddr fd55_0 rfl) ?_
    replace hH := hH.f2
    refine WQ.u rfl rfl (Wt.plain rfl) (fun w hC => Ex.loadHp flat22 rfl (hH.call hC) rfl) ?_
    refine WQ.u rfl rfl (Wt.plain rfl) (fun w hC => Ex.fieldAddr fd58_0 rfl) ?_
    replace hH := hH.f2
    refine WQ.u rfl rfl (Wt.plain rfl) (fun w hC => Ex.loadHp flat3 rfl (hH.call hC) rfl) ?_
    refine WQ.call callable87 rfl (Wt.plain rfl) rfl rfl (fun w hC => Fn.rk hC (iletterAt g _ _ s.1 _ ((hg.keepO hH.keep hga).kept hC) hI.hG hcg)) ?_
    refine WQ.u rfl rfl (Wt.plain rfl) (fun w hC => Ex.assign rfl) ?_
    refine WQ.nil ?_
    intro wn hC; replace hH := hH.call hC; replace hbnh := hC.heap hbnh (by simp); clear hC
    have hlg := hI.un s.1 hok.cell hs
    refine WN.next ?_
    refine WC.seq ?_
    refine WC.seq ?_
    refine WC.region ?_
    refine WL.lit Try.underlying31 ty5 rfl rfl rfl rfl rfl rfl rfl (Wt.plain rfl) hH (fun b46 wn hb46 hk46 hH => ?_)
    have hlt46 := (Array.getElem?_eq_some_iff.1 hbnh).1
    replace hbnh := hk46.heap hbnh (by simp)
    refine WL.convSelf Try.underlying31 Try.underlying5 rfl rfl (Wt.plain rfl) hH (fun wn hk hH => ?_)
    replace hbnh := hk.heap hbnh (by intro hm; have := List.mem_singleton.1 hm; omega)
    have ho46 := Own.three
    refine WL.u rfl rfl (Wt.plain rfl) (Ex.lenSl Try.underlying31 rfl) ?_
    refine WL.u rfl rfl (Wt.plain rfl) (Ex.move rfl) ?_
    refine WL.next ?_
    refine WC.block ?_
    replace hH := hH.f1
    replace hH := hH.f3
    replace hH := hH.f3
    refine WC.loop (ι := Nat × Nat × Nat × (Array Value) × (Array MapEntry) × Nat) (fun (i, bn, capn, cur, es, ck) => [(0, vptr ba 0), (2, vint c), (4, vptr b4 0), (6, .int .u8 (letter g s.1).toNat), (47, vsl b46 3 3), (48, vint 3), (49, vint i)]) (fun (i, bn, capn, cur, es, ck) wn => Hp [ba, bm] w wn [(ba, aimO a g.length cap bn capn (GA h s i).length bm q (bestI (foldT q f h F s c (([46, 114, 102] : Str).take i) b))), (bm, .map es ck), (b4, .cells #[vint s.1, vint s.2] 58 (0, 0)), (b46, .cells #[.int .u8 46, .int .u8 114, .int .u8 102] 5 (3, 4))] ∧ MapI es (M ++ [s.1]) ∧ bn ∉ [ba, bm] ∧ wn.heap[bn]? = some (.cells cur 9 (0, 0)) ∧ Own rStr cur capn (GA h s i) ∧ i ≤ 3) (fun (i, bn, capn, cur, es, ck) => 3 - i) ((0, bn, capn, cur, esvm, ckvm)) (by exact ⟨rfl, rfl, rfl, rfl, rfl, rfl, rfl, trivial⟩) ?_ ?_
    · exact ⟨hH, hMvm, hbn, hbnh, hon, by omega⟩
    rintro ⟨i, bn, capn, cur, es, ck⟩ wn ⟨hH, hMvm, hbn, hbnh, hon, hi⟩
    intro mu0 hmu; try dsimp only at hmu
    show WC _ _ _ _ [(0, vptr ba 0), (2, vint c), (4, vptr b4 0), (6, .int .u8 (letter g s.1).toNat), (47, vsl b46 3 3), (48, vint 3), (49, vint i)] _
    refine WC.seq ?_
    refine WC.region ?_
    refine WL.u rfl rfl (Wt.plain rfl) (Ex.lss rfl rfl) ?_
    refine WL.next ?_
    refine WC.seq ?_
    refine WC.cond rfl (fun hc3 => ?_) (fun hc3 => ?_)
    · have hc3' := hc3; try simp only [decide_eq_true_eq, decide_eq_false_iff_not, Bool.not_eq_true', Bool.not_eq_false', Bool.not_eq_true, Bool.not_eq_false] at hc3'
      have hlt : i < 3 := by omega
      have hx := let3_ok i hlt
      have hGA := GA_ok hHn s i hi
      refine WC.skip ?_
      refine WN.next ?_
      refine WC.seq ?_
      refine WC.block ?_
      refine WC.seq ?_
      refine WC.region ?_
      refine WL.u rfl rfl (Wt.plain rfl) (Ex.indexAddr Try.underlying31 ty5 rfl rfl (by omega)) ?_
      replace hH := hH.f3
      refine WL.u rfl rfl (Wt.plain rfl) (Ex.loadHp flat5 rfl hH (ho46.get rfl (getD_get ([46, 114, 102] : Str) i 0 (by simp only [List.length_cons, List.length_nil]; omega)))) ?_
      refine WL.u rfl rfl (Wt.plain rfl) (Ex.assign rfl) ?_
      refine WL.next ?_
      refine WC.seq ?_
      have hbb : foldT q f h F s c (([46, 114, 102] : Str).take i) b ≤ 100 := Nat.le_trans (foldT_le _ _ _ _ _ _ _ _) hI.b100
      have hfs := foldT_snoc q f h F s c (([46, 114, 102] : Str).getD i 0) (([46, 114, 102] : Str).take i) b
      rw [← take_snoc (getD_get ([46, 114, 102] : Str) i 0 hlt)] at hfs
      have hc3 := cst_letter (([46, 114, 102] : Str).getD i 0) hlg
      have hQ := hH
      refine WC.plan (Keep [ba] _) [(0, true), (1, true), (2, true), (3, true), (5, true), (6, true), (7, true), (4, false), (8, false), (9, true), (10, true), (11, false)] rfl (by kernel_rfl) (Keep.drew _ _) (fun hR => ?_)
      replace hH := hH.drew
      refine WPl.q rfl rfl rfl (Wt.plain rfl) (fun w hC => Ex.move rfl) ?_
      refine WPl.q rfl rfl rfl (Wt.plain rfl) (fun w hC => Ex.move rfl) ?_
      refine WPl.q rfl rfl rfl (Wt.plain rfl) (fun w hC => Ex.nilCheck rfl) ?_
      refine WPl.q rfl rfl rfl (Wt.plain rfl) (fun w hC => Ex.fieldAddr fd55_1 rfl) ?_
      refine WPl.q rfl rfl rfl (Wt.plain rfl) (fun w hC => Ex.fieldAddr fd58_0 rfl) ?_
      refine WPl.q rfl rfl rfl (Wt.plain rfl) (fun w hC => Ex.loadK flat3 rfl (hQ.at 3 rfl) hC (hQ.nin 3 1 rfl rfl rfl) rfl) ?_
      refine WPl.q rfl rfl rfl (Wt.plain rfl) (fun w hC => Ex.move rfl) ?_
      refine WPl.f rfl ?_
      replace hH := hH.f1
      refine WL.u rfl rfl (Wt.plain rfl) (Ex.loadHp flat22 rfl hH rfl) ?_
      refine WPl.b hR ?_
      refine WPl.f rfl ?_
      refine WL.call callable88 rfl (Wt.plain rfl) rfl rfl (iput (GA h s i) _ _ s.1 (([46, 114, 102] : Str).getD i 0) _ (hon.sl0 (hR.heap hbnh (fun hm => hbn (by rw [List.mem_singleton.1 hm]; simp)))) hGA) ?_
      rintro _ wn ⟨hC, hN⟩; obtain ⟨b61, cap61, cur61, rfl, hge61, hbb61, ho61⟩ := hN.own; replace hR := hR.trans hC.nil; replace hH := hH.push hC hge61 hbb61; clear hC hN
      refine WPl.b hR ?_
      refine WPl.q rfl rfl rfl (Wt.plain rfl) (fun w hC => Ex.nilCheck rfl) ?_
      refine WPl.q rfl rfl rfl (Wt.plain rfl) (fun w hC => Ex.fieldAddr fd55_1 rfl) ?_
      refine WPl.f rfl ?_
      replace hH := hH.f1
      refine WL.store1 ty22 rfl rfl rfl (Wt.plain rfl) hH (by first | decide | simp) rfl (fun wn hk hH => ?_)
      replace hR := hR.trans (hk.mono (by simp))
      rw [GA_put hHn hok.cell hx i hi] at ho61 hH
      have hn61 := hH.nin2 1 0 3 rfl rfl rfl rfl rfl
      have hb61f := (hH.at 1 rfl)
      refine WPl.b hR ?_
      refine WPl.nil (fun hC => ?_); clear hC
      refine WN.next ?_
      refine WC.seq ?_
      refine WC.region ?_
      refine WL.u rfl rfl (Wt.plain rfl) (Ex.move rfl) ?_
      refine WL.u rfl rfl (Wt.plain rfl) (Ex.move rfl) ?_
      refine WL.u rfl rfl (Wt.plain rfl) (Ex.eql rfl rfl) ?_
      refine WL.next ?_
      refine WC.cond rfl (fun hc4 => ?_) (fun hc4 => ?_)
      · have hc4' := hc4; try simp only [decide_eq_true_eq, decide_eq_false_iff_not, Bool.not_eq_true', Bool.not_eq_false', Bool.not_eq_true, Bool.not_eq_false] at hc4'
        have hcst := hc3.1 (UInt8.toNat_inj.1 (by omega))
        have hinv := hI.put hs hx hbb
        rw [hcst, Nat.add_zero] at hinv
        have hfold : foldT q f h F s c (([46, 114, 102] : Str).take (i + 1)) b = leaveW (goM q f) q (putG h s.1 (([46, 114, 102] : Str).getD i 0)) (F.set s.1 true) s c (foldT q f h F s c (([46, 114, 102] : Str).take i) b) := by rw [hfs]; unfold tryW; rw [hcst, Nat.add_zero]
        refine WC.region ?_
        refine WL.u rfl rfl (Wt.plain rfl) (Ex.move rfl) ?_
        replace hH := hH.f4
        refine WL.u rfl rfl (Wt.plain rfl) (Ex.loadHp2 Try.underlying58 ty58 rfl hH) ?_
        refine WL.u rfl rfl (Wt.plain rfl) (Ex.move rfl) ?_
        replace hH := hH.f4
        replace hH := hH.f2
        refine WL.call callable86 rfl (Wt.plain rfl) rfl rfl (ihL (putG h s.1 (([46, 114, 102] : Str).getD i 0)) (M ++ [s.1]) (F.set s.1 true) s c _ _ (hg.keepO hH.keep hga) hga hne ⟨b61, cap61, cur61, es, ck, hH.at 0 rfl, hH.at 1 rfl, hMvm, hn61, hb61f, ho61⟩ hinv (getD_set_self F hlF)) ?_
        rintro _ wn ⟨hK, bn2, capn2, cur2, es2, ck2, hba2, hbm2, hM2, hbn2, hbnh2, hon2⟩; replace hH := hH.turn2 hK hba2 hbm2
        refine WL.last ?_
        refine WN.normalBlock ?_
        refine WN.next ?_
        refine WC.region ?_
        refine WL.u rfl rfl (Wt.plain rfl) (Ex.add rfl rfl (by omega)) ?_
        refine WL.u rfl rfl (Wt.plain rfl) (Ex.move rfl) ?_
        refine WL.last ?_
        replace hH := hH.f4
        replace hH := hH.f3
        replace hH := hH.f3
        replace hH := hH.f3
        replace hH := hH.first4
        refine WN.round (i + 1, bn2, capn2, cur2, es2, ck2) (by exact ⟨rfl, rfl, rfl, rfl, rfl, rfl, rfl, trivial⟩) ?_ ?_
        · exact ⟨by rw [hfold]; exact hH, hM2, hbn2, hbnh2, hon2, by omega⟩
        · (try dsimp only); omega
      have hc4' := hc4; try simp only [decide_eq_true_eq, decide_eq_false_iff_not, Bool.not_eq_true', Bool.not_eq_false', Bool.not_eq_true, Bool.not_eq_false] at hc4'
      have hcst := hc3.2 (fun e => by rw [e] at hc4; simp at hc4)
      have hinv := hI.put hs hx hbb
      rw [hcst] at hinv
      have hfold : foldT q f h F s c (([46, 114, 102] : Str).take (i + 1)) b = leaveW (goM q f) q (putG h s.1 (([46, 114, 102] : Str).getD i 0)) (F.set s.1 true) s (c + 1) (foldT q f h F s c (([46, 114, 102] : Str).take i) b) := by rw [hfs]; unfold tryW; rw [hcst]
      refine WC.region ?_
      refine WL.u rfl rfl (Wt.plain rfl) (Ex.move rfl) ?_
      replace hH := hH.f4
      refine WL.u rfl rfl (Wt.plain rfl) (Ex.loadHp2 Try.underlying58 ty58 rfl hH) ?_
      refine WL.u rfl rfl (Wt.plain rfl) (Ex.move rfl) ?_
      refine WL.u rfl rfl (Wt.plain rfl) (Ex.add rfl rfl (by omega)) ?_
      replace hH := hH.f4
      replace hH := hH.f2
      refine WL.call callable86 rfl (Wt.plain rfl) rfl rfl (ihL (putG h s.1 (([46, 114, 102] : Str).getD i 0)) (M ++ [s.1]) (F.set s.1 true) s (c + 1) _ _ (hg.keepO hH.keep hga) hga hne ⟨b61, cap61, cur61, es, ck, hH.at 0 rfl, hH.at 1 rfl, hMvm, hn61, hb61f, ho61⟩ hinv (getD_set_self F hlF)) ?_
      rintro _ wn ⟨hK, bn2, capn2, cur2, es2, ck2, hba2, hbm2, hM2, hbn2, hbnh2, hon2⟩; replace hH := hH.turn2 hK hba2 hbm2
      refine WL.last ?_
      refine WN.normalBlock ?_
      refine WN.next ?_
      refine WC.region ?_
      refine WL.u rfl rfl (Wt.plain rfl) (Ex.add rfl rfl (by omega)) ?_
      refine WL.u rfl rfl (Wt.plain rfl) (Ex.move rfl) ?_
      refine WL.last ?_
      replace hH := hH.f4
      replace hH := hH.f3
      replace hH := hH.f3
      replace hH := hH.f3
      replace hH := hH.first4
      refine WN.round (i + 1, bn2, capn2, cur2, es2, ck2) (by exact ⟨rfl, rfl, rfl, rfl, rfl, rfl, rfl, trivial⟩) ?_ ?_
      · exact ⟨by rw [hfold]; exact hH, hM2, hbn2, hbnh2, hon2, by omega⟩
      · (try dsimp only); omega
    have hc3' := hc3; try simp only [decide_eq_true_eq, decide_eq_false_iff_not, Bool.not_eq_true', Bool.not_eq_false', Bool.not_eq_true, Bool.not_eq_false] at hc3'
    obtain rfl : i = 3 := by omega
    have hGA := GA_ok hHn s 3 hi
    have hbk : putG (GA h s 3) s.1 (letter g s.1) = h := putG_back hHn (by decide) hok.cell hlg.symm
    refine WC.exit ?_
    refine WN.exitThen ?_
    refine WN.exitThen ?_
    refine WN.exitHere ?_
    refine WN.next ?_
    refine WC.seq ?_
    have hQ := hH
    refine WC.plan (Keep [ba] _) [(0, true), (1, true), (2, true), (3, true), (5, true), (6, true), (7, true), (4, false), (8, false), (9, true), (10, true), (11, false)] rfl (by kernel_rfl) (Keep.drew _ _) (fun hR => ?_)
    replace hH := hH.drew
    refine WPl.q rfl rfl rfl (Wt.plain rfl) (fun w hC => Ex.move rfl) ?_
    refine WPl.q rfl rfl rfl (Wt.plain rfl) (fun w hC => Ex.move rfl) ?_
    refine WPl.q rfl rfl rfl (Wt.plain rfl) (fun w hC => Ex.nilCheck rfl) ?_
    refine WPl.q rfl rfl rfl (Wt.plain rfl) (fun w hC => Ex.fieldAddr fd55_1 rfl) ?_
    refine WPl.q rfl rfl rfl (Wt.plain rfl) (fun w hC => Ex.fieldAddr fd58_0 rfl) ?_
    refine WPl.q rfl rfl rfl (Wt.plain rfl) (fun w hC => Ex.loadK flat3 rfl (hQ.at 2 rfl) hC (hQ.nin 2 0 rfl rfl rfl) rfl) ?_
    refine WPl.q rfl rfl rfl (Wt.plain rfl) (fun w hC => Ex.move rfl) ?_
    refine WPl.f rfl ?_
    refine WL.u rfl rfl (Wt.plain rfl) (Ex.loadHp flat22 rfl hH rfl) ?_
    refine WPl.b hR ?_
    refine WPl.f rfl ?_
    refine WL.call callable88 rfl (Wt.plain rfl) rfl rfl (iput (GA h s 3) _ _ s.1 (letter g s.1) _ (hon.sl0 (hR.heap hbnh (fun hm => hbn (by rw [List.mem_singleton.1 hm]; simp)))) hGA) ?_
    rintro _ wn ⟨hC, hN⟩; obtain ⟨b85, cap85, cur85, rfl, hge85, hbb85, ho85⟩ := hN.own; replace hR := hR.trans hC.nil; replace hH := hH.push hC hge85 hbb85; clear hC hN
    refine WPl.b hR ?_
    refine WPl.q rfl rfl rfl (Wt.plain rfl) (fun w hC => Ex.nilCheck rfl) ?_
    refine WPl.q rfl rfl rfl (Wt.plain rfl) (fun w hC => Ex.fieldAddr fd55_1 rfl) ?_
    refine WPl.f rfl ?_
    replace hH := hH.f1
    refine WL.store1 ty22 rfl rfl rfl (Wt.plain rfl) hH (by first | decide | simp) rfl (fun wn hk hH => ?_)
    replace hR := hR.trans (hk.mono (by simp))
    rw [hbk] at ho85 hH
    refine WPl.b hR ?_
    refine WPl.nil (fun hC => ?_); clear hC
    refine WN.next ?_
    refine WC.tail 6 rfl (by kernel_rfl) ?_
    replace hH := hH.drew
    refine WS.u rfl rfl (Wt.plain rfl) (Ex.move rfl) ?_
    refine WS.u rfl rfl (Wt.plain rfl) (Ex.nilCheck rfl) ?_
    refine WS.u rfl rfl (Wt.plain rfl) (Ex.fieldAddr fd55_2 rfl) ?_
    refine WS.u rfl rfl (Wt.plain rfl) (Ex.loadHp flat53 rfl hH rfl) ?_
    refine WS.u rfl rfl (Wt.plain rfl) (Ex.fieldAddr fd58_0 rfl) ?_
    replace hH := hH.f3
    refine WS.u rfl rfl (Wt.plain rfl) (Ex.loadHp flat3 rfl hH rfl) ?_
    refine WS.nil ?_
    replace hH := hH.f3
    refine WL.mapDelI mt53 rfl hMvm (fun hm => by rw [(hI.mem s.1 hok.cell).1 hm] at hs; cases hs) rfl rfl (Wt.plain rfl) hH (fun esvm ckvm wn hk hH hMvm => ?_)
    refine WL.last ?_
    refine WN.body0n rfl ?_
    refine ⟨hH.keep, ?_⟩
    have e1 : goM q (f + 1) h F s c b = foldT q f h F s c [46, 114, 102] b := by rw [goM_fold hHn hok.cell, lets, if_neg (by rw [hs]; decide)]
    rw [e1]
    exact ⟨b85, cap85, cur85, esvm, ckvm, (hH.at 2 rfl), (hH.at 0 rfl), hMvm, hH.nin2 3 2 0 rfl rfl rfl rfl rfl, (hH.at 3 rfl), ho85⟩
  have hg1_5' := hg1_5; try simp only [decide_eq_true_eq, decide_eq_false_iff_not, Bool.not_eq_true', Bool.not_eq_false', Bool.not_eq_true, Bool.not_eq_false] at hg1_5'
  refine WL.pass rfl rfl (Wt.guard' rfl rfl rfl hg1_5 rfl) ?_
  refine WL.pass rfl rfl (Wt.guard' rfl rfl rfl hg1_5 rfl) ?_
  refine WL.pass rfl rfl (Wt.guard' rfl rfl rfl hg1_5 rfl) ?_
  refine WL.pass rfl rfl (Wt.guard' rfl rfl rfl hg1_5 rfl) ?_
  refine WL.pass rfl rfl (Wt.guard' rfl rfl rfl hg1_5 rfl) ?_
  refine WL.pass rfl rfl (Wt.guard' rfl rfl rfl hg1_5 rfl) ?_
  refine WL.u rfl rfl (Wt.plain rfl) (Ex.pickF rfl hg1_5 rfl) ?_
  refine WL.next ?_
  refine WC.condF rfl rfl ?_
  refine WC.skip ?_
  refine WN.next ?_
  refine WC.seq ?_
  refine WC.seq ?_
  refine WC.quietK rfl (by kernel_rfl) ?_
  refine WQ.u rfl rfl (Wt.plain rfl) (fun w hC => Ex.move rfl) ?_
  refine WQ.u rfl rfl (Wt.plain rfl) (fun w hC => Ex.nilCheck rfl) ?_
  refine WQ.u rfl rfl (Wt.plain rfl) (fun w hC => Ex.fieldAddr fd55_2 rfl) ?_
  refine WQ.u rfl rfl (Wt.plain rfl) (fun w hC => Ex.loadHp flat53 rfl (hH.call hC) rfl) ?_
  refine WQ.u rfl rfl (Wt.plain rfl) (fun w hC => Ex.fieldAddr fd58_0 rfl) ?_
  replace hH := hH.f1
  refine WQ.u rfl rfl (Wt.plain rfl) (fun w hC => Ex.loadHp flat3 rfl (hH.call hC) rfl) ?_
  refine WQ.u rfl rfl (Wt.plain rfl) (fun w hC => Ex.lookupI mt53 ((hH.call hC).at 2 rfl) hMvm rfl rfl) ?_
  refine WQ.nil ?_
  intro wn hC; replace hH := hH.call hC; clear hC
  refine WN.next ?_
  refine WC.cond rfl (fun hc2 => ?_) (fun hc2 => ?_)
  · have hc2' := hc2; try simp only [decide_eq_true_eq, decide_eq_false_iff_not, Bool.not_eq_true', Bool.not_eq_false', Bool.not_eq_true, Bool.not_eq_false] at hc2'
    have hs : F.getD s.1 false = true := (hI.mem s.1 hok.cell).1 hc2'
    refine WC.seq ?_
    refine WC.region ?_
    refine WL.u rfl rfl (Wt.plain rfl) (Ex.move rfl) ?_
    refine WL.u rfl rfl (Wt.plain rfl) (Ex.loadHp2 Try.underlying58 ty58 rfl hH) ?_
    refine WL.u rfl rfl (Wt.plain rfl) (Ex.move rfl) ?_
    replace hH := hH.f2
    replace hH := hH.f2
    refine WL.call callable86 rfl (Wt.plain rfl) rfl rfl (ihL h M F s c b _ (hg.keepO hH.keep hga) hga hne ⟨bn, capn, cur, es, ck, hH.at 0 rfl, hH.at 1 rfl, hMvm, hbn, hH.keep.heap hbnh hbn, hon⟩ hI hs) ?_
    rintro _ wn ⟨hK, bn2, capn2, cur2, es2, ck2, hba2, hbm2, hM2, hbn2, hbnh2, hon2⟩; replace hH := hH.turn2 hK hba2 hbm2
    refine WL.next ?_
    refine WC.ret ?_
    refine WN.retThen ?_
    refine WN.body0 rfl ?_
    refine ⟨hH.keep, ?_⟩
    rw [goM_met hs]
    exact ⟨bn2, capn2, cur2, es2, ck2, hH.at 0 rfl, hH.at 1 rfl, hM2, hbn2, hbnh2, hon2⟩
  have hc2' := hc2; try simp only [decide_eq_true_eq, decide_eq_false_iff_not, Bool.not_eq_true', Bool.not_eq_false', Bool.not_eq_true, Bool.not_eq_false] at hc2'
  have hs : F.getD s.1 false = false := by
    cases e : F.getD s.1 false with
    | false => rfl
    | true => exact absurd ((hI.mem s.1 hok.cell).2 e) hc2'
  refine WC.skip ?_
  refine WN.next ?_
  refine WC.seq ?_
  refine WC.tail 6 rfl (by kernel_rfl) ?_
  replace hH := hH.drew
  refine WS.u rfl rfl (Wt.plain rfl) (Ex.move rfl) ?_
  refine WS.u rfl rfl (Wt.plain rfl) (Ex.nilCheck rfl) ?_
  refine WS.u rfl rfl (Wt.plain rfl) (Ex.fieldAddr fd55_2 rfl) ?_
  replace hH := hH.f1
  refine WS.u rfl rfl (Wt.plain rfl) (Ex.loadHp flat53 rfl hH rfl) ?_
  refine WS.u rfl rfl (Wt.plain rfl) (Ex.fieldAddr fd58_0 rfl) ?_
  replace hH := hH.f1
  refine WS.u rfl rfl (Wt.plain rfl) (Ex.loadHp flat3 rfl hH rfl) ?_
  refine WS.nil ?_
  replace hH := hH.f2
  refine WL.mapAddI mt53 hMvm (fun hm => by rw [(hI.mem s.1 hok.cell).1 hm] at hs; cases hs) rfl rfl rfl (Wt.plain rfl) hH (fun esvm ckvm wn hk hH hMvm => ?_)
  replace hbnh := hH.keep.heap hbnh hbn
  refine WL.next ?_
  refine WC.seq ?_
  refine WC.quietK rfl (by kernel_rfl) ?_
  refine WQ.u rfl rfl (Wt.plain rfl) (fun w hC => Ex.move rfl) ?_
  refine WQ.u rfl rfl (Wt.plain rfl) (fun w hC => Ex.nilCheck rfl) ?_
  refine WQ.u rfl rfl (Wt.plain rfl) (fun w hC => Ex.fieldAddr fd55_0 rfl) ?_
  replace hH := hH.f2
  refine WQ.u rfl rfl (Wt.plain rfl) (fun w hC => Ex.loadHp flat22 rfl (hH.call hC) rfl) ?_
  refine WQ.u rfl rfl (Wt.plain rfl) (fun w hC => Ex.fieldAddr fd58_0 rfl) ?_
  replace hH := hH.f2
  refine WQ.u rfl rfl (Wt.plain rfl) (fun w hC => Ex.loadHp flat3 rfl (hH.call hC) rfl) ?_
  refine WQ.call callable87 rfl (Wt.plain rfl) rfl rfl (fun w hC => Fn.rk hC (iletterAt g _ _ s.1 _ ((hg.keepO hH.keep hga).kept hC) hI.hG hcg)) ?_
  refine WQ.u rfl rfl (Wt.plain rfl) (fun w hC => Ex.assign rfl) ?_
  refine WQ.nil ?_
  intro wn hC; replace hH := hH.call hC; replace hbnh := hC.heap hbnh (by simp); clear hC
  have hlg := hI.un s.1 hok.cell hs
  refine WN.next ?_
  refine WC.seq ?_
  refine WC.seq ?_
  refine WC.region ?_
  refine WL.lit Try.underlying31 ty5 rfl rfl rfl rfl rfl rfl rfl (Wt.plain rfl) hH (fun b46 wn hb46 hk46 hH => ?_)
  have hlt46 := (Array.getElem?_eq_some_iff.1 hbnh).1
  replace hbnh := hk46.heap hbnh (by simp)
  refine WL.convSelf Try.underlying31 Try.underlying5 rfl rfl (Wt.plain rfl) hH (fun wn hk hH => ?_)
  replace hbnh := hk.heap hbnh (by intro hm; have := List.mem_singleton.1 hm; omega)
  have ho46 := Own.three
  refine WL.u rfl rfl (Wt.plain rfl) (Ex.lenSl Try.underlying31 rfl) ?_
  refine WL.u rfl rfl (Wt.plain rfl) (Ex.move rfl) ?_
  refine WL.next ?_
  refine WC.block ?_
  replace hH := hH.f1
  replace hH := hH.f3
  replace hH := hH.f3
  refine WC.loop (ι := Nat × Nat × Nat × (Array Value) × (Array MapEntry) × Nat) (fun (i, bn, capn, cur, es, ck) => [(0, vptr ba 0), (2, vint c), (4, vptr b4 0), (6, .int .u8 (letter g s.1).toNat), (47, vsl b46 3 3), (48, vint 3), (49, vint i)]) (fun (i, bn, capn, cur, es, ck) wn => Hp [ba, bm] w wn [(ba, aimO a g.length cap bn capn (GA h s i).length bm q (bestI (foldT q f h F s c (([46, 114, 102] : Str).take i) b))), (bm, .map es ck), (b4, .cells #[vint s.1, vint s.2] 58 (0, 0)), (b46, .cells #[.int .u8 46, .int .u8 114, .int .u8 102] 5 (3, 4))] ∧ MapI es (M ++ [s.1]) ∧ bn ∉ [ba, bm] ∧ wn.heap[bn]? = some (.cells cur 9 (0, 0)) ∧ Own rStr cur capn (GA h s i) ∧ i ≤ 3) (fun (i, bn, capn, cur, es, ck) => 3 - i) ((0, bn, capn, cur, esvm, ckvm)) (by exact ⟨rfl, rfl, rfl, rfl, rfl, rfl, rfl, trivial⟩) ?_ ?_
  · exact ⟨hH, hMvm, hbn, hbnh, hon, by omega⟩
  rintro ⟨i, bn, capn, cur, es, ck⟩ wn ⟨hH, hMvm, hbn, hbnh, hon, hi⟩
  intro mu0 hmu; try dsimp only at hmu
  show WC _ _ _ _ [(0, vptr ba 0), (2, vint c), (4, vptr b4 0), (6, .int .u8 (letter g s.1).toNat), (47, vsl b46 3 3), (48, vint 3), (49, vint i)] _
  refine WC.seq ?_
  refine WC.region ?_
  refine WL.u rfl rfl (Wt.plain rfl) (Ex.lss rfl rfl) ?_
  refine WL.next ?_
  refine WC.seq ?_
  refine WC.cond rfl (fun hc3 => ?_) (fun hc3 => ?_)
  · have hc3' := hc3; try simp only [decide_eq_true_eq, decide_eq_false_iff_not, Bool.not_eq_true', Bool.not_eq_false', Bool.not_eq_true, Bool.not_eq_false] at hc3'
    have hlt : i < 3 := by omega
    have hx := let3_ok i hlt
    have hGA := GA_ok hHn s i hi
    refine WC.skip ?_
    refine WN.next ?_
    refine WC.seq ?_
    refine WC.block ?_
    refine WC.seq ?_
    refine WC.region ?_
    refine WL.u rfl rfl (Wt.plain rfl) (Ex.indexAddr Try.underlying31 ty5 rfl rfl (by omega)) ?_
    replace hH := hH.f3
    refine WL.u rfl rfl (Wt.plain rfl) (Ex.loadHp flat5 rfl hH (ho46.get rfl (getD_get ([46, 114, 102] : Str) i 0 (by simp only [List.length_cons, List.length_nil]; omega)))) ?_
    refine WL.u rfl rfl (Wt.plain rfl) (Ex.assign rfl) ?_
    refine WL.next ?_
    refine WC.seq ?_
    have hbb : foldT q f h F s c (([46, 114, 102] : Str).take i) b ≤ 100 := Nat.le_trans (foldT_le _ _ _ _ _ _ _ _) hI.b100
    have hfs := foldT_snoc q f h F s c (([46, 114, 102] : Str).getD i 0) (([46, 114, 102] : Str).take i) b
    rw [← take_snoc (getD_get ([46, 114, 102] : Str) i 0 hlt)] at hfs
    have hc3 := cst_letter (([46, 114, 102] : Str).getD i 0) hlg
    have hQ := hH
    refine WC.plan (Keep [ba] _) [(0, true), (1, true), (2, true), (3, true), (5, true), (6, true), (7, true), (4, false), (8, false), (9, true), (10, true), (11, false)] rfl (by kernel_rfl) (Keep.drew _ _) (fun hR => ?_)
    replace hH := hH.drew
    refine WPl.q rfl rfl rfl (Wt.plain rfl) (fun w hC => Ex.move rfl) ?_
    refine WPl.q rfl rfl rfl (Wt.plain rfl) (fun w hC => Ex.move rfl) ?_
    refine WPl.q rfl rfl rfl (Wt.plain rfl) (fun w hC => Ex.nilCheck rfl) ?_
    refine WPl.q rfl rfl rfl (Wt.plain rfl) (fun w hC => Ex.fieldAddr fd55_1 rfl) ?_
    refine WPl.q rfl rfl rfl (Wt.plain rfl) (fun w hC => Ex.fieldAddr fd58_0 rfl) ?_
    refine WPl.q rfl rfl rfl (Wt.plain rfl) (fun w hC => Ex.loadK flat3 rfl (hQ.at 3 rfl) hC (hQ.nin 3 1 rfl rfl rfl) rfl) ?_
    refine WPl.q rfl rfl rfl (Wt.plain rfl) (fun w hC => Ex.move rfl) ?_
    refine WPl.f rfl ?_
    replace hH := hH.f1
    refine WL.u rfl rfl (Wt.plain rfl) (Ex.loadHp flat22 rfl hH rfl) ?_
    refine WPl.b hR ?_
    refine WPl.f rfl ?_
    refine WL.call callable88 rfl (Wt.plain rfl) rfl rfl (iput (GA h s i) _ _ s.1 (([46, 114, 102] : Str).getD i 0) _ (hon.sl0 (hR.heap hbnh (fun hm => hbn (by rw [List.mem_singleton.1 hm]; simp)))) hGA) ?_
    rintro _ wn ⟨hC, hN⟩; obtain ⟨b61, cap61, cur61, rfl, hge61, hbb61, ho61⟩ := hN.own; replace hR := hR.trans hC.nil; replace hH := hH.push hC hge61 hbb61; clear hC hN
    refine WPl.b hR ?_
    refine WPl.q rfl rfl rfl (Wt.plain rfl) (fun w hC => Ex.nilCheck rfl) ?_
    refine WPl.q rfl rfl rfl (Wt.plain rfl) (fun w hC => Ex.fieldAddr fd55_1 rfl) ?_
    refine WPl.f rfl ?_
    replace hH := hH.f1
    refine WL.store1 ty22 rfl rfl rfl (Wt.plain rfl) hH (by first | decide | simp) rfl (fun wn hk hH => ?_)
    replace hR := hR.trans (hk.mono (by simp))
    rw [GA_put hHn hok.cell hx i hi] at ho61 hH
    have hn61 := hH.nin2 1 0 3 rfl rfl rfl rfl rfl
    have hb61f := (hH.at 1 rfl)
    refine WPl.b hR ?_
    refine WPl.nil (fun hC => ?_); clear hC
    refine WN.next ?_
    refine WC.seq ?_
    refine WC.region ?_
    refine WL.u rfl rfl (Wt.plain rfl) (Ex.move rfl) ?_
    refine WL.u rfl rfl (Wt.plain rfl) (Ex.move rfl) ?_
    refine WL.u rfl rfl (Wt.plain rfl) (Ex.eql rfl rfl) ?_
    refine WL.next ?_
    refine WC.cond rfl (fun hc4 => ?_) (fun hc4 => ?_)
    · have hc4' := hc4; try simp only [decide_eq_true_eq, decide_eq_false_iff_not, Bool.not_eq_true', Bool.not_eq_false', Bool.not_eq_true, Bool.not_eq_false] at hc4'
      have hcst := hc3.1 (UInt8.toNat_inj.1 (by omega))
      have hinv := hI.put hs hx hbb
      rw [hcst, Nat.add_zero] at hinv
      have hfold : foldT q f h F s c (([46, 114, 102] : Str).take (i + 1)) b = leaveW (goM q f) q (putG h s.1 (([46, 114, 102] : Str).getD i 0)) (F.set s.1 true) s c (foldT q f h F s c (([46, 114, 102] : Str).take i) b) := by rw [hfs]; unfold tryW; rw [hcst, Nat.add_zero]
      refine WC.region ?_
      refine WL.u rfl rfl (Wt.plain rfl) (Ex.move rfl) ?_
      replace hH := hH.f4
      refine WL.u rfl rfl (Wt.plain rfl) (Ex.loadHp2 Try.underlying58 ty58 rfl hH) ?_
      refine WL.u rfl rfl (Wt.plain rfl) (Ex.move rfl) ?_
      replace hH := hH.f4
      replace hH := hH.f2
      refine WL.call callable86 rfl (Wt.plain rfl) rfl rfl (ihL (putG h s.1 (([46, 114, 102] : Str).getD i 0)) (M ++ [s.1]) (F.set s.1 true) s c _ _ (hg.keepO hH.keep hga) hga hne ⟨b61, cap61, cur61, es, ck, hH.at 0 rfl, hH.at 1 rfl, hMvm, hn61, hb61f, ho61⟩ hinv (getD_set_self F hlF)) ?_
      rintro _ wn ⟨hK, bn2, capn2, cur2, es2, ck2, hba2, hbm2, hM2, hbn2, hbnh2, hon2⟩; replace hH := hH.turn2 hK hba2 hbm2
      refine WL.last ?_
      refine WN.normalBlock ?_
      refine WN.next ?_
      refine WC.region ?_
      refine WL.u rfl rfl (Wt.plain rfl) (Ex.add rfl rfl (by omega)) ?_
      refine WL.u rfl rfl (Wt.plain rfl) (Ex.move rfl) ?_
      refine WL.last ?_
      replace hH := hH.f4
      replace hH := hH.f3
      replace hH := hH.f3
      replace hH := hH.f3
      replace hH := hH.first4
      refine WN.round (i + 1, bn2, capn2, cur2, es2, ck2) (by exact ⟨rfl, rfl, rfl, rfl, rfl, rfl, rfl, trivial⟩) ?_ ?_
      · exact ⟨by rw [hfold]; exact hH, hM2, hbn2, hbnh2, hon2, by omega⟩
      · (try dsimp only); omega
    have hc4' := hc4; try simp only [decide_eq_true_eq, decide_eq_false_iff_not, Bool.not_eq_true', Bool.not_eq_false', Bool.not_eq_true, Bool.not_eq_false] at hc4'
    have hcst := hc3.2 (fun e => by rw [e] at hc4; simp at hc4)
    have hinv := hI.put hs hx hbb
    rw [hcst] at hinv
    have hfold : foldT q f h F s c (([46, 114, 102] : Str).take (i + 1)) b = leaveW (goM q f) q (putG h s.1 (([46, 114, 102] : Str).getD i 0)) (F.set s.1 true) s (c + 1) (foldT q f h F s c (([46, 114, 102] : Str).take i) b) := by rw [hfs]; unfold tryW; rw [hcst]
    refine WC.region ?_
    refine WL.u rfl rfl (Wt.plain rfl) (Ex.move rfl) ?_
    replace hH := hH.f4
    refine WL.u rfl rfl (Wt.plain rfl) (Ex.loadHp2 Try.underlying58 ty58 rfl hH) ?_
    refine WL.u rfl rfl (Wt.plain rfl) (Ex.move rfl) ?_
    refine WL.u rfl rfl (Wt.plain rfl) (Ex.add rfl rfl (by omega)) ?_
    replace hH := hH.f4
    replace hH := hH.f2
    refine WL.call callable86 rfl (Wt.plain rfl) rfl rfl (ihL (putG h s.1 (([46, 114, 102] : Str).getD i 0)) (M ++ [s.1]) (F.set s.1 true) s (c + 1) _ _ (hg.keepO hH.keep hga) hga hne ⟨b61, cap61, cur61, es, ck, hH.at 0 rfl, hH.at 1 rfl, hMvm, hn61, hb61f, ho61⟩ hinv (getD_set_self F hlF)) ?_
    rintro _ wn ⟨hK, bn2, capn2, cur2, es2, ck2, hba2, hbm2, hM2, hbn2, hbnh2, hon2⟩; replace hH := hH.turn2 hK hba2 hbm2
    refine WL.last ?_
    refine WN.normalBlock ?_
    refine WN.next ?_
    refine WC.region ?_
    refine WL.u rfl rfl (Wt.plain rfl) (Ex.add rfl rfl (by omega)) ?_
    refine WL.u rfl rfl (Wt.plain rfl) (Ex.move rfl) ?_
    refine WL.last ?_
    replace hH := hH.f4
    replace hH := hH.f3
    replace hH := hH.f3
    replace hH := hH.f3
    replace hH := hH.first4
    refine WN.round (i + 1, bn2, capn2, cur2, es2, ck2) (by exact ⟨rfl, rfl, rfl, rfl, rfl, rfl, rfl, trivial⟩) ?_ ?_
    · exact ⟨by rw [hfold]; exact hH, hM2, hbn2, hbnh2, hon2, by omega⟩
    · (try dsimp only); omega
  have hc3' := hc3; try simp only [decide_eq_true_eq, decide_eq_false_iff_not, Bool.not_eq_true', Bool.not_eq_false', Bool.not_eq_true, Bool.not_eq_false] at hc3'
  obtain rfl : i = 3 := by omega
  have hGA := GA_ok hHn s 3 hi
  have hbk : putG (GA h s 3) s.1 (letter g s.1) = h := putG_back hHn (by decide) hok.cell hlg.symm
  refine WC.exit ?_
  refine WN.exitThen ?_
  refine WN.exitThen ?_
  refine WN.exitHere ?_
  refine WN.next ?_
  refine WC.seq ?_
  have hQ := hH
  refine WC.plan (Keep [ba] _) [(0, true), (1, true), (2, true), (3, true), (5, true), (6, true), (7, true), (4, false), (8, false), (9, true), (10, true), (11, false)] rfl (by kernel_rfl) (Keep.drew _ _) (fun hR => ?_)
  replace hH := hH.drew
  refine WPl.q rfl rfl rfl (Wt.plain rfl) (fun w hC => Ex.move rfl) ?_
  refine WPl.q rfl rfl rfl (Wt.plain rfl) (fun w hC => Ex.move rfl) ?_
  refine WPl.q rfl rfl rfl (Wt.plain rfl) (fun w hC => Ex.nilCheck rfl) ?_
  refine WPl.q rfl rfl rfl (Wt.plain rfl) (fun w hC => Ex.fieldAddr fd55_1 rfl) ?_
  refine WPl.q rfl rfl rfl (Wt.plain rfl) (fun w hC => Ex.fieldAddr fd58_0 rfl) ?_
  refine WPl.q rfl rfl rfl (Wt.plain rfl) (fun w hC => Ex.loadK flat3 rfl (hQ.at 2 rfl) hC (hQ.nin 2 0 rfl rfl rfl) rfl) ?_
  refine WPl.q rfl rfl rfl (Wt.plain rfl) (fun w hC => Ex.move rfl) ?_
  refine WPl.f rfl ?_
  refine WL.u rfl rfl (Wt.plain rfl) (Ex.loadHp flat22 rfl hH rfl) ?_
  refine WPl.b hR ?_
  refine WPl.f rfl ?_
  refine WL.call callable88 rfl (Wt.plain rfl) rfl rfl (iput (GA h s 3) _ _ s.1 (letter g s.1) _ (hon.sl0 (hR.heap hbnh (fun hm => hbn (by rw [List.mem_singleton.1 hm]; simp)))) hGA) ?_
  rintro _ wn ⟨hC, hN⟩; obtain ⟨b85, cap85, cur85, rfl, hge85, hbb85, ho85⟩ := hN.own; replace hR := hR.trans hC.nil; replace hH := hH.push hC hge85 hbb85; clear hC hN
  refine WPl.b hR ?_
  refine WPl.q rfl rfl rfl (Wt.plain rfl) (fun w hC => Ex.nilCheck rfl) ?_
  refine WPl.q rfl rfl rfl (Wt.plain rfl) (fun w hC => Ex.fieldAddr fd55_1 rfl) ?_
  refine WPl.f rfl ?_
  replace hH := hH.f1
  refine WL.store1 ty22 rfl rfl rfl (Wt.plain rfl) hH (by first | decide | simp) rfl (fun wn hk hH => ?_)
  replace hR := hR.trans (hk.mono (by simp))
  rw [hbk] at ho85 hH
  refine WPl.b hR ?_
  refine WPl.nil (fun hC => ?_); clear hC
  refine WN.next ?_
  refine WC.tail 6 rfl (by kernel_rfl) ?_
  replace hH := hH.drew
  refine WS.u rfl rfl (Wt.plain rfl) (Ex.move rfl) ?_
  refine WS.u rfl rfl (Wt.plain rfl) (Ex.nilCheck rfl) ?_
  refine WS.u rfl rfl (Wt.plain rfl) (Ex.fieldAddr fd55_2 rfl) ?_
  refine WS.u rfl rfl (Wt.plain rfl) (Ex.loadHp flat53 rfl hH rfl) ?_
  refine WS.u rfl rfl (Wt.plain rfl) (Ex.fieldAddr fd58_0 rfl) ?_
  replace hH := hH.f3
  refine WS.u rfl rfl (Wt.plain rfl) (Ex.loadHp flat3 rfl hH rfl) ?_
  refine WS.nil ?_
  replace hH := hH.f3
  refine WL.mapDelI mt53 rfl hMvm (fun hm => by rw [(hI.mem s.1 hok.cell).1 hm] at hs; cases hs) rfl rfl (Wt.plain rfl) hH (fun esvm ckvm wn hk hH hMvm => ?_)
  refine WL.last ?_
  refine WN.body0n rfl ?_
  refine ⟨hH.keep, ?_⟩
  have e1 : goM q (f + 1) h F s c b = foldT q f h F s c [46, 114, 102] b := by rw [goM_fold hHn hok.cell, lets, if_neg (by rw [hs]; decide)]
  rw [e1]
  exact ⟨b85, cap85, cur85, esvm, ckvm, (hH.at 2 rfl), (hH.at 0 rfl), hMvm, hH.nin2 3 2 0 rfl rfl rfl rfl rfl, (hH.at 3 rfl), ho85⟩

end Go.Proofs.Ytjejdebmlgjdeaa
