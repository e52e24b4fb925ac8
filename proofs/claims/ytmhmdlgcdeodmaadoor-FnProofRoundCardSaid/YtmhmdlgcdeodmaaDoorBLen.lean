/- The way and the length of a beam. -/
import Derived.Test.YtmhmdlgcdeodmaaDoorPBIs
namespace Go.Proofs.YtmhmdlgcdeodmaaDoor
set_option maxRecDepth 100000
set_option linter.unusedSimpArgs false
set_option linter.unusedVariables false
open Go Go.RowKit

def beamWay (g : Grid) (port : Int) : List Nat := if portIn g port = true then (way g port.toNat).1.map (·.1) else []
theorem step_getD (l : List (Nat × Nat)) (i : Nat) (h : i < l.length) : l[i]? = some (l.getD i (0, 0)) := getD_get l i (0, 0) h

theorem icellsOf (l : List (Nat × Nat)) (a : Option Addr) (cap : Nat) (w : World) (hl : Sl rStep w a l) (hlen : l.length ≤ 1000) : Fn Tryd.prog 82 [.slice a l.length cap] w (fun v w1 => Keep [] w w1 ∧ New rNat 3 w w1 v (l.map (·.1))) := by
  refine Fn.enter (n := 20) Tryd.func82 rfl rfl rfl ?_
  show WC _ _ _ _ [(0, .slice a l.length cap)] _
  have hH := Hp.start [] w
  refine WC.seq ?_
  refine WC.region ?_
  refine WL.u rfl rfl (Wt.plain rfl) (Ex.assign rfl) ?_
  refine WL.next ?_
  refine WC.seq ?_
  refine WC.region ?_
  refine WL.lit0 Tryd.underlying34 ty3 rfl (Wt.plain rfl) hH (fun b6 wn hb6 hk6 hH => ?_)
  have ho6 := Own.nil rNat
  refine WL.u rfl rfl (Wt.plain rfl) (Ex.assign rfl) ?_
  refine WL.next ?_
  refine WC.seq ?_
  refine WC.seq ?_
  refine WC.region ?_
  refine WL.u rfl rfl (Wt.plain rfl) (Ex.move rfl) ?_
  refine WL.u rfl rfl (Wt.plain rfl) (Ex.lenSl Tryd.underlying61 rfl) ?_
  refine WL.u rfl rfl (Wt.plain rfl) (Ex.move rfl) ?_
  refine WL.next ?_
  refine WC.block ?_
  refine WC.loop (ι := Nat × Nat × Nat × (Array Value) × (List Nat)) (fun (i, b6, cap6, cur6, m) => [(3, vsl b6 m.length cap6), (7, .slice a l.length cap), (8, vint l.length), (9, vint i)]) (fun (i, b6, cap6, cur6, m) wn => Hp [] w wn [(b6, .cells cur6 3 (0, 0))] ∧ Own rNat cur6 cap6 m ∧ m = (l.take i).map (·.1) ∧ i ≤ l.length) (fun (i, b6, cap6, cur6, m) => l.length - i) ((0, b6, 0, #[], [])) (by exact ⟨rfl, rfl, rfl, rfl, trivial⟩) ?_ ?_
  · exact ⟨hH, ho6, rfl, by omega⟩
  rintro ⟨i, b6, cap6, cur6, m⟩ wn ⟨hH, ho6, hm, hi⟩
  intro mu0 hmu; try dsimp only at hmu
  show WC _ _ _ _ [(3, vsl b6 m.length cap6), (7, .slice a l.length cap), (8, vint l.length), (9, vint i)] _
  refine WC.seq ?_
  refine WC.region ?_
  refine WL.u rfl rfl (Wt.plain rfl) (Ex.lss rfl rfl) ?_
  refine WL.next ?_
  refine WC.seq ?_
  refine WC.cond rfl (fun hc1 => ?_) (fun hc1 => ?_)
  · have hc1' := hc1; try simp only [decide_eq_true_eq, decide_eq_false_iff_not, Bool.not_eq_true', Bool.not_eq_false', Bool.not_eq_true, Bool.not_eq_false] at hc1'
    have hlt : i < l.length := by omega
    obtain ⟨b, off, rfl⟩ := hl.addr (by omega)
    have hget := getD_get l i (0, 0) hlt
    have hml : m.length = i := by rw [hm, List.length_map, List.length_take]; omega
    refine WC.skip ?_
    refine WN.next ?_
    refine WC.seq ?_
    refine WC.block ?_
    refine WC.seq ?_
    refine WC.region ?_
    refine WL.u rfl rfl (Wt.plain rfl) (Ex.indexAddr Tryd.underlying61 ty48 rfl rfl (by omega)) ?_
    refine WL.u rfl rfl (Wt.plain rfl) (Ex.loadSlS Tryd.underlying48 ty48 (hl.kept hH.keep) rfl (hget) rfl) ?_
    refine WL.alloc ty48 rfl rfl (Wt.plain rfl) hH (fun b5 wn hb5 hk5 hH => ?_)
    refine WL.store2 ty48 rfl rfl rfl rfl (Wt.plain rfl) hH (fun wn hk hH => ?_)
    refine WL.next ?_
    refine WC.region ?_
    refine WL.u rfl rfl (Wt.plain rfl) (Ex.move rfl) ?_
    refine WL.u rfl rfl (Wt.plain rfl) (Ex.fieldAddr fd48_0 rfl) ?_
    refine WL.u rfl rfl (Wt.plain rfl) (Ex.loadHp flat3 rfl hH rfl) ?_
    replace hH := hH.f1
    refine WL.append1 (r := rNat) (u := (l.getD i (0, 0)).1) Tryd.underlying34 ty3 rfl rfl (fun _ => rfl) (fun _ => rfl) rfl rfl (Wt.plain rfl) (fun _ => (Wt.plain rfl)) hH ho6 rfl (by omega) (by omega) (fun b6 cap6 cur6 wn x6 hb6 hk6 hH ho6 => ?_)
    refine WL.u rfl rfl (Wt.plain rfl) (Ex.assign rfl) ?_
    refine WL.last ?_
    refine WN.normalBlock ?_
    refine WN.next ?_
    refine WC.region ?_
    refine WL.u rfl rfl (Wt.plain rfl) (Ex.add rfl rfl (by omega)) ?_
    refine WL.u rfl rfl (Wt.plain rfl) (Ex.move rfl) ?_
    refine WL.last ?_
    replace hH := hH.first1
    refine WN.round (i + 1, b6, cap6, cur6, m ++ [(l.getD i (0, 0)).1]) (by exact ⟨rfl, rfl, rfl, rfl, trivial⟩) ?_ ?_
    · exact ⟨hH, ho6, by rw [take_snoc hget, List.map_append, hm]; rfl, by omega⟩
    · (try dsimp only); omega
  have hc1' := hc1; try simp only [decide_eq_true_eq, decide_eq_false_iff_not, Bool.not_eq_true', Bool.not_eq_false', Bool.not_eq_true, Bool.not_eq_false] at hc1'
  refine WC.exit ?_
  refine WN.exitThen ?_
  refine WN.exitThen ?_
  refine WN.exitHere ?_
  refine WN.next ?_
  refine WC.seq ?_
  refine WC.region ?_
  refine WL.u rfl rfl (Wt.plain rfl) (Ex.move rfl) ?_
  refine WL.u rfl rfl (Wt.plain rfl) (Ex.assign rfl) ?_
  refine WL.next ?_
  refine WC.ret ?_
  refine WN.body1 rfl rfl ?_
  have hieq : i = l.length := by omega
  rw [hieq, List.take_length] at hm
  exact ⟨hH.keep, by rw [← hm]; exact New.of hH ho6 (hH.base 0 rfl)⟩

theorem iBeamWay (g : Grid) (a : Option Addr) (cap : Nat) (port : Int) (w : World) (hg : Sl rStr w a g) (hs : Short g) : Fn Tryd.prog 67 [.slice a g.length cap, vint port] w (fun v w1 => ∃ x, v = .tuple #[x, .bool (portIn g port)] ∧ Keep [] w w1 ∧ New rNat 3 w w1 x (beamWay g port)) := by
  refine Fn.enter (n := 21) Tryd.func67 rfl rfl rfl ?_
  show WC _ _ _ _ [(0, .slice a g.length cap), (1, vint port)] _
  have hH := Hp.start [] w
  refine WC.seq ?_
  refine WC.region ?_
  refine WL.u rfl rfl (Wt.plain rfl) (Ex.assign rfl) ?_
  refine WL.u rfl rfl (Wt.plain rfl) (Ex.assign rfl) ?_
  refine WL.next ?_
  refine WC.seq ?_
  refine WC.seq ?_
  refine WC.region ?_
  refine WL.u rfl rfl (Wt.plain rfl) (Ex.move rfl) ?_
  refine WL.u rfl rfl (Wt.plain rfl) (Ex.move rfl) ?_
  refine WL.call callable81 rfl (Wt.plain rfl) rfl rfl (iportOk _ _ _ _ _ (hg.kept hH.keep) hs) ?_
  rintro _ _ ⟨rfl, hw⟩; obtain rfl := hw.symm
  refine WL.u rfl rfl (Wt.plain rfl) (Ex.not rfl) ?_
  refine WL.next ?_
  refine WC.cond rfl (fun hc1 => ?_) (fun hc1 => ?_)
  · have hc1' := hc1; try simp only [decide_eq_true_eq, decide_eq_false_iff_not, Bool.not_eq_true', Bool.not_eq_false', Bool.not_eq_true, Bool.not_eq_false] at hc1'
    have hpi : portIn g port = false := by simpa using hc1
    refine WC.seq ?_
    refine WC.region ?_
    refine WL.lit0 Tryd.underlying34 ty3 rfl (Wt.plain rfl) hH (fun b12 wn hb12 hk12 hH => ?_)
    have ho12 := Own.nil rNat
    refine WL.u rfl rfl (Wt.plain rfl) (Ex.assign rfl) ?_
    refine WL.u rfl rfl (Wt.plain rfl) (Ex.assign rfl) ?_
    refine WL.next ?_
    refine WC.ret ?_
    refine WN.retThen ?_
    refine WN.body2 rfl rfl rfl ?_
    exact ⟨_, by rw [hpi], hH.keep, by rw [beamWay, hpi]; exact New.of hH ho12 (hH.base 0 rfl)⟩
  have hc1' := hc1; try simp only [decide_eq_true_eq, decide_eq_false_iff_not, Bool.not_eq_true', Bool.not_eq_false', Bool.not_eq_true, Bool.not_eq_false] at hc1'
  have hpi : portIn g port = true := by simpa using hc1
  have hpi2 := portIn_ex hpi
  obtain ⟨hG, p, rfl, hp⟩ := hpi2
  have hwl := way_len g p
  have hc25 := cells_le hG
  refine WC.skip ?_
  refine WN.next ?_
  refine WC.seq ?_
  refine WC.region ?_
  refine WL.u rfl rfl (Wt.plain rfl) (Ex.move rfl) ?_
  refine WL.u rfl rfl (Wt.plain rfl) (Ex.move rfl) ?_
  refine WL.call callable66 rfl (Wt.plain rfl) rfl rfl (ibeam _ _ _ _ _ (hg.kept hH.keep) hG hp) ?_
  rintro _ wn ⟨x, rfl, hC, hN1⟩; obtain ⟨b1, cap1, cur1, rfl, hge1, hb1, ho1⟩ := hN1.own; replace hH := hH.push hC hge1 hb1
  refine WL.u rfl rfl (Wt.plain rfl) (Ex.move rfl) ?_
  refine WL.u rfl rfl (Wt.plain rfl) (Ex.extract rfl rfl) ?_
  refine WL.u rfl rfl (Wt.plain rfl) (Ex.extract rfl rfl) ?_
  refine WL.u rfl rfl (Wt.plain rfl) (Ex.assign rfl) ?_
  refine WL.u rfl rfl (Wt.plain rfl) (Ex.assign rfl) ?_
  refine WL.next ?_
  refine WC.seq ?_
  refine WC.region ?_
  refine WL.u rfl rfl (Wt.plain rfl) (Ex.move rfl) ?_
  refine WL.call callable82 rfl (Wt.plain rfl) rfl rfl (icellsOf _ _ _ _ (ho1.slAt hH 0 rfl) (by omega)) ?_
  rintro _ wn ⟨hC, hN2⟩; obtain ⟨b2, cap2, cur2, rfl, hge2, hb2, ho2⟩ := hN2.own; replace hH := hH.push hC hge2 hb2
  refine WL.u rfl rfl (Wt.plain rfl) (Ex.assign rfl) ?_
  refine WL.u rfl rfl (Wt.plain rfl) (Ex.assign rfl) ?_
  refine WL.next ?_
  refine WC.ret ?_
  refine WN.body2 rfl rfl rfl ?_
  have e : beamWay g (p : Int) = (way g p).1.map (·.1) := if_pos hpi
  exact ⟨_, by rw [hpi], hH.keep, by rw [e]; exact New.of hH ho2 (hH.base 0 rfl)⟩

theorem iBeamLength (g : Grid) (a : Option Addr) (cap : Nat) (port : Int) (w : World) (hg : Sl rStr w a g) (hs : Short g) : Fn Tryd.prog 40 [.slice a g.length cap, vint port] w (fun v w1 => v = .tuple #[vint (beamWay g port).length, .bool (portIn g port)] ∧ Keep [] w w1) := by
  refine Fn.enter (n := 17) Tryd.func40 rfl rfl rfl ?_
  show WC _ _ _ _ [(0, .slice a g.length cap), (1, vint port)] _
  have hH := Hp.start [] w
  refine WC.seq ?_
  refine WC.region ?_
  refine WL.u rfl rfl (Wt.plain rfl) (Ex.assign rfl) ?_
  refine WL.u rfl rfl (Wt.plain rfl) (Ex.assign rfl) ?_
  refine WL.next ?_
  refine WC.seq ?_
  refine WC.region ?_
  refine WL.u rfl rfl (Wt.plain rfl) (Ex.move rfl) ?_
  refine WL.u rfl rfl (Wt.plain rfl) (Ex.move rfl) ?_
  refine WL.call callable67 rfl (Wt.plain rfl) rfl rfl (iBeamWay _ _ _ _ _ (hg.kept hH.keep) hs) ?_
  rintro _ wn ⟨x, rfl, hC, hN⟩; obtain ⟨b11, cap11, cur11, rfl, hge11, hbb11, ho11⟩ := hN.own; replace hH := hH.push hC hge11 hbb11; clear hC hN
  refine WL.u rfl rfl (Wt.plain rfl) (Ex.move rfl) ?_
  refine WL.u rfl rfl (Wt.plain rfl) (Ex.extract rfl rfl) ?_
  refine WL.u rfl rfl (Wt.plain rfl) (Ex.extract rfl rfl) ?_
  refine WL.u rfl rfl (Wt.plain rfl) (Ex.assign rfl) ?_
  refine WL.u rfl rfl (Wt.plain rfl) (Ex.assign rfl) ?_
  refine WL.next ?_
  refine WC.seq ?_
  refine WC.region ?_
  refine WL.u rfl rfl (Wt.plain rfl) (Ex.move rfl) ?_
  refine WL.u rfl rfl (Wt.plain rfl) (Ex.lenSl Tryd.underlying34 rfl) ?_
  refine WL.u rfl rfl (Wt.plain rfl) (Ex.move rfl) ?_
  refine WL.u rfl rfl (Wt.plain rfl) (Ex.assign rfl) ?_
  refine WL.u rfl rfl (Wt.plain rfl) (Ex.assign rfl) ?_
  refine WL.next ?_
  refine WC.ret ?_
  refine WN.body2 rfl rfl rfl ?_
  exact ⟨rfl, hH.keep⟩

end Go.Proofs.YtmhmdlgcdeodmaaDoor
