/- Partners of a set of ports; grids fit their own answers. -/
import Derived.Test.YtmlefpddjfonlaaAsk3
import Derived.Test.YtmlefpddjfonlaaTexts
namespace Go.Proofs.Ytmlefpddjfonlaa
set_option maxRecDepth 100000
set_option linter.unusedSimpArgs false
set_option linter.unusedVariables false
open Go Go.RowKit
def setA (g : Grid) (s p : Nat) : Int := if s / 2 ^ p % 2 = 0 then -1 else ((way g p).2 : Int)
def setL (g : Grid) (s k : Nat) : List Int := (List.range k).map (setA g s)
theorem setL_len (g : Grid) (s k : Nat) : (setL g s k).length = k := by simp [setL]
theorem setL_get (g : Grid) (s : Nat) {k p : Nat} (h : p < k) : (setL g s k).getD p 0 = setA g s p := by simp [setL, List.getD_eq_getElem?_getD, h]
theorem setL_succ (g : Grid) (s k : Nat) : setL g s (k + 1) = setL g s k ++ [setA g s k] := range_snoc _ _
def askOf (g : Grid) (set : Int) : List Int × Bool := if gridIn g = true ∧ nR g * nC g ≤ 4 ∧ 0 ≤ set ∧ set ≤ ((2 ^ ports g : Nat) : Int) - 1 then (setL g set.toNat (ports g), true) else ([], false)
theorem askOf_at {g : Grid} {s : Nat} (hG : GridOk g) (h4 : nR g * nC g ≤ 4) (hs : s < 2 ^ ports g) : askOf g s = (setL g s (ports g), true) := by rw [askOf, if_pos ⟨gridIn_true hG, h4, by omega, by omega⟩]; rfl
theorem askOf_not {g : Grid} {set : Int} (h : ¬ (gridIn g = true ∧ nR g * nC g ≤ 4 ∧ 0 ≤ set ∧ set ≤ ((2 ^ ports g : Nat) : Int) - 1)) : askOf g set = ([], false) := by rw [askOf, if_neg h]
theorem pow20 {k : Nat} (h : k ≤ 20) : 2 ^ k ≤ 1048576 := Nat.pow_le_pow_right (by decide) h
theorem askOf_len (g : Grid) (set : Int) : (askOf g set).1.length ≤ 1000 := by
  unfold askOf
  split
  · next h =>
    have := ports_le ((gridOk_iff g).1 h.1)
    show (setL g _ _).length ≤ 1000
    rw [setL_len]; omega
  · simp
theorem setL_ok {g : Grid} (hG : GridOk g) (h4 : nR g * nC g ≤ 4) (s : Nat) : AnsOk (nR g) (nC g) (setL g s (ports g)) := by
  refine ⟨hG.n1, hG.n5, hG.m1, hG.m5, h4, setL_len _ _ _, fun j hj => ?_⟩
  rw [setL_len] at *
  rw [setL_get g s hj]
  have := way_end hG.sz hj
  unfold setA
  split
  · omega
  · omega
theorem setL_fit {g : Grid} (hG : GridOk g) (s : Nat) : fitB g (setL g s (ports g)) = true := by
  rw [fitB_iff]
  intro p hp
  refine (keepB_iff _ _ _).2 ?_
  rw [setL_get g s hp]
  unfold setA
  split
  · exact .inl rfl
  · exact .inr rfl
theorem setL_one {g : Grid} (hG : GridOk g) (s : Nat) : 1 ≤ (fits (nR g) (nC g) (setL g s (ports g))).length := by
  obtain ⟨k, h1, h2⟩ := numG_surj hG
  have : g ∈ fits (nR g) (nC g) (setL g s (ports g)) := fitL_mem.2 ⟨k, h1, h2.symm, setL_fit hG s⟩
  exact List.length_pos_of_mem this
theorem setL_zero {g : Grid} (hG : GridOk g) : (fits (nR g) (nC g) (setL g 0 (ports g))).length = 3 ^ (nR g * nC g) := by
  refine fitL_all (fun i => ?_) _
  rw [fitB_iff]
  intro p hp
  have hP : ports (numG (nR g) (nC g) i) = ports g := numG_ports _ _ hG.n1
  refine (keepB_iff _ _ _).2 (.inl ?_)
  rw [setL_get g 0 (by rw [← hP]; exact hp)]
  unfold setA
  rw [Nat.zero_div, if_pos rfl]
theorem askOf_ex {g : Grid} {s : Nat} {out : List Int} (h : askOf g s = (out, true)) : GridOk g ∧ nR g * nC g ≤ 4 ∧ out = setL g s (ports g) := by
  by_cases hc : gridIn g = true ∧ nR g * nC g ≤ 4 ∧ (0 : Int) ≤ s ∧ (s : Int) ≤ ((2 ^ ports g : Nat) : Int) - 1
  · have hG := (gridOk_iff g).1 hc.1
    rw [askOf_at hG hc.2.1 (by have := hc.2.2.2; omega)] at h
    cases h
    exact ⟨hG, hc.2.1, rfl⟩
  · rw [askOf_not hc] at h; cases h

theorem iAskOf (g : Grid) (a : Option Addr) (cap : Nat) (set : Int) (w : World) (hg : Sl rStr w a g) (hs : Short g) : Fn Try.prog 20 [.slice a g.length cap, vint set] w (fun v w1 => ∃ x, v = .tuple #[x, .bool (askOf g set).2] ∧ Keep [] w w1 ∧ New rInt 3 w w1 x (askOf g set).1) := by
  refine Fn.enter (n := 43) Try.func20 rfl rfl rfl ?_
  show WC _ _ _ _ [(0, .slice a g.length cap), (1, vint set)] _
  have hH := Hp.start [] w
  refine WC.seq ?_
  refine WC.region ?_
  refine WL.u rfl rfl (Wt.plain rfl) (Ex.assign rfl) ?_
  refine WL.u rfl rfl (Wt.plain rfl) (Ex.assign rfl) ?_
  refine WL.next ?_
  refine WC.seq ?_
  refine WC.seq ?_
  refine WC.region ?_
  refine WL.u rfl rfl (Wt.plain rfl) (Ex.move rfl) ?_
  refine WL.call callable56 rfl (Wt.plain rfl) rfl rfl (iGridIn _ _ _ _ (hg.kept hH.keep) hs) ?_
  rintro _ _ ⟨rfl, hw⟩; obtain rfl := hw.symm
  refine WL.u rfl rfl (Wt.plain rfl) (Ex.not rfl) ?_
  refine WL.u rfl rfl (Wt.plain rfl) (Ex.move rfl) ?_
  refine WL.split (t := 11) rfl (fun hg1_3 => ?_) (fun hg1_3 => ?_)
  · have hg1_3' := hg1_3; try simp only [decide_eq_true_eq, decide_eq_false_iff_not, Bool.not_eq_true', Bool.not_eq_false', Bool.not_eq_true, Bool.not_eq_false] at hg1_3'
    refine WL.pass rfl rfl (Wt.guard' rfl rfl rfl hg1_3 rfl) ?_
    refine WL.pass rfl rfl (Wt.guard' rfl rfl rfl hg1_3 rfl) ?_
    refine WL.pass rfl rfl (Wt.guard' rfl rfl rfl hg1_3 rfl) ?_
    refine WL.u rfl rfl (Wt.plain rfl) (Ex.pickT rfl hg1_3 rfl) ?_
    refine WL.u rfl rfl (Wt.plain rfl) (Ex.move rfl) ?_
    refine WL.pass rfl rfl (Wt.guard' rfl rfl rfl rfl rfl) ?_
    refine WL.pass rfl rfl (Wt.guard' rfl rfl rfl rfl rfl) ?_
    refine WL.pass rfl rfl (Wt.guard' rfl rfl rfl rfl rfl) ?_
    refine WL.pass rfl rfl (Wt.guard' rfl rfl rfl rfl rfl) ?_
    refine WL.pass rfl rfl (Wt.guard' rfl rfl rfl rfl rfl) ?_
    refine WL.pass rfl rfl (Wt.guard' rfl rfl rfl rfl rfl) ?_
    refine WL.pass rfl rfl (Wt.guard' rfl rfl rfl rfl rfl) ?_
    refine WL.u rfl rfl (Wt.plain rfl) (Ex.pickT rfl rfl rfl) ?_
    refine WL.next ?_
    refine WC.condT rfl rfl ?_
    refine WC.seq ?_
    refine WC.region ?_
    refine WL.lit0 Try.underlying24 ty3 rfl (Wt.plain rfl) hH (fun b25 wn hb25 hk25 hH => ?_)
    have ho25 := Own.nil rInt
    refine WL.u rfl rfl (Wt.plain rfl) (Ex.assign rfl) ?_
    refine WL.u rfl rfl (Wt.plain rfl) (Ex.assign rfl) ?_
    refine WL.next ?_
    refine WC.ret ?_
    refine WN.retThen ?_
    refine WN.body2 rfl rfl rfl ?_
    have e := askOf_not (g := g) (set := set) (fun h => by rw [h.1] at hg1_3; cases hg1_3)
    exact ⟨_, by rw [e], hH.keep, by rw [e]; exact New.of (hH.front 0 rfl) ho25 (hH.base 0 rfl)⟩
  have hg1_3' := hg1_3; try simp only [decide_eq_true_eq, decide_eq_false_iff_not, Bool.not_eq_true', Bool.not_eq_false', Bool.not_eq_true, Bool.not_eq_false] at hg1_3'
  have hgi : gridIn g = true := by simpa using hg1_3
  have hG := (gridOk_iff g).1 hgi
  have hpl := ports_le hG
  obtain ⟨P2, hP2⟩ : ∃ q, 2 ^ ports g = q := ⟨_, rfl⟩
  have hpw : P2 ≤ 1048576 := by rw [← hP2]; exact pow20 hpl
  have hP0 : 0 < P2 := by rw [← hP2]; exact Nat.pow_pos (by decide)
  refine WL.u rfl rfl (Wt.guard' rfl rfl rfl hg1_3 rfl) (Ex.move rfl) ?_
  refine WL.call callable57 rfl (Wt.guard' rfl rfl rfl hg1_3 rfl) rfl rfl (icells _ _ _ _ (hg.kept hH.keep) hG) ?_
  rintro _ _ ⟨rfl, hw⟩; obtain rfl := hw.symm
  refine WL.u rfl rfl (Wt.guard' rfl rfl rfl hg1_3 rfl) (Ex.gtr rfl rfl) ?_
  refine WL.u rfl rfl (Wt.plain rfl) (Ex.pickF rfl hg1_3 rfl) ?_
  refine WL.u rfl rfl (Wt.plain rfl) (Ex.move rfl) ?_
  refine WL.split (t := 16) rfl (fun hg1_8 => ?_) (fun hg1_8 => ?_)
  · have hg1_8' := hg1_8; try simp only [decide_eq_true_eq, decide_eq_false_iff_not, Bool.not_eq_true', Bool.not_eq_false', Bool.not_eq_true, Bool.not_eq_false] at hg1_8'
    refine WL.pass rfl rfl (Wt.guard' rfl rfl rfl hg1_8 rfl) ?_
    refine WL.pass rfl rfl (Wt.guard' rfl rfl rfl hg1_8 rfl) ?_
    refine WL.pass rfl rfl (Wt.guard' rfl rfl rfl hg1_8 rfl) ?_
    refine WL.pass rfl rfl (Wt.guard' rfl rfl rfl hg1_8 rfl) ?_
    refine WL.pass rfl rfl (Wt.guard' rfl rfl rfl hg1_8 rfl) ?_
    refine WL.pass rfl rfl (Wt.guard' rfl rfl rfl hg1_8 rfl) ?_
    refine WL.pass rfl rfl (Wt.guard' rfl rfl rfl hg1_8 rfl) ?_
    refine WL.u rfl rfl (Wt.plain rfl) (Ex.pickT rfl hg1_8 rfl) ?_
    refine WL.next ?_
    refine WC.condT rfl rfl ?_
    refine WC.seq ?_
    refine WC.region ?_
    refine WL.lit0 Try.underlying24 ty3 rfl (Wt.plain rfl) hH (fun b25 wn hb25 hk25 hH => ?_)
    have ho25 := Own.nil rInt
    refine WL.u rfl rfl (Wt.plain rfl) (Ex.assign rfl) ?_
    refine WL.u rfl rfl (Wt.plain rfl) (Ex.assign rfl) ?_
    refine WL.next ?_
    refine WC.ret ?_
    refine WN.retThen ?_
    refine WN.body2 rfl rfl rfl ?_
    have e := askOf_not (g := g) (set := set) (fun h => by have := h.2.1; omega)
    exact ⟨_, by rw [e], hH.keep, by rw [e]; exact New.of (hH.front 0 rfl) ho25 (hH.base 0 rfl)⟩
  have hg1_8' := hg1_8; try simp only [decide_eq_true_eq, decide_eq_false_iff_not, Bool.not_eq_true', Bool.not_eq_false', Bool.not_eq_true, Bool.not_eq_false] at hg1_8'
  refine WL.u rfl rfl (Wt.guard' rfl rfl rfl hg1_8 rfl) (Ex.move rfl) ?_
  refine WL.u rfl rfl (Wt.guard' rfl rfl rfl hg1_8 rfl) (Ex.move rfl) ?_
  refine WL.call callable59 rfl (Wt.guard' rfl rfl rfl hg1_8 rfl) rfl rfl (iportMany _ _ _ _ (hg.kept hH.keep) hG) ?_
  rintro _ _ ⟨rfl, hw⟩; obtain rfl := hw.symm
  refine WL.u rfl rfl (Wt.guard' rfl rfl rfl hg1_8 rfl) ((Ex.shl1 rfl (by omega)).to (congrArg (fun x : Nat => vint x) hP2)) ?_
  refine WL.u rfl rfl (Wt.guard' rfl rfl rfl hg1_8 rfl) (Ex.sub rfl rfl (by omega)) ?_
  refine WL.call callable58 rfl (Wt.guard' rfl rfl rfl hg1_8 rfl) rfl rfl (iwithin set 0 ((P2 : Int) - 1) _) ?_
  rintro _ _ ⟨rfl, hw⟩; obtain rfl := hw.symm
  refine WL.u rfl rfl (Wt.guard' rfl rfl rfl hg1_8 rfl) (Ex.not rfl) ?_
  refine WL.u rfl rfl (Wt.plain rfl) (Ex.pickF rfl hg1_8 rfl) ?_
  refine WL.next ?_
  refine WC.cond rfl (fun hc1 => ?_) (fun hc1 => ?_)
  · have hc1' := hc1; try simp only [decide_eq_true_eq, decide_eq_false_iff_not, Bool.not_eq_true', Bool.not_eq_false', Bool.not_eq_true, Bool.not_eq_false] at hc1'
    refine WC.seq ?_
    refine WC.region ?_
    refine WL.lit0 Try.underlying24 ty3 rfl (Wt.plain rfl) hH (fun b25 wn hb25 hk25 hH => ?_)
    have ho25 := Own.nil rInt
    refine WL.u rfl rfl (Wt.plain rfl) (Ex.assign rfl) ?_
    refine WL.u rfl rfl (Wt.plain rfl) (Ex.assign rfl) ?_
    refine WL.next ?_
    refine WC.ret ?_
    refine WN.retThen ?_
    refine WN.body2 rfl rfl rfl ?_
    have e := askOf_not (g := g) (set := set) (fun h => by have := h.2.2; rw [hP2] at this; omega)
    exact ⟨_, by rw [e], hH.keep, by rw [e]; exact New.of (hH.front 0 rfl) ho25 (hH.base 0 rfl)⟩
  have hc1' := hc1; try simp only [decide_eq_true_eq, decide_eq_false_iff_not, Bool.not_eq_true', Bool.not_eq_false', Bool.not_eq_true, Bool.not_eq_false] at hc1'
  obtain ⟨s, rfl⟩ := Int.eq_ofNat_of_zero_le (show 0 ≤ set by omega)
  have hsl : s < 2 ^ ports g := by rw [hP2]; omega
  have h4 : nR g * nC g ≤ 4 := by omega
  have hA := askOf_at hG h4 hsl
  refine WC.skip ?_
  refine WN.next ?_
  refine WC.seq ?_
  refine WC.region ?_
  refine WL.u rfl rfl (Wt.plain rfl) (Ex.move rfl) ?_
  refine WL.call callable60 rfl (Wt.plain rfl) rfl rfl (ipairsOf g _ _ _ (hg.kept hH.keep) hG) ?_
  rintro _ wn ⟨hC, hN⟩; obtain ⟨b27, cap27, cur27, rfl, hge27, hbb27, ho27⟩ := hN.own; rw [pairsI_len]; replace hH := hH.push hC hge27 hbb27; clear hC hN
  refine WL.u rfl rfl (Wt.plain rfl) (Ex.assign rfl) ?_
  refine WL.next ?_
  refine WC.seq ?_
  refine WC.seq ?_
  refine WC.region ?_
  refine WL.u rfl rfl (Wt.plain rfl) (Ex.move rfl) ?_
  refine WL.u rfl rfl (Wt.plain rfl) (Ex.lenSl Try.underlying24 rfl) ?_
  refine WL.u rfl rfl (Wt.plain rfl) (Ex.move rfl) ?_
  refine WL.next ?_
  refine WC.block ?_
  refine WC.loop (ι := Nat × (Array Value) × (List Int)) (fun (i, cur27, q) => [(1, vint s), (6, vsl b27 (ports g) cap27), (28, vsl b27 (ports g) cap27), (29, vint (ports g)), (30, vint i)]) (fun (i, cur27, q) wn => Hp [] w wn [(b27, .cells cur27 3 (0, 0))] ∧ Own rInt cur27 cap27 q ∧ q.length = ports g ∧ (∀ p, p < i → q.getD p 0 = setA g s p) ∧ (∀ p, i ≤ p → p < ports g → q.getD p 0 = ((way g p).2 : Int)) ∧ i ≤ ports g) (fun (i, cur27, q) => ports g - i) ((0, cur27, pairsI g)) (by exact ⟨rfl, rfl, rfl, rfl, rfl, trivial⟩) ?_ ?_
  · exact ⟨hH, ho27, pairsI_len g, fun p hp => by omega, fun p _ hp => pairsI_get g hp, Nat.zero_le _⟩
  rintro ⟨i, cur27, q⟩ wn ⟨hH, ho27, hql, hq1, hq2, hi⟩
  have hdv : s / 2 ^ i ≤ s := Nat.div_le_self _ _
  intro mu0 hmu; try dsimp only at hmu
  show WC _ _ _ _ [(1, vint s), (6, vsl b27 (ports g) cap27), (28, vsl b27 (ports g) cap27), (29, vint (ports g)), (30, vint i)] _
  refine WC.seq ?_
  refine WC.region ?_
  refine WL.u rfl rfl (Wt.plain rfl) (Ex.lss rfl rfl) ?_
  refine WL.next ?_
  refine WC.seq ?_
  refine WC.cond rfl (fun hc2 => ?_) (fun hc2 => ?_)
  · have hc2' := hc2; try simp only [decide_eq_true_eq, decide_eq_false_iff_not, Bool.not_eq_true', Bool.not_eq_false', Bool.not_eq_true, Bool.not_eq_false] at hc2'
    have hli : i < ports g := by omega
    have hq2i := hq2 i (Nat.le_refl _) hli
    refine WC.skip ?_
    refine WN.next ?_
    refine WC.seq ?_
    refine WC.block ?_
    refine WC.seq ?_
    refine WC.region ?_
    refine WL.u rfl rfl (Wt.plain rfl) (Ex.move rfl) ?_
    refine WL.u rfl rfl (Wt.plain rfl) (Ex.assign rfl) ?_
    refine WL.next ?_
    refine WC.seq ?_
    refine WC.region ?_
    refine WL.u rfl rfl (Wt.plain rfl) (Ex.move rfl) ?_
    refine WL.u rfl rfl (Wt.plain rfl) (Ex.move rfl) ?_
    refine WL.u rfl rfl (Wt.plain rfl) (Ex.shr rfl rfl (by omega)) ?_
    refine WL.u rfl rfl (Wt.plain rfl) (Ex.and1 rfl (by omega)) ?_
    refine WL.u rfl rfl (Wt.plain rfl) (Ex.eql rfl rfl) ?_
    refine WL.next ?_
    refine WC.cond rfl (fun hc3 => ?_) (fun hc3 => ?_)
    · have hc3' := hc3; try simp only [decide_eq_true_eq, decide_eq_false_iff_not, Bool.not_eq_true', Bool.not_eq_false', Bool.not_eq_true, Bool.not_eq_false] at hc3'
      have hz : s / 2 ^ i % 2 = 0 := by omega
      refine WC.region ?_
      refine WL.u rfl rfl (Wt.plain rfl) (Ex.move rfl) ?_
      refine WL.u rfl rfl (Wt.plain rfl) (Ex.move rfl) ?_
      refine WL.u rfl rfl (Wt.plain rfl) (Ex.indexAddr Try.underlying24 ty3 rfl rfl (by omega)) ?_
      refine WL.store1 ty3 rfl rfl rfl (Wt.plain rfl) hH (ho27.idx rfl (by omega)) (by simp) (fun wn hk hH => ?_)
      replace ho27 := ho27.set rfl i (-1)
      refine WL.last ?_
      refine WN.normalBlock ?_
      refine WN.next ?_
      refine WC.region ?_
      refine WL.u rfl rfl (Wt.plain rfl) (Ex.add rfl rfl (by omega)) ?_
      refine WL.u rfl rfl (Wt.plain rfl) (Ex.move rfl) ?_
      refine WL.last ?_
      refine WN.round (i + 1, cur27.setIfInBounds (0 + (i : Int).toNat * 1) (rInt.val (-1)), q.set i (-1)) (by exact ⟨rfl, rfl, rfl, rfl, rfl, trivial⟩) ?_ ?_
      · refine ⟨hH, ho27, by rw [List.length_set]; exact hql, fun p hp => ?_, fun p hp hp2 => ?_, by omega⟩
        · rw [int_set (by omega)]
          by_cases e : i = p
          · subst e; rw [if_pos rfl]; unfold setA; rw [if_pos hz]
          · rw [if_neg e]; exact hq1 p (by omega)
        · rw [int_set (by omega), if_neg (by omega)]; exact hq2 p (by omega) hp2
      · (try dsimp only); omega
    have hc3' := hc3; try simp only [decide_eq_true_eq, decide_eq_false_iff_not, Bool.not_eq_true', Bool.not_eq_false', Bool.not_eq_true, Bool.not_eq_false] at hc3'
    have hz : ¬ s / 2 ^ i % 2 = 0 := by omega
    refine WC.skip ?_
    refine WN.normalBlock ?_
    refine WN.next ?_
    refine WC.region ?_
    refine WL.u rfl rfl (Wt.plain rfl) (Ex.add rfl rfl (by omega)) ?_
    refine WL.u rfl rfl (Wt.plain rfl) (Ex.move rfl) ?_
    refine WL.last ?_
    refine WN.round (i + 1, cur27, q) (by exact ⟨rfl, rfl, rfl, rfl, rfl, trivial⟩) ?_ ?_
    · refine ⟨hH, ho27, hql, fun p hp => ?_, fun p hp hp2 => hq2 p (by omega) hp2, by omega⟩
      by_cases e : i = p
      · subst e; rw [hq2i]; unfold setA; rw [if_neg hz]
      · exact hq1 p (by omega)
    · (try dsimp only); omega
  have hc2' := hc2; try simp only [decide_eq_true_eq, decide_eq_false_iff_not, Bool.not_eq_true', Bool.not_eq_false', Bool.not_eq_true, Bool.not_eq_false] at hc2'
  refine WC.exit ?_
  refine WN.exitThen ?_
  refine WN.exitThen ?_
  refine WN.exitHere ?_
  refine WN.next ?_
  refine WC.seq ?_
  refine WC.region ?_
  refine WL.u rfl rfl (Wt.plain rfl) (Ex.move rfl) ?_
  refine WL.u rfl rfl (Wt.plain rfl) (Ex.assign rfl) ?_
  refine WL.u rfl rfl (Wt.plain rfl) (Ex.assign rfl) ?_
  refine WL.next ?_
  refine WC.ret ?_
  refine WN.body2 rfl rfl rfl ?_
  obtain rfl : i = ports g := by omega
  have e2 : q = setL g s (ports g) := ext_int (by rw [hql, setL_len]) (fun j hj => by rw [hq1 j (by omega), setL_get g s (by omega)])
  have hN := New.of hH ho27 (hH.base 0 rfl)
  rw [hql] at hN
  exact ⟨_, by rw [hA], hH.keep, by rw [hA]; show New rInt _ _ _ _ (setL g s (ports g)); rw [← e2]; exact hN⟩

theorem sAskOf (g : Grid) (a : Option Addr) (cap : Nat) (set : Int) (w : World) (hg : Sl rStr w a g) (hs : Short g) : Fn Try.prog 18 [.slice a g.length cap, vint set] w (fun v w1 => ∃ x, v = .tuple #[x, .bool (askOf g set).2] ∧ Keep [] w w1 ∧ New rInt 3 w w1 x (askOf g set).1) := by
  refine Fn.enter (n := 62) Try.func18 rfl rfl rfl ?_
  show WC _ _ _ _ [(0, .slice a g.length cap), (1, vint set)] _
  have hH := Hp.start [] w
  refine WC.seq ?_
  refine WC.region ?_
  refine WL.u rfl rfl (Wt.plain rfl) (Ex.assign rfl) ?_
  refine WL.u rfl rfl (Wt.plain rfl) (Ex.assign rfl) ?_
  refine WL.next ?_
  refine WC.seq ?_
  refine WC.region ?_
  refine WL.lit0 Try.underlying24 ty3 rfl (Wt.plain rfl) hH (fun b9 wn hb9 hk9 hH => ?_)
  have ho9 := Own.nil rInt
  refine WL.u rfl rfl (Wt.plain rfl) (Ex.assign rfl) ?_
  refine WL.next ?_
  refine WC.seq ?_
  refine WC.seq ?_
  refine WC.region ?_
  refine WL.u rfl rfl (Wt.plain rfl) (Ex.move rfl) ?_
  refine WL.call callable52 rfl (Wt.plain rfl) rfl rfl (sGridIn _ _ _ _ (hg.kept hH.keep) hs) ?_
  rintro _ wn ⟨rfl, hC⟩; replace hH := hH.dr hC; clear hC
  refine WL.u rfl rfl (Wt.plain rfl) (Ex.not rfl) ?_
  refine WL.u rfl rfl (Wt.plain rfl) (Ex.move rfl) ?_
  refine WL.split (t := 13) rfl (fun hg2_3 => ?_) (fun hg2_3 => ?_)
  · have hg2_3' := hg2_3; try simp only [decide_eq_true_eq, decide_eq_false_iff_not, Bool.not_eq_true', Bool.not_eq_false', Bool.not_eq_true, Bool.not_eq_false] at hg2_3'
    refine WL.pass rfl rfl (Wt.guard' rfl rfl rfl hg2_3 rfl) ?_
    refine WL.pass rfl rfl (Wt.guard' rfl rfl rfl hg2_3 rfl) ?_
    refine WL.pass rfl rfl (Wt.guard' rfl rfl rfl hg2_3 rfl) ?_
    refine WL.pass rfl rfl (Wt.guard' rfl rfl rfl hg2_3 rfl) ?_
    refine WL.pass rfl rfl (Wt.guard' rfl rfl rfl hg2_3 rfl) ?_
    refine WL.pass rfl rfl (Wt.guard' rfl rfl rfl hg2_3 rfl) ?_
    refine WL.pass rfl rfl (Wt.guard' rfl rfl rfl hg2_3 rfl) ?_
    refine WL.pass rfl rfl (Wt.guard' rfl rfl rfl hg2_3 rfl) ?_
    refine WL.u rfl rfl (Wt.plain rfl) (Ex.pickT rfl hg2_3 rfl) ?_
    refine WL.u rfl rfl (Wt.plain rfl) (Ex.move rfl) ?_
    refine WL.pass rfl rfl (Wt.guard' rfl rfl rfl rfl rfl) ?_
    refine WL.pass rfl rfl (Wt.guard' rfl rfl rfl rfl rfl) ?_
    refine WL.pass rfl rfl (Wt.guard' rfl rfl rfl rfl rfl) ?_
    refine WL.pass rfl rfl (Wt.guard' rfl rfl rfl rfl rfl) ?_
    refine WL.pass rfl rfl (Wt.guard' rfl rfl rfl rfl rfl) ?_
    refine WL.pass rfl rfl (Wt.guard' rfl rfl rfl rfl rfl) ?_
    refine WL.pass rfl rfl (Wt.guard' rfl rfl rfl rfl rfl) ?_
    refine WL.pass rfl rfl (Wt.guard' rfl rfl rfl rfl rfl) ?_
    refine WL.pass rfl rfl (Wt.guard' rfl rfl rfl rfl rfl) ?_
    refine WL.pass rfl rfl (Wt.guard' rfl rfl rfl rfl rfl) ?_
    refine WL.pass rfl rfl (Wt.guard' rfl rfl rfl rfl rfl) ?_
    refine WL.pass rfl rfl (Wt.guard' rfl rfl rfl rfl rfl) ?_
    refine WL.u rfl rfl (Wt.plain rfl) (Ex.pickT rfl rfl rfl) ?_
    refine WL.next ?_
    refine WC.condT rfl rfl ?_
    refine WC.seq ?_
    refine WC.region ?_
    refine WL.u rfl rfl (Wt.plain rfl) (Ex.move rfl) ?_
    refine WL.u rfl rfl (Wt.plain rfl) (Ex.assign rfl) ?_
    refine WL.u rfl rfl (Wt.plain rfl) (Ex.assign rfl) ?_
    refine WL.next ?_
    refine WC.ret ?_
    refine WN.retThen ?_
    refine WN.body2 rfl rfl rfl ?_
    have e := askOf_not (g := g) (set := set) (fun h => by rw [h.1] at hg2_3; cases hg2_3)
    exact ⟨_, by rw [e], hH.keep, by rw [e]; exact New.of (hH.front 0 rfl) ho9 (hH.base 0 rfl)⟩
  have hg2_3' := hg2_3; try simp only [decide_eq_true_eq, decide_eq_false_iff_not, Bool.not_eq_true', Bool.not_eq_false', Bool.not_eq_true, Bool.not_eq_false] at hg2_3'
  have hgi : gridIn g = true := by simpa using hg2_3
  have hG := (gridOk_iff g).1 hgi
  have hpl := ports_le hG
  obtain ⟨P2, hP2⟩ : ∃ q, 2 ^ ports g = q := ⟨_, rfl⟩
  have hpw : P2 ≤ 1048576 := by rw [← hP2]; exact pow20 hpl
  have hP0 : 0 < P2 := by rw [← hP2]; exact Nat.pow_pos (by decide)
  have hn1 := hG.n1
  have hn5 := hG.n5
  have hm5 := hG.m5
  have hc25 := cells_le hG
  obtain ⟨b, off, rfl⟩ := hg.addr (by omega)
  have hmI : (g.length : Int) * ((g.getD 0 []).length : Int) = ((nR g * nC g : Nat) : Int) := (Int.natCast_mul _ _).symm
  have hpe : ports g = 2 * (g.length + (g.getD 0 []).length) := by unfold ports; dsimp only [nR, nC]; omega
  refine WL.u rfl rfl (Wt.guard' rfl rfl rfl hg2_3 rfl) (Ex.move rfl) ?_
  refine WL.u rfl rfl (Wt.guard' rfl rfl rfl hg2_3 rfl) (Ex.lenSl Try.underlying22 rfl) ?_
  refine WL.u rfl rfl (Wt.guard' rfl rfl rfl hg2_3 rfl) (Ex.move rfl) ?_
  refine WL.u rfl rfl (Wt.guard' rfl rfl rfl hg2_3 rfl) (Ex.indexAddr Try.underlying22 ty9 rfl rfl (by omega)) ?_
  refine WL.u rfl rfl (Wt.guard' rfl rfl rfl hg2_3 rfl) (Ex.loadSl flat9 (hg.kept hH.keep) rfl rfl (getD_get g 0 [] (by omega))) ?_
  refine WL.u rfl rfl (Wt.guard' rfl rfl rfl hg2_3 rfl) (Ex.lenStr Try.underlying9 rfl) ?_
  refine WL.u rfl rfl (Wt.guard' rfl rfl rfl hg2_3 rfl) ((Ex.mul rfl rfl (by omega)).to (congrArg (Value.int IntKind.i64) hmI)) ?_
  refine WL.u rfl rfl (Wt.guard' rfl rfl rfl hg2_3 rfl) (Ex.gtr rfl rfl) ?_
  refine WL.u rfl rfl (Wt.plain rfl) (Ex.pickF rfl hg2_3 rfl) ?_
  refine WL.u rfl rfl (Wt.plain rfl) (Ex.move rfl) ?_
  refine WL.split (t := 23) rfl (fun hg2_13 => ?_) (fun hg2_13 => ?_)
  · have hg2_13' := hg2_13; try simp only [decide_eq_true_eq, decide_eq_false_iff_not, Bool.not_eq_true', Bool.not_eq_false', Bool.not_eq_true, Bool.not_eq_false] at hg2_13'
    refine WL.pass rfl rfl (Wt.guard' rfl rfl rfl hg2_13 rfl) ?_
    refine WL.pass rfl rfl (Wt.guard' rfl rfl rfl hg2_13 rfl) ?_
    refine WL.pass rfl rfl (Wt.guard' rfl rfl rfl hg2_13 rfl) ?_
    refine WL.pass rfl rfl (Wt.guard' rfl rfl rfl hg2_13 rfl) ?_
    refine WL.pass rfl rfl (Wt.guard' rfl rfl rfl hg2_13 rfl) ?_
    refine WL.pass rfl rfl (Wt.guard' rfl rfl rfl hg2_13 rfl) ?_
    refine WL.pass rfl rfl (Wt.guard' rfl rfl rfl hg2_13 rfl) ?_
    refine WL.pass rfl rfl (Wt.guard' rfl rfl rfl hg2_13 rfl) ?_
    refine WL.pass rfl rfl (Wt.guard' rfl rfl rfl hg2_13 rfl) ?_
    refine WL.pass rfl rfl (Wt.guard' rfl rfl rfl hg2_13 rfl) ?_
    refine WL.pass rfl rfl (Wt.guard' rfl rfl rfl hg2_13 rfl) ?_
    refine WL.pass rfl rfl (Wt.guard' rfl rfl rfl hg2_13 rfl) ?_
    refine WL.u rfl rfl (Wt.plain rfl) (Ex.pickT rfl hg2_13 rfl) ?_
    refine WL.next ?_
    refine WC.condT rfl rfl ?_
    refine WC.seq ?_
    refine WC.region ?_
    refine WL.u rfl rfl (Wt.plain rfl) (Ex.move rfl) ?_
    refine WL.u rfl rfl (Wt.plain rfl) (Ex.assign rfl) ?_
    refine WL.u rfl rfl (Wt.plain rfl) (Ex.assign rfl) ?_
    refine WL.next ?_
    refine WC.ret ?_
    refine WN.retThen ?_
    refine WN.body2 rfl rfl rfl ?_
    have e := askOf_not (g := g) (set := set) (fun h => by have := h.2.1; omega)
    exact ⟨_, by rw [e], hH.keep, by rw [e]; exact New.of (hH.front 0 rfl) ho9 (hH.base 0 rfl)⟩
  have hg2_13' := hg2_13; try simp only [decide_eq_true_eq, decide_eq_false_iff_not, Bool.not_eq_true', Bool.not_eq_false', Bool.not_eq_true, Bool.not_eq_false] at hg2_13'
  refine WL.u rfl rfl (Wt.guard' rfl rfl rfl hg2_13 rfl) (Ex.move rfl) ?_
  refine WL.u rfl rfl (Wt.guard' rfl rfl rfl hg2_13 rfl) (Ex.move rfl) ?_
  refine WL.u rfl rfl (Wt.guard' rfl rfl rfl hg2_13 rfl) (Ex.lenSl Try.underlying22 rfl) ?_
  refine WL.u rfl rfl (Wt.guard' rfl rfl rfl hg2_13 rfl) (Ex.move rfl) ?_
  refine WL.u rfl rfl (Wt.guard' rfl rfl rfl hg2_13 rfl) (Ex.indexAddr Try.underlying22 ty9 rfl rfl (by omega)) ?_
  refine WL.u rfl rfl (Wt.guard' rfl rfl rfl hg2_13 rfl) (Ex.loadSl flat9 (hg.kept hH.keep) rfl rfl (getD_get g 0 [] (by omega))) ?_
  refine WL.u rfl rfl (Wt.guard' rfl rfl rfl hg2_13 rfl) (Ex.lenStr Try.underlying9 rfl) ?_
  refine WL.call callable54 rfl (Wt.guard' rfl rfl rfl hg2_13 rfl) rfl rfl (sl2Ports g.length (g.getD 0 []).length _ (by omega) (by omega)) ?_
  rintro _ _ ⟨hv, hw⟩; obtain rfl := hw.symm; obtain rfl := hv.trans (congrArg (Value.int IntKind.i64) (show _ = ((ports g : Nat) : Int) by rw [hpe]; omega))
  refine WL.u rfl rfl (Wt.guard' rfl rfl rfl hg2_13 rfl) ((Ex.shl1 rfl (by omega)).to (congrArg (fun x : Nat => vint x) hP2)) ?_
  refine WL.u rfl rfl (Wt.guard' rfl rfl rfl hg2_13 rfl) (Ex.sub rfl rfl (by omega)) ?_
  refine WL.call callable53 rfl (Wt.guard' rfl rfl rfl hg2_13 rfl) rfl rfl (sl6In set 0 ((P2 : Int) - 1) _) ?_
  rintro _ _ ⟨rfl, hw⟩; obtain rfl := hw.symm
  refine WL.u rfl rfl (Wt.guard' rfl rfl rfl hg2_13 rfl) (Ex.not rfl) ?_
  refine WL.u rfl rfl (Wt.plain rfl) (Ex.pickF rfl hg2_13 rfl) ?_
  refine WL.next ?_
  refine WC.cond rfl (fun hc1 => ?_) (fun hc1 => ?_)
  · have hc1' := hc1; try simp only [decide_eq_true_eq, decide_eq_false_iff_not, Bool.not_eq_true', Bool.not_eq_false', Bool.not_eq_true, Bool.not_eq_false] at hc1'
    refine WC.seq ?_
    refine WC.region ?_
    refine WL.u rfl rfl (Wt.plain rfl) (Ex.move rfl) ?_
    refine WL.u rfl rfl (Wt.plain rfl) (Ex.assign rfl) ?_
    refine WL.u rfl rfl (Wt.plain rfl) (Ex.assign rfl) ?_
    refine WL.next ?_
    refine WC.ret ?_
    refine WN.retThen ?_
    refine WN.body2 rfl rfl rfl ?_
    have e := askOf_not (g := g) (set := set) (fun h => by have := h.2.2; rw [hP2] at this; omega)
    exact ⟨_, by rw [e], hH.keep, by rw [e]; exact New.of (hH.front 0 rfl) ho9 (hH.base 0 rfl)⟩
  have hc1' := hc1; try simp only [decide_eq_true_eq, decide_eq_false_iff_not, Bool.not_eq_true', Bool.not_eq_false', Bool.not_eq_true, Bool.not_eq_false] at hc1'
  obtain ⟨s, rfl⟩ := Int.eq_ofNat_of_zero_le (show 0 ≤ set by omega)
  have hsl : s < 2 ^ ports g := by rw [hP2]; omega
  have h4 : nR g * nC g ≤ 4 := by omega
  have hA := askOf_at hG h4 hsl
  refine WC.skip ?_
  refine WN.next ?_
  refine WC.seq ?_
  refine WC.region ?_
  refine WL.u rfl rfl (Wt.plain rfl) (Ex.move rfl) ?_
  refine WL.call callable55 rfl (Wt.plain rfl) rfl rfl (sl2Pairs g _ _ _ (hg.kept hH.keep) hG) ?_
  rintro _ wn ⟨hC, hN⟩; obtain ⟨b39, cap39, cur39, rfl, hge39, hbb39, ho39⟩ := hN.own; rw [pairsI_len]; replace hH := hH.push hC hge39 hbb39; clear hC hN
  refine WL.u rfl rfl (Wt.plain rfl) (Ex.assign rfl) ?_
  refine WL.next ?_
  refine WC.seq ?_
  refine WC.seq ?_
  refine WC.region ?_
  refine WL.u rfl rfl (Wt.plain rfl) (Ex.assign rfl) ?_
  refine WL.next ?_
  refine WC.block ?_
  replace hH := hH.f1
  refine WC.loop (ι := Nat × Nat × Nat × (Array Value) × (List Int)) (fun (i, b9, cap9, cur9, z) => [(1, vint s), (6, vsl b9 z.length cap9), (7, vsl b39 (ports g) cap39), (8, vint i)]) (fun (i, b9, cap9, cur9, z) wn => Hp [] w wn [(b9, .cells cur9 3 (0, 0)), (b39, .cells cur39 3 (0, 0))] ∧ Own rInt cur9 cap9 z ∧ z = setL g s i ∧ i ≤ ports g) (fun (i, b9, cap9, cur9, z) => ports g - i) ((0, b9, 0, #[], [])) (by exact ⟨rfl, rfl, rfl, rfl, trivial⟩) ?_ ?_
  · exact ⟨hH, ho9, rfl, Nat.zero_le _⟩
  rintro ⟨i, b9, cap9, cur9, z⟩ wn ⟨hH, ho9, hz, hi⟩
  have hzl : z.length = i := by rw [hz, setL_len]
  have hdv : s / 2 ^ i ≤ s := Nat.div_le_self _ _
  intro mu0 hmu; try dsimp only at hmu
  show WC _ _ _ _ [(1, vint s), (6, vsl b9 z.length cap9), (7, vsl b39 (ports g) cap39), (8, vint i)] _
  refine WC.seq ?_
  refine WC.seq ?_
  refine WC.region ?_
  refine WL.u rfl rfl (Wt.plain rfl) (Ex.move rfl) ?_
  refine WL.u rfl rfl (Wt.plain rfl) (Ex.move rfl) ?_
  refine WL.u rfl rfl (Wt.plain rfl) (Ex.lenSl Try.underlying24 rfl) ?_
  refine WL.u rfl rfl (Wt.plain rfl) (Ex.lss rfl rfl) ?_
  refine WL.next ?_
  refine WC.cond rfl (fun hc2 => ?_) (fun hc2 => ?_)
  · have hc2' := hc2; try simp only [decide_eq_true_eq, decide_eq_false_iff_not, Bool.not_eq_true', Bool.not_eq_false', Bool.not_eq_true, Bool.not_eq_false] at hc2'
    have hli : i < ports g := by omega
    have hpe2 := pairsI_get g hli
    refine WC.skip ?_
    refine WN.next ?_
    refine WC.seq ?_
    refine WC.block ?_
    refine WC.seq ?_
    refine WC.region ?_
    refine WL.u rfl rfl (Wt.plain rfl) (Ex.move rfl) ?_
    refine WL.u rfl rfl (Wt.plain rfl) (Ex.move rfl) ?_
    refine WL.u rfl rfl (Wt.plain rfl) (Ex.shr rfl rfl (by omega)) ?_
    refine WL.u rfl rfl (Wt.plain rfl) (Ex.and1 rfl (by omega)) ?_
    refine WL.u rfl rfl (Wt.plain rfl) (Ex.eql rfl rfl) ?_
    refine WL.next ?_
    refine WC.cond rfl (fun hc3 => ?_) (fun hc3 => ?_)
    · have hc3' := hc3; try simp only [decide_eq_true_eq, decide_eq_false_iff_not, Bool.not_eq_true', Bool.not_eq_false', Bool.not_eq_true, Bool.not_eq_false] at hc3'
      have hza : setA g s i = (pairsI g).getD i 0 := by rw [hpe2]; unfold setA; rw [if_neg (by omega)]
      refine WC.region ?_
      refine WL.u rfl rfl (Wt.plain rfl) (Ex.move rfl) ?_
      refine WL.u rfl rfl (Wt.plain rfl) (Ex.move rfl) ?_
      refine WL.u rfl rfl (Wt.plain rfl) (Ex.move rfl) ?_
      refine WL.u rfl rfl (Wt.plain rfl) (Ex.indexAddr Try.underlying24 ty3 rfl rfl (by omega)) ?_
      replace hH := hH.f1
      refine WL.u rfl rfl (Wt.plain rfl) (Ex.loadHp flat3 rfl hH (ho39.get rfl (getD_get (pairsI g) i 0 (by rw [pairsI_len]; exact hli)))) ?_
      replace hH := hH.f1
      refine WL.append1 (r := rInt) (u := (pairsI g).getD i 0) Try.underlying24 ty3 rfl rfl (fun _ => rfl) (fun _ => rfl) rfl rfl (Wt.plain rfl) (fun _ => (Wt.plain rfl)) hH ho9 rfl (by omega) (by omega) (fun b9 cap9 cur9 wn x9 hb9 hk9 hH ho9 => ?_)
      refine WL.u rfl rfl (Wt.plain rfl) (Ex.assign rfl) ?_
      refine WL.last ?_
      refine WN.normalBlock ?_
      refine WN.next ?_
      refine WC.region ?_
      refine WL.u rfl rfl (Wt.plain rfl) (Ex.move rfl) ?_
      refine WL.u rfl rfl (Wt.plain rfl) (Ex.add rfl rfl (by omega)) ?_
      refine WL.u rfl rfl (Wt.plain rfl) (Ex.assign rfl) ?_
      refine WL.last ?_
      replace hH := hH.f1
      replace hH := hH.f1
      refine WN.round (i + 1, b9, cap9, cur9, z ++ [(pairsI g).getD i 0]) (by exact ⟨rfl, rfl, rfl, rfl, trivial⟩) ?_ ?_
      · exact ⟨hH, ho9, by rw [setL_succ, hz, hza], by omega⟩
      · (try dsimp only); omega
    have hc3' := hc3; try simp only [decide_eq_true_eq, decide_eq_false_iff_not, Bool.not_eq_true', Bool.not_eq_false', Bool.not_eq_true, Bool.not_eq_false] at hc3'
    have hza : setA g s i = -1 := by unfold setA; rw [if_pos (by omega)]
    refine WC.region ?_
    refine WL.u rfl rfl (Wt.plain rfl) (Ex.move rfl) ?_
    refine WL.append1 (r := rInt) (u := (-1 : Int)) Try.underlying24 ty3 rfl rfl (fun _ => rfl) (fun _ => rfl) rfl rfl (Wt.plain rfl) (fun _ => (Wt.plain rfl)) hH ho9 rfl (by omega) (by omega) (fun b9 cap9 cur9 wn x9 hb9 hk9 hH ho9 => ?_)
    refine WL.u rfl rfl (Wt.plain rfl) (Ex.assign rfl) ?_
    refine WL.last ?_
    refine WN.normalBlock ?_
    refine WN.next ?_
    refine WC.region ?_
    refine WL.u rfl rfl (Wt.plain rfl) (Ex.move rfl) ?_
    refine WL.u rfl rfl (Wt.plain rfl) (Ex.add rfl rfl (by omega)) ?_
    refine WL.u rfl rfl (Wt.plain rfl) (Ex.assign rfl) ?_
    refine WL.last ?_
    replace hH := hH.f1
    replace hH := hH.f1
    refine WN.round (i + 1, b9, cap9, cur9, z ++ [-1]) (by exact ⟨rfl, rfl, rfl, rfl, trivial⟩) ?_ ?_
    · exact ⟨hH, ho9, by rw [setL_succ, hz, hza], by omega⟩
    · (try dsimp only); omega
  have hc2' := hc2; try simp only [decide_eq_true_eq, decide_eq_false_iff_not, Bool.not_eq_true', Bool.not_eq_false', Bool.not_eq_true, Bool.not_eq_false] at hc2'
  refine WC.exit ?_
  refine WN.exitThen ?_
  refine WN.exitThen ?_
  refine WN.exitHere ?_
  refine WN.next ?_
  refine WC.seq ?_
  refine WC.region ?_
  refine WL.u rfl rfl (Wt.plain rfl) (Ex.move rfl) ?_
  refine WL.u rfl rfl (Wt.plain rfl) (Ex.assign rfl) ?_
  refine WL.u rfl rfl (Wt.plain rfl) (Ex.assign rfl) ?_
  refine WL.next ?_
  refine WC.ret ?_
  refine WN.body2 rfl rfl rfl ?_
  obtain rfl : i = ports g := by omega
  exact ⟨_, by rw [hA], hH.keep, by rw [hA]; show New rInt _ _ _ _ (setL g s (ports g)); rw [← hz]; exact New.of (hH.front 0 rfl) ho9 (hH.base 0 rfl)⟩

set_option maxHeartbeats 1000000 in
theorem lawExactAskOf (g : Grid) (a : Option Addr) (cap : Nat) (set : Int) (w : World) (hg : Sl rStr w a g) (hs : Short g) : Fn Try.prog 3 [.slice a g.length cap, vint set] w (fun v w1 => v = .bool true ∧ Keep [] w w1) := by
  refine Fn.enter (n := 101) Try.func3 rfl rfl rfl ?_
  show WC _ _ _ _ [(0, .slice a g.length cap), (1, vint set)] _
  have hH := Hp.start [] w
  have hlen := askOf_len g set
  refine WC.seq ?_
  refine WC.region ?_
  refine WL.u rfl rfl (Wt.plain rfl) (Ex.assign rfl) ?_
  refine WL.next ?_
  refine WC.seq ?_
  refine WC.region ?_
  refine WL.u rfl rfl (Wt.plain rfl) (Ex.assign rfl) ?_
  refine WL.next ?_
  refine WC.seq ?_
  refine WC.region ?_
  refine WL.u rfl rfl (Wt.plain rfl) (Ex.move rfl) ?_
  refine WL.u rfl rfl (Wt.plain rfl) (Ex.move rfl) ?_
  refine WL.call callable17 rfl (Wt.plain rfl) rfl rfl (szStringS g a cap 1048576 _ (hg.kept hH.keep) hs (by omega)) ?_
  rintro _ _ ⟨r, rfl, hw, hr⟩; obtain rfl := hw.symm
  refine WL.u rfl rfl (Wt.plain rfl) (Ex.assign rfl) ?_
  refine WL.next ?_
  refine WC.seq ?_
  refine WC.seq ?_
  refine WC.region ?_
  refine WL.u rfl rfl (Wt.plain rfl) (Ex.move rfl) ?_
  refine WL.u rfl rfl (Wt.plain rfl) (Ex.lss rfl rfl) ?_
  refine WL.next ?_
  refine WC.cond rfl (fun hc1 => ?_) (fun hc1 => ?_)
  · have hc1' := hc1; try simp only [decide_eq_true_eq, decide_eq_false_iff_not, Bool.not_eq_true', Bool.not_eq_false', Bool.not_eq_true, Bool.not_eq_false] at hc1'
    refine WC.seq ?_
    refine WC.region ?_
    refine WL.u rfl rfl (Wt.plain rfl) (Ex.assign rfl) ?_
    refine WL.next ?_
    refine WC.ret ?_
    refine WN.retThen ?_
    refine WN.body1 rfl rfl ?_
    exact ⟨rfl, hH.keep⟩
  have hc1' := hc1; try simp only [decide_eq_true_eq, decide_eq_false_iff_not, Bool.not_eq_true', Bool.not_eq_false', Bool.not_eq_true, Bool.not_eq_false] at hc1'
  have hr2 := hr (by omega)
  have hgl := hr2.1
  refine WC.skip ?_
  refine WN.next ?_
  refine WC.seq ?_
  refine WC.region ?_
  refine WL.u rfl rfl (Wt.plain rfl) (Ex.move rfl) ?_
  refine WL.call callable19 rfl (Wt.plain rfl) rfl rfl (toStringS _ _ _ _ (hg.kept hH.keep) hgl) ?_
  rintro _ wn ⟨hC, hN⟩; obtain ⟨b101, cap101, cur101, rfl, hge, hbb, ho101⟩ := hN.own; replace hH := hH.push hC hge hbb
  refine WL.u rfl rfl (Wt.plain rfl) (Ex.move rfl) ?_
  refine WL.call callable18 rfl (Wt.plain rfl) rfl rfl (sAskOf g _ _ set _ (ho101.slAt hH 0 rfl) hs) ?_
  rintro _ wn ⟨x, rfl, hC, hN⟩; obtain ⟨b25, cap25, cur25, rfl, hge25, hbb25, ho25⟩ := hN.own; replace hH := hH.push hC hge25 hbb25; clear hC hN
  refine WL.u rfl rfl (Wt.plain rfl) (Ex.move rfl) ?_
  refine WL.u rfl rfl (Wt.plain rfl) (Ex.extract rfl rfl) ?_
  refine WL.u rfl rfl (Wt.plain rfl) (Ex.extract rfl rfl) ?_
  refine WL.u rfl rfl (Wt.plain rfl) (Ex.assign rfl) ?_
  refine WL.u rfl rfl (Wt.plain rfl) (Ex.assign rfl) ?_
  refine WL.next ?_
  refine WC.seq ?_
  refine WC.region ?_
  refine WL.u rfl rfl (Wt.plain rfl) (Ex.move rfl) ?_
  refine WL.call callable19 rfl (Wt.plain rfl) rfl rfl (toStringS _ _ _ _ (hg.kept hH.keep) hgl) ?_
  rintro _ wn ⟨hC, hN⟩; obtain ⟨b102, cap102, cur102, rfl, hge, hbb, ho102⟩ := hN.own; replace hH := hH.push hC hge hbb
  refine WL.u rfl rfl (Wt.plain rfl) (Ex.assign rfl) ?_
  refine WL.next ?_
  refine WC.seq ?_
  refine WC.region ?_
  refine WL.u rfl rfl (Wt.plain rfl) (Ex.move rfl) ?_
  refine WL.u rfl rfl (Wt.plain rfl) (Ex.move rfl) ?_
  refine WL.call callable20 rfl (Wt.plain rfl) rfl rfl (iAskOf g _ _ set _ (ho102.slAt hH 0 rfl) hs) ?_
  rintro _ wn ⟨x, rfl, hC, hN⟩; obtain ⟨b33, cap33, cur33, rfl, hge33, hbb33, ho33⟩ := hN.own; replace hH := hH.push hC hge33 hbb33; clear hC hN
  refine WL.u rfl rfl (Wt.plain rfl) (Ex.move rfl) ?_
  refine WL.u rfl rfl (Wt.plain rfl) (Ex.extract rfl rfl) ?_
  refine WL.u rfl rfl (Wt.plain rfl) (Ex.extract rfl rfl) ?_
  refine WL.u rfl rfl (Wt.plain rfl) (Ex.assign rfl) ?_
  refine WL.u rfl rfl (Wt.plain rfl) (Ex.assign rfl) ?_
  refine WL.next ?_
  refine WC.seq ?_
  refine WC.seq ?_
  refine WC.region ?_
  refine WL.u rfl rfl (Wt.plain rfl) (Ex.move rfl) ?_
  refine WL.u rfl rfl (Wt.plain rfl) (Ex.move rfl) ?_
  refine WL.call callable21 rfl (Wt.plain rfl) rfl rfl (eqIntS ((askOf g set).1) ((askOf g set).1) _ _ _ _ _ (ho33.slAt hH 0 rfl) (ho25.slAt hH 2 rfl)) ?_
  rintro _ wn ⟨rfl, hC⟩; replace hH := hH.dr hC; clear hC
  refine WL.u rfl rfl (Wt.plain rfl) (Ex.not rfl) ?_
  refine WL.u rfl rfl (Wt.plain rfl) (Ex.move rfl) ?_
  refine WL.split (t := 40) rfl (fun hg8_4 => ?_) (fun hg8_4 => ?_)
  · exfalso; simp at hg8_4
  have hg8_4' := hg8_4; try simp only [decide_eq_true_eq, decide_eq_false_iff_not, Bool.not_eq_true', Bool.not_eq_false', Bool.not_eq_true, Bool.not_eq_false] at hg8_4'
  refine WL.u rfl rfl (Wt.guard' rfl rfl rfl hg8_4 rfl) (Ex.move rfl) ?_
  refine WL.u rfl rfl (Wt.guard' rfl rfl rfl hg8_4 rfl) (Ex.move rfl) ?_
  refine WL.u rfl rfl (Wt.guard' rfl rfl rfl hg8_4 rfl) (Ex.neqB Try.underlying4 rfl rfl) ?_
  refine WL.u rfl rfl (Wt.plain rfl) (Ex.pickF rfl hg8_4 rfl) ?_
  refine WL.next ?_
  refine WC.condF rfl (by simp) ?_
  refine WC.skip ?_
  refine WN.next ?_
  refine WC.seq ?_
  refine WC.seq ?_
  refine WC.region ?_
  refine WL.u rfl rfl (Wt.plain rfl) (Ex.move rfl) ?_
  refine WL.u rfl rfl (Wt.plain rfl) (Ex.move rfl) ?_
  refine WL.call callable19 rfl (Wt.plain rfl) rfl rfl (toStringS _ _ _ _ (hg.kept hH.keep) hgl) ?_
  rintro _ wn ⟨hC, hN⟩; obtain ⟨b103, cap103, cur103, rfl, hge, hbb, ho103⟩ := hN.own; replace hH := hH.push hC hge hbb
  refine WL.call callable22 rfl (Wt.plain rfl) rfl rfl (eqStringS g g _ _ _ _ _ (ho102.slAt hH 2 rfl) (ho103.slAt hH 0 rfl)) ?_
  rintro _ wn ⟨rfl, hC⟩; replace hH := hH.dr hC; clear hC
  refine WL.u rfl rfl (Wt.plain rfl) (Ex.not rfl) ?_
  refine WL.next ?_
  refine WC.condF rfl (by simp) ?_
  refine WC.skip ?_
  refine WN.next ?_
  refine WC.seq ?_
  refine WC.region ?_
  refine WL.u rfl rfl (Wt.plain rfl) (Ex.assign rfl) ?_
  refine WL.next ?_
  refine WC.seq ?_
  refine WC.region ?_
  refine WL.u rfl rfl (Wt.plain rfl) (Ex.move rfl) ?_
  refine WL.u rfl rfl (Wt.plain rfl) (Ex.move rfl) ?_
  replace hH := hH.f2
  refine WL.call callable23 rfl (Wt.plain rfl) rfl rfl (markStringS b102 cap102 cur102 (g) 1 _ (hH.at 0 rfl) ho102 (by omega) (by omega)) ?_
  rintro _ wn ⟨cur102m, rfl, hK, hb, ho102⟩; replace hH := hH.turn hK hb; clear hK hb
  refine WL.u rfl rfl (Wt.plain rfl) (Ex.assign rfl) ?_
  refine WL.next ?_
  refine WC.seq ?_
  refine WC.seq ?_
  refine WC.region ?_
  refine WL.u rfl rfl (Wt.plain rfl) (Ex.move rfl) ?_
  refine WL.u rfl rfl (Wt.plain rfl) (Ex.lss rfl rfl) ?_
  refine WL.u rfl rfl (Wt.plain rfl) (Ex.move rfl) ?_
  refine WL.u rfl rfl (Wt.guard' rfl rfl rfl (decide_eq_false (by omega)) rfl) (Ex.move rfl) ?_
  refine WL.u rfl rfl (Wt.guard' rfl rfl rfl (decide_eq_false (by omega)) rfl) (Ex.move rfl) ?_
  refine WL.call callable21 rfl (Wt.guard' rfl rfl rfl (decide_eq_false (by omega)) rfl) rfl rfl (eqIntS ((askOf g set).1) ((askOf g set).1) _ _ _ _ _ (ho33.slAt hH 2 rfl) (ho25.slAt hH 3 rfl)) ?_
  rintro _ wn ⟨rfl, hC⟩; replace hH := hH.dr hC; clear hC
  refine WL.u rfl rfl (Wt.guard' rfl rfl rfl (decide_eq_false (by omega)) rfl) (Ex.not rfl) ?_
  refine WL.u rfl rfl (Wt.plain rfl) (Ex.pickF rfl (decide_eq_false (by omega)) rfl) ?_
  refine WL.u rfl rfl (Wt.plain rfl) (Ex.move rfl) ?_
  refine WL.u rfl rfl (Wt.guard' rfl rfl rfl (show (!_) = false by simp) rfl) (Ex.move rfl) ?_
  refine WL.u rfl rfl (Wt.guard' rfl rfl rfl (show (!_) = false by simp) rfl) (Ex.move rfl) ?_
  refine WL.u rfl rfl (Wt.guard' rfl rfl rfl (show (!_) = false by simp) rfl) (Ex.neqB Try.underlying4 rfl rfl) ?_
  refine WL.u rfl rfl (Wt.plain rfl) (Ex.pickF rfl (show (!_) = false by simp) rfl) ?_
  refine WL.next ?_
  refine WC.condF rfl (by simp) ?_
  refine WC.skip ?_
  refine WN.next ?_
  refine WC.seq ?_
  refine WC.region ?_
  refine WL.u rfl rfl (Wt.plain rfl) (Ex.assign rfl) ?_
  refine WL.next ?_
  refine WC.seq ?_
  refine WC.region ?_
  refine WL.u rfl rfl (Wt.plain rfl) (Ex.move rfl) ?_
  refine WL.u rfl rfl (Wt.plain rfl) (Ex.move rfl) ?_
  replace hH := hH.f2
  refine WL.call callable24 rfl (Wt.plain rfl) rfl rfl (markIntS b33 cap33 cur33 ((askOf g set).1) 1 _ (hH.at 0 rfl) ho33 (by omega) (by omega)) ?_
  rintro _ wn ⟨cur33m, rfl, hK, hb, ho33⟩; replace hH := hH.turn hK hb; clear hK hb
  refine WL.u rfl rfl (Wt.plain rfl) (Ex.assign rfl) ?_
  refine WL.next ?_
  refine WC.seq ?_
  refine WC.region ?_
  refine WL.u rfl rfl (Wt.plain rfl) (Ex.assign rfl) ?_
  refine WL.next ?_
  refine WC.seq ?_
  refine WC.region ?_
  refine WL.u rfl rfl (Wt.plain rfl) (Ex.move rfl) ?_
  refine WL.u rfl rfl (Wt.plain rfl) (Ex.move rfl) ?_
  refine WL.call callable25 rfl (Wt.plain rfl) rfl rfl (heldIntS (some ⟨b33, 0, none⟩) cap33 1 ((askOf g set).1).length _ (ho33.slAt hH 0 rfl) (by omega) (by omega)) ?_
  rintro _ _ ⟨rfl, hw⟩; obtain rfl := hw.symm
  refine WL.u rfl rfl (Wt.plain rfl) (Ex.assign rfl) ?_
  refine WL.next ?_
  refine WC.seq ?_
  refine WC.seq ?_
  refine WC.region ?_
  refine WL.u rfl rfl (Wt.plain rfl) (Ex.move rfl) ?_
  refine WL.u rfl rfl (Wt.plain rfl) (Ex.lss rfl rfl) ?_
  refine WL.next ?_
  refine WC.condF rfl (decide_eq_false (by omega)) ?_
  refine WC.skip ?_
  refine WN.next ?_
  refine WC.seq ?_
  refine WC.seq ?_
  refine WC.region ?_
  refine WL.u rfl rfl (Wt.plain rfl) (Ex.move rfl) ?_
  refine WL.u rfl rfl (Wt.plain rfl) (Ex.move rfl) ?_
  refine WL.u rfl rfl (Wt.plain rfl) (Ex.neq rfl rfl) ?_
  refine WL.next ?_
  refine WC.condF rfl (by simp) ?_
  refine WC.skip ?_
  refine WN.next ?_
  refine WC.seq ?_
  refine WC.region ?_
  refine WL.u rfl rfl (Wt.plain rfl) (Ex.move rfl) ?_
  refine WL.call callable19 rfl (Wt.plain rfl) rfl rfl (toStringS _ _ _ _ (hg.kept hH.keep) hgl) ?_
  rintro _ wn ⟨hC, hN⟩; obtain ⟨b104, cap104, cur104, rfl, hge, hbb, ho104⟩ := hN.own; replace hH := hH.push hC hge hbb
  refine WL.u rfl rfl (Wt.plain rfl) (Ex.move rfl) ?_
  refine WL.call callable20 rfl (Wt.plain rfl) rfl rfl (iAskOf g _ _ set _ (ho104.slAt hH 0 rfl) hs) ?_
  rintro _ wn ⟨x, rfl, hC, hN⟩; obtain ⟨b81, cap81, cur81, rfl, hge81, hbb81, ho81⟩ := hN.own; replace hH := hH.push hC hge81 hbb81; clear hC hN
  refine WL.u rfl rfl (Wt.plain rfl) (Ex.move rfl) ?_
  refine WL.u rfl rfl (Wt.plain rfl) (Ex.extract rfl rfl) ?_
  refine WL.u rfl rfl (Wt.plain rfl) (Ex.extract rfl rfl) ?_
  refine WL.u rfl rfl (Wt.plain rfl) (Ex.assign rfl) ?_
  refine WL.u rfl rfl (Wt.plain rfl) (Ex.assign rfl) ?_
  refine WL.next ?_
  refine WC.seq ?_
  refine WC.seq ?_
  refine WC.region ?_
  refine WL.u rfl rfl (Wt.plain rfl) (Ex.move rfl) ?_
  refine WL.u rfl rfl (Wt.plain rfl) (Ex.move rfl) ?_
  refine WL.call callable21 rfl (Wt.plain rfl) rfl rfl (eqIntS ((askOf g set).1) ((askOf g set).1) _ _ _ _ _ (ho81.slAt hH 0 rfl) (ho25.slAt hH 5 rfl)) ?_
  rintro _ wn ⟨rfl, hC⟩; replace hH := hH.dr hC; clear hC
  refine WL.u rfl rfl (Wt.plain rfl) (Ex.not rfl) ?_
  refine WL.u rfl rfl (Wt.plain rfl) (Ex.move rfl) ?_
  refine WL.split (t := 88) rfl (fun hg25_4 => ?_) (fun hg25_4 => ?_)
  · exfalso; simp at hg25_4
  have hg25_4' := hg25_4; try simp only [decide_eq_true_eq, decide_eq_false_iff_not, Bool.not_eq_true', Bool.not_eq_false', Bool.not_eq_true, Bool.not_eq_false] at hg25_4'
  refine WL.u rfl rfl (Wt.guard' rfl rfl rfl hg25_4 rfl) (Ex.move rfl) ?_
  refine WL.u rfl rfl (Wt.guard' rfl rfl rfl hg25_4 rfl) (Ex.move rfl) ?_
  refine WL.u rfl rfl (Wt.guard' rfl rfl rfl hg25_4 rfl) (Ex.neqB Try.underlying4 rfl rfl) ?_
  refine WL.u rfl rfl (Wt.plain rfl) (Ex.pickF rfl hg25_4 rfl) ?_
  refine WL.next ?_
  refine WC.condF rfl (by simp) ?_
  refine WC.skip ?_
  refine WN.next ?_
  refine WC.seq ?_
  refine WC.region ?_
  refine WL.u rfl rfl (Wt.plain rfl) (Ex.assign rfl) ?_
  refine WL.next ?_
  refine WC.seq ?_
  refine WC.region ?_
  refine WL.u rfl rfl (Wt.plain rfl) (Ex.move rfl) ?_
  refine WL.u rfl rfl (Wt.plain rfl) (Ex.move rfl) ?_
  refine WL.call callable25 rfl (Wt.plain rfl) rfl rfl (heldIntS (some ⟨b33, 0, none⟩) cap33 1 ((askOf g set).1).length _ (ho33.slAt hH 2 rfl) (by omega) (by omega)) ?_
  rintro _ _ ⟨rfl, hw⟩; obtain rfl := hw.symm
  refine WL.u rfl rfl (Wt.plain rfl) (Ex.assign rfl) ?_
  refine WL.next ?_
  refine WC.seq ?_
  refine WC.seq ?_
  refine WC.region ?_
  refine WL.u rfl rfl (Wt.plain rfl) (Ex.move rfl) ?_
  refine WL.u rfl rfl (Wt.plain rfl) (Ex.lss rfl rfl) ?_
  refine WL.next ?_
  refine WC.condF rfl (decide_eq_false (by omega)) ?_
  refine WC.skip ?_
  refine WN.next ?_
  refine WC.seq ?_
  refine WC.seq ?_
  refine WC.region ?_
  refine WL.u rfl rfl (Wt.plain rfl) (Ex.move rfl) ?_
  refine WL.u rfl rfl (Wt.plain rfl) (Ex.move rfl) ?_
  refine WL.u rfl rfl (Wt.plain rfl) (Ex.neq rfl rfl) ?_
  refine WL.next ?_
  refine WC.condF rfl (by simp) ?_
  refine WC.skip ?_
  refine WN.next ?_
  refine WC.seq ?_
  refine WC.region ?_
  refine WL.u rfl rfl (Wt.plain rfl) (Ex.assign rfl) ?_
  refine WL.next ?_
  refine WC.ret ?_
  refine WN.body1 rfl rfl ?_
  exact ⟨rfl, hH.keep⟩

theorem lawAskOf (a : Option Addr) (l : List UInt8) (cap : Nat) (w : World) (hc : Sl rByte w a l) (hcap : l.length ≤ cap) : Fn Try.prog 10 [.slice a l.length cap] w (fun v w1 => v = .bool true ∧ Keep [] w w1) := by
  refine Fn.enter (n := 84) Try.func10 rfl rfl rfl ?_
  show WC _ _ _ _ [(0, .slice a l.length cap)] _
  have hH := Hp.start [] w
  refine WC.seq ?_
  refine WC.region ?_
  refine WL.u rfl rfl (Wt.plain rfl) (Ex.assign rfl) ?_
  refine WL.next ?_
  refine WC.seq ?_
  refine WC.seq ?_
  refine WC.region ?_
  refine WL.u rfl rfl (Wt.plain rfl) (Ex.move rfl) ?_
  refine WL.u rfl rfl (Wt.plain rfl) (Ex.lenSl Try.underlying38 rfl) ?_
  refine WL.u rfl rfl (Wt.plain rfl) (Ex.gtr rfl rfl) ?_
  refine WL.next ?_
  refine WC.cond rfl (fun hc1 => ?_) (fun hc1 => ?_)
  · have hc1' := hc1; try simp only [decide_eq_true_eq, decide_eq_false_iff_not, Bool.not_eq_true', Bool.not_eq_false', Bool.not_eq_true, Bool.not_eq_false] at hc1'
    refine WC.seq ?_
    refine WC.region ?_
    refine WL.u rfl rfl (Wt.plain rfl) (Ex.assign rfl) ?_
    refine WL.next ?_
    refine WC.ret ?_
    refine WN.retThen ?_
    refine WN.body1 rfl rfl ?_
    exact ⟨rfl, hH.keep⟩
  have hc1' := hc1; try simp only [decide_eq_true_eq, decide_eq_false_iff_not, Bool.not_eq_true', Bool.not_eq_false', Bool.not_eq_true, Bool.not_eq_false] at hc1'
  refine WC.skip ?_
  refine WN.next ?_
  refine WC.seq ?_
  refine WC.region ?_
  refine WL.u rfl rfl (Wt.plain rfl) (Ex.move rfl) ?_
  refine WL.call callable38 rfl (Wt.plain rfl) rfl rfl (sDrawAskOf _ _ _ _ (hc.kept hH.keep) hcap) ?_
  rintro _ wn ⟨g, set, x, rfl, hC, hN, hgl, hgr, hset⟩; obtain ⟨b18, cap18, cur18, rfl, hge18, hbb18, ho18⟩ := hN.own; replace hH := hH.push hC hge18 hbb18; clear hC hN; have hs := short_of hgr (by omega)
  refine WL.u rfl rfl (Wt.plain rfl) (Ex.move rfl) ?_
  refine WL.u rfl rfl (Wt.plain rfl) (Ex.extract rfl rfl) ?_
  refine WL.u rfl rfl (Wt.plain rfl) (Ex.extract rfl rfl) ?_
  refine WL.u rfl rfl (Wt.plain rfl) (Ex.assign rfl) ?_
  refine WL.u rfl rfl (Wt.plain rfl) (Ex.assign rfl) ?_
  refine WL.next ?_
  refine WC.seq ?_
  rcases hx : askOf g (set : Int) with ⟨out, ok⟩
  refine WC.region ?_
  refine WL.u rfl rfl (Wt.plain rfl) (Ex.move rfl) ?_
  refine WL.u rfl rfl (Wt.plain rfl) (Ex.move rfl) ?_
  refine WL.call callable20 rfl (Wt.plain rfl) rfl rfl (iAskOf g _ _ (set : Int) _ (ho18.slAt hH 0 rfl) hs) ?_
  rintro _ wn ⟨x, hv, hC, hN⟩; rw [hx] at hv hN; dsimp only at hv hN; subst hv; obtain ⟨b22, cap22, cur22, rfl, hge22, hbb22, ho22⟩ := hN.own; replace hH := hH.push hC hge22 hbb22; clear hC hN
  refine WL.u rfl rfl (Wt.plain rfl) (Ex.move rfl) ?_
  refine WL.u rfl rfl (Wt.plain rfl) (Ex.extract rfl rfl) ?_
  refine WL.u rfl rfl (Wt.plain rfl) (Ex.extract rfl rfl) ?_
  refine WL.u rfl rfl (Wt.plain rfl) (Ex.assign rfl) ?_
  refine WL.u rfl rfl (Wt.plain rfl) (Ex.assign rfl) ?_
  refine WL.next ?_
  refine WC.seq ?_
  refine WC.region ?_
  refine WL.u rfl rfl (Wt.plain rfl) (Ex.move rfl) ?_
  refine WL.u rfl rfl (Wt.plain rfl) (Ex.move rfl) ?_
  refine WL.call callable18 rfl (Wt.plain rfl) rfl rfl (sAskOf g _ _ (set : Int) _ (ho18.slAt hH 1 rfl) hs) ?_
  rintro _ wn ⟨x, hv, hC, hN⟩; rw [hx] at hv hN; dsimp only at hv hN; subst hv; obtain ⟨b28, cap28, cur28, rfl, hge28, hbb28, ho28⟩ := hN.own; replace hH := hH.push hC hge28 hbb28; clear hC hN
  refine WL.u rfl rfl (Wt.plain rfl) (Ex.move rfl) ?_
  refine WL.u rfl rfl (Wt.plain rfl) (Ex.extract rfl rfl) ?_
  refine WL.u rfl rfl (Wt.plain rfl) (Ex.extract rfl rfl) ?_
  refine WL.u rfl rfl (Wt.plain rfl) (Ex.assign rfl) ?_
  refine WL.u rfl rfl (Wt.plain rfl) (Ex.assign rfl) ?_
  refine WL.next ?_
  refine WC.seq ?_
  refine WC.seq ?_
  refine WC.region ?_
  refine WL.u rfl rfl (Wt.plain rfl) (Ex.move rfl) ?_
  refine WL.u rfl rfl (Wt.plain rfl) (Ex.move rfl) ?_
  refine WL.u rfl rfl (Wt.plain rfl) (Ex.neqB Try.underlying4 rfl rfl) ?_
  refine WL.u rfl rfl (Wt.plain rfl) (Ex.move rfl) ?_
  refine WL.split (t := 36) rfl (fun hg6_3 => ?_) (fun hg6_3 => ?_)
  · exfalso; simp at hg6_3
  have hg6_3' := hg6_3; try simp only [decide_eq_true_eq, decide_eq_false_iff_not, Bool.not_eq_true', Bool.not_eq_false', Bool.not_eq_true, Bool.not_eq_false] at hg6_3'
  refine WL.u rfl rfl (Wt.guard' rfl rfl rfl hg6_3 rfl) (Ex.move rfl) ?_
  refine WL.u rfl rfl (Wt.guard' rfl rfl rfl hg6_3 rfl) (Ex.move rfl) ?_
  refine WL.call callable39 rfl (Wt.guard' rfl rfl rfl hg6_3 rfl) rfl rfl (sameInts out out _ _ _ _ _ (ho22.slAt hH 1 rfl) (ho28.slAt hH 0 rfl)) ?_
  rintro _ wn ⟨rfl, hC⟩; replace hH := hH.dr hC; clear hC
  refine WL.u rfl rfl (Wt.guard' rfl rfl rfl hg6_3 rfl) (Ex.not rfl) ?_
  refine WL.u rfl rfl (Wt.plain rfl) (Ex.pickF rfl hg6_3 rfl) ?_
  refine WL.u rfl rfl (Wt.plain rfl) (Ex.move rfl) ?_
  refine WL.split (t := 42) rfl (fun hg6_9 => ?_) (fun hg6_9 => ?_)
  · exfalso; simp at hg6_9
  have hg6_9' := hg6_9; try simp only [decide_eq_true_eq, decide_eq_false_iff_not, Bool.not_eq_true', Bool.not_eq_false', Bool.not_eq_true, Bool.not_eq_false] at hg6_9'
  refine WL.u rfl rfl (Wt.guard' rfl rfl rfl hg6_9 rfl) (Ex.move rfl) ?_
  refine WL.u rfl rfl (Wt.guard' rfl rfl rfl hg6_9 rfl) (Ex.not rfl) ?_
  refine WL.u rfl rfl (Wt.plain rfl) (Ex.pickF rfl hg6_9 rfl) ?_
  refine WL.next ?_
  refine WC.cond rfl (fun hc2 => ?_) (fun hc2 => ?_)
  · have hc2' := hc2; try simp only [decide_eq_true_eq, decide_eq_false_iff_not, Bool.not_eq_true', Bool.not_eq_false', Bool.not_eq_true, Bool.not_eq_false] at hc2'
    refine WC.seq ?_
    refine WC.region ?_
    refine WL.u rfl rfl (Wt.plain rfl) (Ex.move rfl) ?_
    refine WL.u rfl rfl (Wt.plain rfl) (Ex.move rfl) ?_
    refine WL.u rfl rfl (Wt.plain rfl) (Ex.eqlB Try.underlying4 rfl rfl) ?_
    refine WL.u rfl rfl (Wt.plain rfl) (Ex.move rfl) ?_
    refine WL.split (t := 49) rfl (fun hg7_3 => ?_) (fun hg7_3 => ?_)
    · have hg7_3' := hg7_3; try simp only [decide_eq_true_eq, decide_eq_false_iff_not, Bool.not_eq_true', Bool.not_eq_false', Bool.not_eq_true, Bool.not_eq_false] at hg7_3'
      refine WL.u rfl rfl (Wt.guard' rfl rfl rfl hg7_3 rfl) (Ex.move rfl) ?_
      refine WL.u rfl rfl (Wt.guard' rfl rfl rfl hg7_3 rfl) (Ex.move rfl) ?_
      refine WL.call callable39 rfl (Wt.guard' rfl rfl rfl hg7_3 rfl) rfl rfl (sameInts out out _ _ _ _ _ (ho22.slAt hH 1 rfl) (ho28.slAt hH 0 rfl)) ?_
      rintro _ wn ⟨rfl, hC⟩; replace hH := hH.dr hC; clear hC
      refine WL.u rfl rfl (Wt.plain rfl) (Ex.pickT rfl hg7_3 rfl) ?_
      refine WL.u rfl rfl (Wt.plain rfl) (Ex.assign rfl) ?_
      refine WL.next ?_
      refine WC.ret ?_
      refine WN.retThen ?_
      refine WN.body1 rfl rfl ?_
      exact ⟨congrArg Value.bool (decide_eq_true rfl), hH.keep⟩
    exfalso; simp at hg7_3
  have hc2' := hc2; try simp only [decide_eq_true_eq, decide_eq_false_iff_not, Bool.not_eq_true', Bool.not_eq_false', Bool.not_eq_true, Bool.not_eq_false] at hc2'
  have hok : ok = true := by simpa using hc2
  subst hok
  obtain ⟨hG, h4, rfl⟩ := askOf_ex hx
  have hA := setL_ok hG h4 set
  have h81 := fits_le hA
  have hone := setL_one hG set
  have hp81 := hA.pow
  have hfa := askFit_at hA
  have hmI : (g.length : Int) * ((g.getD 0 []).length : Int) = ((nR g * nC g : Nat) : Int) := (Int.natCast_mul _ _).symm
  have hc25 := cells_le hG
  have hn1 := hG.n1
  have hn5 := hG.n5
  have hm5 := hG.m5
  refine WC.skip ?_
  refine WN.next ?_
  refine WC.seq ?_
  refine WC.region ?_
  refine WL.u rfl rfl (Wt.plain rfl) (Ex.move rfl) ?_
  refine WL.u rfl rfl (Wt.plain rfl) (Ex.lenSl Try.underlying22 rfl) ?_
  refine WL.u rfl rfl (Wt.plain rfl) (Ex.assign rfl) ?_
  refine WL.next ?_
  refine WC.seq ?_
  refine WC.region ?_
  refine WL.u rfl rfl (Wt.plain rfl) (Ex.move rfl) ?_
  refine WL.u rfl rfl (Wt.plain rfl) (Ex.indexAddr Try.underlying22 ty9 rfl rfl (by omega)) ?_
  replace hH := hH.f2
  refine WL.u rfl rfl (Wt.plain rfl) (Ex.loadHp flat9 rfl hH (ho18.get rfl (getD_get g 0 [] (by omega)))) ?_
  refine WL.u rfl rfl (Wt.plain rfl) (Ex.lenStr Try.underlying9 rfl) ?_
  refine WL.u rfl rfl (Wt.plain rfl) (Ex.assign rfl) ?_
  refine WL.next ?_
  refine WC.seq ?_
  refine WC.region ?_
  refine WL.u rfl rfl (Wt.plain rfl) (Ex.move rfl) ?_
  refine WL.u rfl rfl (Wt.plain rfl) (Ex.move rfl) ?_
  refine WL.u rfl rfl (Wt.plain rfl) (Ex.move rfl) ?_
  refine WL.call callable28 rfl (Wt.plain rfl) rfl rfl (iAskFit (nR g) (nC g) (setL g set (ports g)) _ _ _ (ho22.slAt hH 2 rfl)) ?_
  rintro _ wn ⟨hv, hC⟩; rw [hfa] at hv; dsimp only at hv; subst hv; replace hH := hH.call hC; clear hC
  refine WL.u rfl rfl (Wt.plain rfl) (Ex.move rfl) ?_
  refine WL.u rfl rfl (Wt.plain rfl) (Ex.extract rfl rfl) ?_
  refine WL.u rfl rfl (Wt.plain rfl) (Ex.extract rfl rfl) ?_
  refine WL.u rfl rfl (Wt.plain rfl) (Ex.assign rfl) ?_
  refine WL.u rfl rfl (Wt.plain rfl) (Ex.assign rfl) ?_
  refine WL.next ?_
  refine WC.seq ?_
  refine WC.region ?_
  refine WL.u rfl rfl (Wt.plain rfl) (Ex.move rfl) ?_
  refine WL.u rfl rfl (Wt.plain rfl) (Ex.move rfl) ?_
  refine WL.u rfl rfl (Wt.guard' rfl rfl rfl (rfl) rfl) (Ex.move rfl) ?_
  refine WL.u rfl rfl (Wt.guard' rfl rfl rfl (rfl) rfl) (Ex.geq rfl rfl) ?_
  refine WL.u rfl rfl (Wt.plain rfl) (Ex.pickT rfl (rfl) rfl) ?_
  refine WL.u rfl rfl (Wt.plain rfl) (Ex.move rfl) ?_
  refine WL.u rfl rfl (Wt.guard' rfl rfl rfl (decide_eq_true (by omega)) rfl) (Ex.move rfl) ?_
  refine WL.u rfl rfl (Wt.guard' rfl rfl rfl (decide_eq_true (by omega)) rfl) (Ex.gtr rfl rfl) ?_
  refine WL.u rfl rfl (Wt.guard' rfl rfl rfl (decide_eq_true (by omega)) rfl) (Ex.move rfl) ?_
  refine WL.split (t := 75) rfl (fun hg11_8 => ?_) (fun hg11_8 => ?_)
  · have hg11_8' := hg11_8; try simp only [decide_eq_true_eq, decide_eq_false_iff_not, Bool.not_eq_true', Bool.not_eq_false', Bool.not_eq_true, Bool.not_eq_false] at hg11_8'
    refine WL.pass rfl rfl (Wt.guard' rfl rfl rfl hg11_8 rfl) ?_
    refine WL.pass rfl rfl (Wt.guard' rfl rfl rfl hg11_8 rfl) ?_
    refine WL.pass rfl rfl (Wt.guard' rfl rfl rfl hg11_8 rfl) ?_
    refine WL.pass rfl rfl (Wt.guard' rfl rfl rfl hg11_8 rfl) ?_
    refine WL.pass rfl rfl (Wt.guard' rfl rfl rfl hg11_8 rfl) ?_
    refine WL.pass rfl rfl (Wt.guard' rfl rfl rfl hg11_8 rfl) ?_
    refine WL.u rfl rfl (Wt.guard' rfl rfl rfl (decide_eq_true (by omega)) rfl) (Ex.pickT rfl hg11_8 rfl) ?_
    refine WL.u rfl rfl (Wt.plain rfl) (Ex.pickT rfl (decide_eq_true (by omega)) rfl) ?_
    refine WL.u rfl rfl (Wt.plain rfl) (Ex.assign rfl) ?_
    refine WL.next ?_
    refine WC.ret ?_
    refine WN.body1 rfl rfl ?_
    exact ⟨rfl, hH.keep⟩
  have hg11_8' := hg11_8; try simp only [decide_eq_true_eq, decide_eq_false_iff_not, Bool.not_eq_true', Bool.not_eq_false', Bool.not_eq_true, Bool.not_eq_false] at hg11_8'
  have hs0 : set = 0 := by omega
  have hz3 : (fits (nR g) (nC g) (setL g set (ports g))).length = 3 ^ (nR g * nC g) := by rw [hs0]; exact setL_zero hG
  refine WL.u rfl rfl (Wt.guard' rfl rfl rfl hg11_8 rfl) (Ex.move rfl) ?_
  refine WL.u rfl rfl (Wt.guard' rfl rfl rfl hg11_8 rfl) (Ex.move rfl) ?_
  refine WL.u rfl rfl (Wt.guard' rfl rfl rfl hg11_8 rfl) (Ex.move rfl) ?_
  refine WL.u rfl rfl (Wt.guard' rfl rfl rfl hg11_8 rfl) ((Ex.mul rfl rfl (by omega)).to (congrArg (Value.int IntKind.i64) hmI)) ?_
  refine WL.call callable37 rfl (Wt.guard' rfl rfl rfl hg11_8 rfl) rfl rfl (power 3 (nR g * nC g) _ _ rfl (by omega) (by omega) (by omega) (by omega)) ?_
  rintro _ _ ⟨rfl, hw⟩; obtain rfl := hw.symm
  refine WL.u rfl rfl (Wt.guard' rfl rfl rfl hg11_8 rfl) (Ex.eql rfl rfl) ?_
  refine WL.u rfl rfl (Wt.guard' rfl rfl rfl (decide_eq_true (by omega)) rfl) (Ex.pickF rfl hg11_8 rfl) ?_
  refine WL.u rfl rfl (Wt.plain rfl) (Ex.pickT rfl (decide_eq_true (by omega)) rfl) ?_
  refine WL.u rfl rfl (Wt.plain rfl) (Ex.assign rfl) ?_
  refine WL.next ?_
  refine WC.ret ?_
  refine WN.body1 rfl rfl ?_
  exact ⟨congrArg Value.bool (decide_eq_true (by rw [hz3])), hH.keep⟩

end Go.Proofs.Ytmlefpddjfonlaa
