/- The program's search, whole; the reference's. -/
import Derived.Test.YtjejdebmlgjdeaaGoJ
import Derived.Test.YtjejdebmlgjdeaaAimU
namespace Go.Proofs.Ytjejdebmlgjdeaa
set_option maxRecDepth 100000
set_option linter.unusedSimpArgs false
set_option linter.unusedVariables false
open Go Go.RowKit
/-- the search, by the fuel -/
theorem igoAll (q p : Nat) (g : Grid) (a : Option Addr) (cap ba bm : Nat) : ∀ f, IHgo q p f g a cap ba bm
  | 0 => fun h M F s c b w hg ho hne hst hI => absurd (hI.en.pos hI.hH hI.hp) (by omega)
  | f + 1 => fun h M F s c b w hg ho hne hst hI =>
    igoOn g h a cap ba bm q p f M F s c b w (fun h M F s c b w hg ho hne hst hI hs => ileave g h a cap ba bm q p f M F s c b w (igoAll q p g a cap ba bm f) hg ho hne hst hI hs) hg ho hne hst hI
theorem GoInv.start {g : Grid} {p : Nat} (hG : GridOk g) (hp : p < ports g) : GoInv p (4 * (nR g * nC g)) g g [] (List.replicate (nR g * nC g) false) (enterN (nR g) (nC g) p) 0 100 :=
  ⟨hG, hG, rfl, rfl, hp, by simp, Enough.start g _, fun _ _ _ => rfl, fun cell _ => by rw [replicate_false]; simp, Nat.le_refl _, by have := cntF_le (List.replicate (nR g * nC g) false); simp at this; omega⟩
def aimGo (g : Grid) (p q : Int) : Int × Bool := if aimB g p q 9 = true then (((least g p.toNat q.toNat : Nat) : Int), true) else (0, false)
theorem aimGo_not {g : Grid} {p q : Int} (h : aimB g p q 9 = false) : aimGo g p q = (0, false) := by unfold aimGo; rw [if_neg (by rw [h]; decide)]
theorem aimGo_at {g : Grid} {p q : Nat} (h : aimB g p q 9 = true) : aimGo g p q = (((least g p q : Nat) : Int), true) := by unfold aimGo; rw [if_pos h]; rfl

set_option maxHeartbeats 1000000 in
theorem iAimGo (g : Grid) (a : Option Addr) (cap : Nat) (p q : Int) (w : World) (hg : Sl rStr w a g) (hs : Short g) : Fn Try.prog 18 [.slice a g.length cap, vint p, vint q] w (fun v w1 => v = .tuple #[vint (aimGo g p q).1, .bool (aimGo g p q).2] ∧ Keep [] w w1) := by
  refine Fn.enter (n := 36) Try.func18 rfl rfl rfl ?_
  show WC _ _ _ _ [(0, .slice a g.length cap), (1, vint p), (2, vint q)] _
  have hH := Hp.start [] w
  refine WC.seq ?_
  refine WC.region ?_
  refine WL.u rfl rfl (Wt.plain rfl) (Ex.assign rfl) ?_
  refine WL.u rfl rfl (Wt.plain rfl) (Ex.assign rfl) ?_
  refine WL.next ?_
  refine WC.seq ?_
  refine WC.seq ?_
  refine WC.region ?_
  refine WL.u rfl rfl (Wt.plain rfl) (Ex.move rfl) ?_
  refine WL.u rfl rfl (Wt.plain rfl) (Ex.move rfl) ?_
  refine WL.u rfl rfl (Wt.plain rfl) (Ex.move rfl) ?_
  refine WL.call callable48 rfl (Wt.plain rfl) rfl rfl (iaimOk _ _ _ _ _ _ _ (hg.kept hH.keep) hs) ?_
  rintro _ _ ⟨rfl, hw⟩; obtain rfl := hw.symm
  refine WL.u rfl rfl (Wt.plain rfl) (Ex.not rfl) ?_
  refine WL.next ?_
  refine WC.cond rfl (fun hc1 => ?_) (fun hc1 => ?_)
  · have hc1' := hc1; try simp only [decide_eq_true_eq, decide_eq_false_iff_not, Bool.not_eq_true', Bool.not_eq_false', Bool.not_eq_true, Bool.not_eq_false] at hc1'
    have hai : aimB g p q 9 = false := by simpa using hc1
    refine WC.seq ?_
    refine WC.region ?_
    refine WL.u rfl rfl (Wt.plain rfl) (Ex.assign rfl) ?_
    refine WL.u rfl rfl (Wt.plain rfl) (Ex.assign rfl) ?_
    refine WL.next ?_
    refine WC.ret ?_
    refine WN.retThen ?_
    refine WN.body2 rfl rfl rfl ?_
    exact ⟨by rw [aimGo_not hai] <;> rfl, hH.keep⟩
  have hc1' := hc1; try simp only [decide_eq_true_eq, decide_eq_false_iff_not, Bool.not_eq_true', Bool.not_eq_false', Bool.not_eq_true, Bool.not_eq_false] at hc1'
  have hai : aimB g p q 9 = true := by simpa using hc1
  obtain ⟨hG, p, q, rfl, rfl, hp, hq, hpq, h6⟩ := aimB_ex hai
  have h9 : nR g * nC g ≤ 9 := by omega
  have hlt := least_lt hG hp hq hpq h9
  obtain ⟨h1, h2, h3, h4, _, _⟩ := id hG
  obtain ⟨b, off, rfl⟩ := hg.addr (by omega)
  have hgl : g.length ≤ 5 := h2
  have hbi : bestI (least g p q) = (least g p q : Int) := by unfold bestI; rw [if_neg (by omega)]
  refine WC.skip ?_
  refine WN.next ?_
  refine WC.seq ?_
  refine WC.region ?_
  refine WL.u rfl rfl (Wt.plain rfl) (Ex.move rfl) ?_
  refine WL.lit0 Try.underlying22 ty9 rfl (Wt.plain rfl) hH (fun b15 wn hb15 hk15 hH => ?_)
  have ho15 := Own.nil rStr
  refine WL.u rfl rfl (Wt.plain rfl) (Ex.move rfl) ?_
  refine WL.appendS (r := rStr) (m := g) Try.underlying22 ty9 rfl rfl rfl ((hg.kept hH.keep)) rfl (Wt.plain rfl) hH ho15 (by simp only [List.length_nil]; omega) (by simp only [List.length_nil]; omega) (fun b15 cap15 cur15 wn x15 hk15 hH ho15 => ?_)
  rw [List.nil_append] at ho15
  refine WL.makeMap rfl (Wt.plain rfl) hH (fun b18 wn hb18 hk18 hH => ?_)
  refine WL.u rfl rfl (Wt.plain rfl) (Ex.move rfl) ?_
  refine WL.u rfl rfl (Wt.plain rfl) (Ex.buildS bd55 rfl rfl rfl rfl rfl) ?_
  refine WL.box rfl rfl rfl (Wt.plain rfl) hH (fun b21 wn hb21 hk21 hH => ?_)
  refine WL.u rfl rfl (Wt.plain rfl) (Ex.assign rfl) ?_
  refine WL.next ?_
  refine WC.seq ?_
  refine WC.region ?_
  refine WL.u rfl rfl (Wt.plain rfl) (Ex.move rfl) ?_
  refine WL.u rfl rfl (Wt.plain rfl) (Ex.move rfl) ?_
  refine WL.u rfl rfl (Wt.plain rfl) (Ex.move rfl) ?_
  refine WL.call callable50 rfl (Wt.plain rfl) rfl rfl (ienter _ _ _ _ _ (hg.kept hH.keep) hG hp) ?_
  rintro _ wn ⟨rfl, hC⟩; replace hH := hH.call hC; clear hC
  replace hH := hH.f1
  replace hH := hH.f1
  refine WL.call callable49 rfl (Wt.plain rfl) rfl rfl (igoAll q p g _ cap b21 b18 (4 * (nR g * nC g)) g [] (List.replicate (nR g * nC g) false) (enterN (nR g) (nC g) p) 0 100 _ (hg.kept hH.keep) (hg.offAll (by intro k hk; simp only [List.mem_cons, List.not_mem_nil, or_false] at hk; rcases hk with rfl | rfl; exact hH.base 0 rfl; exact hH.base 1 rfl)) (fun e => hH.nin 0 1 rfl rfl rfl (by rw [e]; simp)) ⟨b15, cap15, cur15, #[], 0, hH.at 0 rfl, hH.at 1 rfl, MapI.nil, hH.nin2 2 0 1 rfl rfl rfl rfl rfl, hH.at 2 rfl, ho15⟩ (GoInv.start hG hp)) ?_
  rintro _ wn ⟨hK, bn2, capn2, cur2, es2, ck2, hba2, hbm2, hM2, hbn2, hbnh2, hon2⟩; rw [show bestI (goM q (4 * (nR g * nC g)) g (List.replicate (nR g * nC g) false) (enterN (nR g) (nC g) p) 0 100) = (least g p q : Int) from hbi] at hba2; replace hH := hH.turn2 hK hba2 hbm2
  refine WL.next ?_
  refine WC.seq ?_
  refine WC.seq ?_
  refine WC.region ?_
  refine WL.u rfl rfl (Wt.plain rfl) (Ex.move rfl) ?_
  refine WL.u rfl rfl (Wt.plain rfl) (Ex.nilCheck rfl) ?_
  refine WL.u rfl rfl (Wt.plain rfl) (Ex.fieldAddr fd55_4 rfl) ?_
  refine WL.u rfl rfl (Wt.plain rfl) (Ex.loadHp flat3 rfl hH rfl) ?_
  refine WL.u rfl rfl (Wt.plain rfl) (Ex.lss rfl rfl) ?_
  refine WL.next ?_
  refine WC.condF rfl (decide_eq_false (by omega)) ?_
  refine WC.skip ?_
  refine WN.next ?_
  refine WC.seq ?_
  refine WC.region ?_
  refine WL.u rfl rfl (Wt.plain rfl) (Ex.move rfl) ?_
  refine WL.u rfl rfl (Wt.plain rfl) (Ex.nilCheck rfl) ?_
  refine WL.u rfl rfl (Wt.plain rfl) (Ex.fieldAddr fd55_4 rfl) ?_
  refine WL.u rfl rfl (Wt.plain rfl) (Ex.loadHp flat3 rfl hH rfl) ?_
  refine WL.u rfl rfl (Wt.plain rfl) (Ex.assign rfl) ?_
  refine WL.u rfl rfl (Wt.plain rfl) (Ex.assign rfl) ?_
  refine WL.next ?_
  refine WC.ret ?_
  refine WN.body2 rfl rfl rfl ?_
  exact ⟨by rw [aimGo_at hai] <;> rfl, hH.keep⟩

theorem sl9Least (g : Grid) (a : Option Addr) (cap p q : Nat) (w : World) (hg : Sl rStr w a g) (hG : GridOk g) (hp : p < ports g) : Fn Try.prog 47 [.slice a g.length cap, vint p, vint q] w (fun v w1 => v = vint (least g p q) ∧ Keep [] w w1) := by
  refine Fn.enter (n := 36) Try.func47 rfl rfl rfl ?_
  show WC _ _ _ _ [(0, .slice a g.length cap), (1, vint p), (2, vint q)] _
  have hH := Hp.start [] w
  obtain ⟨h1, h2, h3, h4, _, _⟩ := id hG
  obtain ⟨b, off, rfl⟩ := hg.addr (by omega)
  have hmI : (g.length : Int) * ((g.getD 0 []).length : Int) = ((nR g * nC g : Nat) : Int) := (Int.natCast_mul _ _).symm
  have hle : nR g * nC g ≤ 25 := Nat.mul_le_mul h2 h4
  refine WC.seq ?_
  refine WC.region ?_
  refine WL.u rfl rfl (Wt.plain rfl) (Ex.assign rfl) ?_
  refine WL.next ?_
  refine WC.seq ?_
  refine WC.region ?_
  refine WL.u rfl rfl (Wt.plain rfl) (Ex.move rfl) ?_
  refine WL.u rfl rfl (Wt.plain rfl) (Ex.lenSl Try.underlying22 rfl) ?_
  refine WL.u rfl rfl (Wt.plain rfl) (Ex.move rfl) ?_
  refine WL.u rfl rfl (Wt.plain rfl) (Ex.indexAddr Try.underlying22 ty9 rfl rfl (by omega)) ?_
  refine WL.u rfl rfl (Wt.plain rfl) (Ex.loadSl flat9 (hg.kept hH.keep) rfl rfl (getD_get g 0 [] (by omega))) ?_
  refine WL.u rfl rfl (Wt.plain rfl) (Ex.lenStr Try.underlying9 rfl) ?_
  refine WL.u rfl rfl (Wt.plain rfl) (Ex.move rfl) ?_
  refine WL.call callable83 rfl (Wt.plain rfl) rfl rfl (sl2Enter g.length (g.getD 0 []).length p _ (by omega) (by omega) (by omega) (by omega) hp) ?_
  rintro _ _ ⟨rfl, hw⟩; obtain rfl := hw.symm
  refine WL.u rfl rfl (Wt.plain rfl) (Ex.move rfl) ?_
  refine WL.u rfl rfl (Wt.plain rfl) (Ex.extract rfl rfl) ?_
  refine WL.u rfl rfl (Wt.plain rfl) (Ex.extract rfl rfl) ?_
  refine WL.u rfl rfl (Wt.plain rfl) (Ex.extract rfl rfl) ?_
  refine WL.u rfl rfl (Wt.plain rfl) (Ex.assign rfl) ?_
  refine WL.u rfl rfl (Wt.plain rfl) (Ex.assign rfl) ?_
  refine WL.u rfl rfl (Wt.plain rfl) (Ex.assign rfl) ?_
  refine WL.next ?_
  refine WC.seq ?_
  refine WC.region ?_
  refine WL.u rfl rfl (Wt.plain rfl) (Ex.move rfl) ?_
  refine WL.u rfl rfl (Wt.plain rfl) (Ex.move rfl) ?_
  refine WL.u rfl rfl (Wt.plain rfl) (Ex.lenSl Try.underlying22 rfl) ?_
  refine WL.u rfl rfl (Wt.plain rfl) (Ex.move rfl) ?_
  refine WL.u rfl rfl (Wt.plain rfl) (Ex.indexAddr Try.underlying22 ty9 rfl rfl (by omega)) ?_
  refine WL.u rfl rfl (Wt.plain rfl) (Ex.loadSl flat9 (hg.kept hH.keep) rfl rfl (getD_get g 0 [] (by omega))) ?_
  refine WL.u rfl rfl (Wt.plain rfl) (Ex.lenStr Try.underlying9 rfl) ?_
  refine WL.u rfl rfl (Wt.plain rfl) ((Ex.mul rfl rfl (by omega)).to (congrArg (Value.int IntKind.i64) hmI)) ?_
  refine WL.makeSlice Try.underlying96 ty4 rfl rfl (by omega) (by omega) rfl (Wt.plain rfl) hH (fun b30 wn hb30 hk30 hH => ?_)
  have ho30 := Own.made rBool false rfl rfl (k := nR g * nC g) (by omega)
  refine WL.u rfl rfl (Wt.plain rfl) (Ex.move rfl) ?_
  refine WL.u rfl rfl (Wt.plain rfl) (Ex.move rfl) ?_
  refine WL.u rfl rfl (Wt.plain rfl) (Ex.move rfl) ?_
  refine WL.u rfl rfl (Wt.plain rfl) (Ex.move rfl) ?_
  refine WL.call callable84 rfl (Wt.plain rfl) rfl rfl (goIH q p (4 * (nR g * nC g)) g _ cap (List.replicate (nR g * nC g) false) _ _ (nR g * nC g) (enterN (nR g) (nC g) p) 0 100 _ (by simp) (hg.kept hH.keep) (ho30.slAt hH 0 rfl) hG hp (by simp) (Enough.start g _) (by omega) (by omega)) ?_
  rintro _ wn ⟨rfl, hC⟩; replace hH := hH.call hC; clear hC
  refine WL.u rfl rfl (Wt.plain rfl) (Ex.assign rfl) ?_
  refine WL.next ?_
  refine WC.ret ?_
  refine WN.body1 rfl rfl ?_
  exact ⟨rfl, hH.keep⟩

theorem sAimGo (g : Grid) (a : Option Addr) (cap : Nat) (p q : Int) (w : World) (hg : Sl rStr w a g) (hs : Short g) : Fn Try.prog 16 [.slice a g.length cap, vint p, vint q] w (fun v w1 => v = .tuple #[vint (aimGo g p q).1, .bool (aimGo g p q).2] ∧ Keep [] w w1) := by
  refine Fn.enter (n := 17) Try.func16 rfl rfl rfl ?_
  show WC _ _ _ _ [(0, .slice a g.length cap), (1, vint p), (2, vint q)] _
  have hH := Hp.start [] w
  refine WC.seq ?_
  refine WC.region ?_
  refine WL.u rfl rfl (Wt.plain rfl) (Ex.assign rfl) ?_
  refine WL.u rfl rfl (Wt.plain rfl) (Ex.assign rfl) ?_
  refine WL.next ?_
  refine WC.seq ?_
  refine WC.seq ?_
  refine WC.region ?_
  refine WL.u rfl rfl (Wt.plain rfl) (Ex.move rfl) ?_
  refine WL.u rfl rfl (Wt.plain rfl) (Ex.move rfl) ?_
  refine WL.u rfl rfl (Wt.plain rfl) (Ex.move rfl) ?_
  refine WL.call callable46 rfl (Wt.plain rfl) rfl rfl (sl9Given g _ _ p q 9 _ (hg.kept hH.keep) hs) ?_
  rintro _ wn ⟨rfl, hC⟩; replace hH := hH.dr hC; clear hC
  refine WL.u rfl rfl (Wt.plain rfl) (Ex.not rfl) ?_
  refine WL.next ?_
  refine WC.cond rfl (fun hc1 => ?_) (fun hc1 => ?_)
  · have hc1' := hc1; try simp only [decide_eq_true_eq, decide_eq_false_iff_not, Bool.not_eq_true', Bool.not_eq_false', Bool.not_eq_true, Bool.not_eq_false] at hc1'
    have hai : aimB g p q 9 = false := by simpa using hc1
    refine WC.seq ?_
    refine WC.region ?_
    refine WL.u rfl rfl (Wt.plain rfl) (Ex.assign rfl) ?_
    refine WL.u rfl rfl (Wt.plain rfl) (Ex.assign rfl) ?_
    refine WL.next ?_
    refine WC.ret ?_
    refine WN.retThen ?_
    refine WN.body2 rfl rfl rfl ?_
    exact ⟨by rw [aimGo_not hai] <;> rfl, hH.keep⟩
  have hc1' := hc1; try simp only [decide_eq_true_eq, decide_eq_false_iff_not, Bool.not_eq_true', Bool.not_eq_false', Bool.not_eq_true, Bool.not_eq_false] at hc1'
  have hai : aimB g p q 9 = true := by simpa using hc1
  obtain ⟨hG, p, q, rfl, rfl, hp, hq, hpq, h6⟩ := aimB_ex hai
  have h9 : nR g * nC g ≤ 9 := by omega
  have hlt := least_lt hG hp hq hpq h9
  obtain ⟨h1, h2, h3, h4, _, _⟩ := id hG
  obtain ⟨b, off, rfl⟩ := hg.addr (by omega)
  refine WC.skip ?_
  refine WN.next ?_
  refine WC.seq ?_
  refine WC.region ?_
  refine WL.u rfl rfl (Wt.plain rfl) (Ex.move rfl) ?_
  refine WL.u rfl rfl (Wt.plain rfl) (Ex.move rfl) ?_
  refine WL.u rfl rfl (Wt.plain rfl) (Ex.move rfl) ?_
  refine WL.call callable47 rfl (Wt.plain rfl) rfl rfl (sl9Least g _ _ p q _ (hg.kept hH.keep) hG hp) ?_
  rintro _ wn ⟨rfl, hC⟩; replace hH := hH.call hC; clear hC
  refine WL.u rfl rfl (Wt.plain rfl) (Ex.assign rfl) ?_
  refine WL.u rfl rfl (Wt.plain rfl) (Ex.assign rfl) ?_
  refine WL.next ?_
  refine WC.ret ?_
  refine WN.body2 rfl rfl rfl ?_
  exact ⟨by rw [aimGo_at hai] <;> rfl, hH.keep⟩

theorem lawExactAimGo (g : Grid) (a : Option Addr) (cap : Nat) (p q : Int) (w : World) (hg : Sl rStr w a g) (hs : Short g) : Fn Try.prog 3 [.slice a g.length cap, vint p, vint q] w (fun v w1 => v = .bool true ∧ Keep [] w w1) := by
  refine Fn.enter (n := 48) Try.func3 rfl rfl rfl ?_
  show WC _ _ _ _ [(0, .slice a g.length cap), (1, vint p), (2, vint q)] _
  have hH := Hp.start [] w
  refine WC.seq ?_
  refine WC.region ?_
  refine WL.u rfl rfl (Wt.plain rfl) (Ex.assign rfl) ?_
  refine WL.next ?_
  refine WC.seq ?_
  refine WC.region ?_
  refine WL.u rfl rfl (Wt.plain rfl) (Ex.assign rfl) ?_
  refine WL.next ?_
  refine WC.seq ?_
  refine WC.region ?_
  refine WL.u rfl rfl (Wt.plain rfl) (Ex.move rfl) ?_
  refine WL.u rfl rfl (Wt.plain rfl) (Ex.move rfl) ?_
  refine WL.call callable15 rfl (Wt.plain rfl) rfl rfl (szStringS g a cap 1048576 _ (hg.kept hH.keep) hs (by omega)) ?_
  rintro _ _ ⟨r, rfl, hw, hr⟩; obtain rfl := hw.symm
  refine WL.u rfl rfl (Wt.plain rfl) (Ex.assign rfl) ?_
  refine WL.next ?_
  refine WC.seq ?_
  refine WC.seq ?_
  refine WC.region ?_
  refine WL.u rfl rfl (Wt.plain rfl) (Ex.move rfl) ?_
  refine WL.u rfl rfl (Wt.plain rfl) (Ex.lss rfl rfl) ?_
  refine WL.next ?_
  refine WC.cond rfl (fun hc1 => ?_) (fun hc1 => ?_)
  · have hc1' := hc1; try simp only [decide_eq_true_eq, decide_eq_false_iff_not, Bool.not_eq_true', Bool.not_eq_false', Bool.not_eq_true, Bool.not_eq_false] at hc1'
    refine WC.seq ?_
    refine WC.region ?_
    refine WL.u rfl rfl (Wt.plain rfl) (Ex.assign rfl) ?_
    refine WL.next ?_
    refine WC.ret ?_
    refine WN.retThen ?_
    refine WN.body1 rfl rfl ?_
    exact ⟨rfl, hH.keep⟩
  have hc1' := hc1; try simp only [decide_eq_true_eq, decide_eq_false_iff_not, Bool.not_eq_true', Bool.not_eq_false', Bool.not_eq_true, Bool.not_eq_false] at hc1'
  have hr2 := hr (by omega)
  have hgl := hr2.1
  refine WC.skip ?_
  refine WN.next ?_
  refine WC.seq ?_
  refine WC.region ?_
  refine WL.u rfl rfl (Wt.plain rfl) (Ex.move rfl) ?_
  refine WL.call callable17 rfl (Wt.plain rfl) rfl rfl (toStringS _ _ _ _ (hg.kept hH.keep) hgl) ?_
  rintro _ wn ⟨hC, hN⟩; obtain ⟨b101, cap101, cur101, rfl, hge, hbb, ho101⟩ := hN.own; replace hH := hH.push hC hge hbb
  refine WL.u rfl rfl (Wt.plain rfl) (Ex.move rfl) ?_
  refine WL.u rfl rfl (Wt.plain rfl) (Ex.move rfl) ?_
  refine WL.call callable16 rfl (Wt.plain rfl) rfl rfl (sAimGo g _ _ p q _ (ho101.slAt hH 0 rfl) hs) ?_
  rintro _ wn ⟨rfl, hC⟩; replace hH := hH.call hC; clear hC
  refine WL.u rfl rfl (Wt.plain rfl) (Ex.move rfl) ?_
  refine WL.u rfl rfl (Wt.plain rfl) (Ex.extract rfl rfl) ?_
  refine WL.u rfl rfl (Wt.plain rfl) (Ex.extract rfl rfl) ?_
  refine WL.u rfl rfl (Wt.plain rfl) (Ex.assign rfl) ?_
  refine WL.u rfl rfl (Wt.plain rfl) (Ex.assign rfl) ?_
  refine WL.next ?_
  refine WC.seq ?_
  refine WC.region ?_
  refine WL.u rfl rfl (Wt.plain rfl) (Ex.move rfl) ?_
  refine WL.call callable17 rfl (Wt.plain rfl) rfl rfl (toStringS _ _ _ _ (hg.kept hH.keep) hgl) ?_
  rintro _ wn ⟨hC, hN⟩; obtain ⟨b102, cap102, cur102, rfl, hge, hbb, ho102⟩ := hN.own; replace hH := hH.push hC hge hbb
  refine WL.u rfl rfl (Wt.plain rfl) (Ex.assign rfl) ?_
  refine WL.next ?_
  refine WC.seq ?_
  refine WC.region ?_
  refine WL.u rfl rfl (Wt.plain rfl) (Ex.move rfl) ?_
  refine WL.u rfl rfl (Wt.plain rfl) (Ex.move rfl) ?_
  refine WL.u rfl rfl (Wt.plain rfl) (Ex.move rfl) ?_
  refine WL.call callable18 rfl (Wt.plain rfl) rfl rfl (iAimGo g _ _ p q _ (ho102.slAt hH 0 rfl) hs) ?_
  rintro _ wn ⟨rfl, hC⟩; replace hH := hH.call hC; clear hC
  refine WL.u rfl rfl (Wt.plain rfl) (Ex.move rfl) ?_
  refine WL.u rfl rfl (Wt.plain rfl) (Ex.extract rfl rfl) ?_
  refine WL.u rfl rfl (Wt.plain rfl) (Ex.extract rfl rfl) ?_
  refine WL.u rfl rfl (Wt.plain rfl) (Ex.assign rfl) ?_
  refine WL.u rfl rfl (Wt.plain rfl) (Ex.assign rfl) ?_
  refine WL.next ?_
  refine WC.seq ?_
  refine WC.seq ?_
  refine WC.region ?_
  refine WL.u rfl rfl (Wt.plain rfl) (Ex.move rfl) ?_
  refine WL.u rfl rfl (Wt.plain rfl) (Ex.move rfl) ?_
  refine WL.u rfl rfl (Wt.plain rfl) (Ex.neq rfl rfl) ?_
  refine WL.u rfl rfl (Wt.plain rfl) (Ex.move rfl) ?_
  refine WL.split (t := 38) rfl (fun hg8_3 => ?_) (fun hg8_3 => ?_)
  · exfalso; simp at hg8_3
  have hg8_3' := hg8_3; try simp only [decide_eq_true_eq, decide_eq_false_iff_not, Bool.not_eq_true', Bool.not_eq_false', Bool.not_eq_true, Bool.not_eq_false] at hg8_3'
  refine WL.u rfl rfl (Wt.guard' rfl rfl rfl hg8_3 rfl) (Ex.move rfl) ?_
  refine WL.u rfl rfl (Wt.guard' rfl rfl rfl hg8_3 rfl) (Ex.move rfl) ?_
  refine WL.u rfl rfl (Wt.guard' rfl rfl rfl hg8_3 rfl) (Ex.neqB Try.underlying4 rfl rfl) ?_
  refine WL.u rfl rfl (Wt.plain rfl) (Ex.pickF rfl hg8_3 rfl) ?_
  refine WL.next ?_
  refine WC.condF rfl (by simp) ?_
  refine WC.skip ?_
  refine WN.next ?_
  refine WC.seq ?_
  refine WC.seq ?_
  refine WC.region ?_
  refine WL.u rfl rfl (Wt.plain rfl) (Ex.move rfl) ?_
  refine WL.u rfl rfl (Wt.plain rfl) (Ex.move rfl) ?_
  refine WL.call callable17 rfl (Wt.plain rfl) rfl rfl (toStringS _ _ _ _ (hg.kept hH.keep) hgl) ?_
  rintro _ wn ⟨hC, hN⟩; obtain ⟨b103, cap103, cur103, rfl, hge, hbb, ho103⟩ := hN.own; replace hH := hH.push hC hge hbb
  refine WL.call callable19 rfl (Wt.plain rfl) rfl rfl (eqStringS g g _ _ _ _ _ (ho102.slAt hH 1 rfl) (ho103.slAt hH 0 rfl)) ?_
  rintro _ wn ⟨rfl, hC⟩; replace hH := hH.dr hC; clear hC
  refine WL.u rfl rfl (Wt.plain rfl) (Ex.not rfl) ?_
  refine WL.next ?_
  refine WC.condF rfl (by simp) ?_
  refine WC.skip ?_
  refine WN.next ?_
  refine WC.seq ?_
  refine WC.region ?_
  refine WL.u rfl rfl (Wt.plain rfl) (Ex.assign rfl) ?_
  refine WL.next ?_
  refine WC.ret ?_
  refine WN.body1 rfl rfl ?_
  exact ⟨rfl, hH.keep⟩

end Go.Proofs.Ytjejdebmlgjdeaa
