/- The most rounds; the counts of full grids by their rounds: the program's. -/
import Derived.Test.YtmlkabddhdkpaaaJnRn
import Derived.Test.YtmlkabddhdkpaaaCP
import Derived.Test.YtmlkabddhdkpaaaTab
namespace Go.Proofs.Ytmlkabddhdkpaaa
set_option maxRecDepth 100000
set_option linter.unusedSimpArgs false
set_option linter.unusedVariables false
open Go Go.RowKit
def countRounds (n m : Int) : List Int × Bool := if fewB n m 9 = true then (rCnt n.toNat m.toNat, true) else ([], false)
theorem countRounds_at {n m : Nat} (h : fewB n m 9 = true) : countRounds n m = (rCnt n m, true) := by rw [countRounds, if_pos h]; rfl
theorem countRounds_not {n m : Int} (h : fewB n m 9 = false) : countRounds n m = ([], false) := by rw [countRounds, if_neg (by rw [h]; decide)]
theorem few_of {n m : Nat} (h1 : 1 ≤ n) (h2 : n ≤ 5) (h3 : 1 ≤ m) (h4 : m ≤ 5) (h9 : ((n * m : Nat) : Int) ≤ 9) : Few n m := ⟨h1, h2, h3, h4, by omega⟩
theorem rF_le100 {n m : Nat} (h : Few n m) (i : Nat) : (rounds (full n m i)).length ≤ 100 := by have := rF_lt h i; unfold rF at this; omega
theorem rounds_100 {g : Grid} (hG : GridOk g) : (rounds g).length ≤ 100 := by have := rounds_len g; have := cells_le hG; omega

theorem iroundMost1 (g : Grid) (a : Option Addr) (cap : Nat) (b5 mo : Nat) (w : World) (hg : Sl rStr w a g) (hG : GridOk g) (hga : Off [b5] a g) (hb : w.heap[b5]? = some (.cells #[vint mo] 3 (0, 0))) : Fn Try.prog 32 [.slice a g.length cap, vptr b5 0] w (fun v w1 => Keep [b5] w w1 ∧ w1.heap[b5]? = some (.cells #[vint (Max.max mo (rounds g).length : Nat)] 3 (0, 0))) := by
  refine Fn.enter (n := 7) Try.func32 rfl rfl rfl ?_
  show WC _ _ _ _ [(0, .slice a g.length cap), (1, vptr b5 0)] _
  have hH := Hp.at1 hb
  have hQ := hH
  refine WC.ptree (Keep [b5] _) (.q 1 (.alt 0 2 (.f 2 (.q 3 (.f 4 .nil))) (.f 0 (.q 3 (.f 4 .nil))))) rfl (by kernel_rfl) (Keep.drew _ _) (fun hR => ?_)
  replace hH := hH.drew
  refine WPt.q rfl rfl rfl (Wt.plain rfl) (fun w hC => Ex.move rfl) ?_
  refine WPt.alt rfl rfl ?_ ?_
  · refine WL.u rfl rfl (Wt.plain rfl) (Ex.loadHp flat3 rfl hH rfl) ?_
    refine WPt.b hR ?_
    refine WPt.f rfl ?_
    refine WL.call callable26 rfl (Wt.plain rfl) rfl rfl (iroundMany g _ _ _ (hg.keepO hH.keep hga) hG) ?_
    rintro _ wn ⟨rfl, hC⟩; replace hR := hR.trans hC.nil; replace hH := hH.call hC; clear hC
    refine WPt.b hR ?_
    refine WPt.q rfl rfl rfl (Wt.plain rfl) (fun w hC => (Ex.max rfl rfl).to (congrArg (Value.int IntKind.i64) (show _ = ((Max.max mo (rounds g).length : Nat) : Int) by omega))) ?_
    refine WPt.f rfl ?_
    refine WL.store1 ty3 rfl rfl rfl (Wt.plain rfl) hH (by first | decide | simp) rfl (fun wn hk hH => ?_)
    replace hR := hR.trans (hk.mono (by simp))
    refine WPt.b hR ?_
    refine WPt.nil (fun hC => ?_); clear hC
    refine WN.body0n rfl ?_
    exact ⟨hH.keep, hH.at 0 rfl⟩
  refine WL.call callable26 rfl (Wt.plain rfl) rfl rfl (iroundMany g _ _ _ (hg.keepO hH.keep hga) hG) ?_
  rintro _ wn ⟨rfl, hC⟩; replace hR := hR.trans hC.nil; replace hH := hH.call hC; clear hC
  refine WPt.b hR ?_
  refine WPt.f rfl ?_
  refine WL.u rfl rfl (Wt.plain rfl) (Ex.loadHp flat3 rfl hH rfl) ?_
  refine WPt.b hR ?_
  refine WPt.q rfl rfl rfl (Wt.plain rfl) (fun w hC => (Ex.max rfl rfl).to (congrArg (Value.int IntKind.i64) (show _ = ((Max.max mo (rounds g).length : Nat) : Int) by omega))) ?_
  refine WPt.f rfl ?_
  refine WL.store1 ty3 rfl rfl rfl (Wt.plain rfl) hH (by first | decide | simp) rfl (fun wn hk hH => ?_)
  replace hR := hR.trans (hk.mono (by simp))
  refine WPt.b hR ?_
  refine WPt.nil (fun hC => ?_); clear hC
  refine WN.body0n rfl ?_
  exact ⟨hH.keep, hH.at 0 rfl⟩


def MJ (n m b5 : Nat) (i : Nat) (U : List Nat) (w : World) : Prop := U = [b5] ∧ w.heap[b5]? = some (.cells #[vint (mxN (rF n m) i : Nat)] 3 (0, 0))
theorem eachMost {n m b5 : Nat} {w : World} (hf : Few n m) (hlt : b5 < w.heap.size) (h0 : MJ n m b5 0 [b5] w) : Each Try.prog 32 [vptr b5 0] (full n m) (2 ^ (n * m)) [b5] (MJ n m b5) w where
  fn := callable32
  lt := fun k hk => by rw [List.mem_singleton.1 hk]; exact hlt
  keep := fun i U w2 w3 ⟨hU, hb⟩ hk => ⟨hU, hk.heap hb (by simp)⟩
  start := h0
  call := fun w2 i b cap cur2 U hK hi ⟨hU, hb⟩ hl hbU _ hbg hog => by
    have hg := hog.sl0 hbg
    subst hU
    exact (iroundMost1 (full n m i) _ cap b5 (mxN (rF n m) i) w2 hg (full_ok i hf.n1 hf.n5 hf.m1 hf.m5) (.inr (fun p hp => by cases hp; exact hbU)) hb).mono fun v w3 ⟨hk, hb1⟩ => ⟨[b5], ⟨rfl, hb1⟩, hk, fun k hk => .inl hk⟩

theorem iroundMost (n m : Nat) (w : World) (hf : Few n m) : Fn Try.prog 20 [vint n, vint m] w (fun v w1 => v = vint (mxN (rF n m) (2 ^ (n * m)) : Nat) ∧ Keep [] w w1) := by
  refine Fn.enter (n := 11) Try.func20 rfl rfl rfl ?_
  show WC _ _ _ _ [(0, vint n), (1, vint m)] _
  have hH := Hp.start [] w
  obtain ⟨h1, h2, h3, h4, h9⟩ := id hf
  refine WC.seq ?_
  refine WC.region ?_
  refine WL.u rfl rfl (Wt.plain rfl) (Ex.assign rfl) ?_
  refine WL.next ?_
  refine WC.seq ?_
  refine WC.region ?_
  refine WL.alloc ty3 rfl rfl (Wt.plain rfl) hH (fun b5 wn hb5 hk5 hH => ?_)
  refine WL.store1 ty3 rfl rfl rfl (Wt.plain rfl) hH (by first | decide | simp) rfl (fun wn hk hH => ?_)
  refine WL.next ?_
  refine WC.seq ?_
  refine WC.region ?_
  refine WL.u rfl rfl (Wt.plain rfl) (Ex.move rfl) ?_
  refine WL.u rfl rfl (Wt.plain rfl) (Ex.move rfl) ?_
  refine WL.u rfl rfl (Wt.plain rfl) (Ex.makeFunc rfl) ?_
  refine WL.call callable21 rfl (Wt.plain rfl) rfl rfl (ifullGrids n m 32 _ [vptr b5 0] [b5] (MJ n m b5) _ rfl h1 h2 h4 (eachMost hf (hH.lt 0 rfl) ⟨rfl, hH.at 0 rfl⟩)) ?_
  rintro _ wn ⟨U, ⟨hUe, hb2⟩, hK, hU⟩; replace hH := hH.turn hK hb2
  refine WL.next ?_
  refine WC.seq ?_
  refine WC.region ?_
  refine WL.u rfl rfl (Wt.plain rfl) (Ex.loadHp flat3 rfl hH rfl) ?_
  refine WL.u rfl rfl (Wt.plain rfl) (Ex.assign rfl) ?_
  refine WL.next ?_
  refine WC.ret ?_
  refine WN.body1 rfl rfl ?_
  exact ⟨rfl, hH.keep⟩


def roundMostR (n m : Int) : Int × Bool := if fewB n m 9 = true then (((mxN (rF n.toNat m.toNat) (2 ^ (n.toNat * m.toNat)) : Nat) : Int), true) else (0, false)
theorem roundMostR_at {n m : Nat} (h : fewB n m 9 = true) : roundMostR n m = (((mxN (rF n m) (2 ^ (n * m)) : Nat) : Int), true) := by rw [roundMostR, if_pos h]; rfl
def roundManyR (g : Grid) : Int × Bool := if gridIn g = true then (((rounds g).length : Int), true) else (0, false)

theorem iCountRounds1 (g : Grid) (a : Option Addr) (cap b16 b6 P : Nat) (cur : Array Value) (l : List Int) (w : World) (hg : Sl rStr w a g) (hG : GridOk g) (hga : Off [b16] a g) (hpl : (rounds g).length < l.length) (hb : w.heap[b16]? = some (.cells cur 3 (0, 0))) (ho16 : Own rInt cur P l) (h6 : w.cell? ⟨b6, 0, none⟩ = some (vsl b16 l.length P)) (hne : b6 ∉ [b16]) (hbd : ∀ j, 0 ≤ l.getD j 0 ∧ l.getD j 0 ≤ 1000000) : Fn Try.prog 25 [.slice a g.length cap, vptr b6 0] w (fun v w1 => ∃ cur1, Keep [b16] w w1 ∧ w1.heap[b16]? = some (.cells cur1 3 (0, 0)) ∧ Own rInt cur1 P (bump l (rounds g).length)) := by
  refine Fn.enter (n := 10) Try.func25 rfl rfl rfl ?_
  show WC _ _ _ _ [(0, .slice a g.length cap), (1, vptr b6 0)] _
  have hH := Hp.at1 hb
  have hQ := hH
  refine WC.plan (Keep [b16] _) [(0, true), (1, true), (2, false), (3, true), (4, false), (5, true), (6, true), (7, false)] rfl (by kernel_rfl) (Keep.drew _ _) (fun hR => ?_)
  replace hH := hH.drew
  refine WPl.q rfl rfl rfl (Wt.plain rfl) (fun w hC => Ex.load flat22 rfl (hC.cell (hQ.keep.cell h6 hne) hne)) ?_
  refine WPl.q rfl rfl rfl (Wt.plain rfl) (fun w hC => Ex.move rfl) ?_
  refine WPl.f rfl ?_
  refine WL.call callable26 rfl (Wt.plain rfl) rfl rfl (iroundMany g _ _ _ (hg.keepO hH.keep hga) hG) ?_
  rintro _ wn ⟨rfl, hC⟩; replace hR := hR.trans hC.nil; replace hH := hH.call hC; clear hC
  refine WPl.b hR ?_
  refine WPl.q rfl rfl rfl (Wt.plain rfl) (fun w hC => Ex.indexAddr Try.underlying22 ty3 rfl rfl (by omega)) ?_
  refine WPl.f rfl ?_
  refine WL.u rfl rfl (Wt.plain rfl) (Ex.loadHp flat3 rfl hH (ho16.get rfl (getD_get l (rounds g).length 0 hpl))) ?_
  refine WPl.b hR ?_
  have hbe := hbd (rounds g).length
  refine WPl.q rfl rfl rfl (Wt.plain rfl) (fun w hC => Ex.add rfl rfl (by omega)) ?_
  refine WPl.q rfl rfl rfl (Wt.plain rfl) (fun w hC => Ex.indexAddr Try.underlying22 ty3 rfl rfl (by omega)) ?_
  refine WPl.f rfl ?_
  refine WL.store1 ty3 rfl rfl rfl (Wt.plain rfl) hH (ho16.idx rfl hpl) (by simp) (fun wn hk hH => ?_)
  replace hR := hR.trans (hk.mono (by simp))
  replace ho16 := ho16.set rfl (rounds g).length (l.getD (rounds g).length 0 + 1)
  refine WPl.b hR ?_
  refine WPl.nil (fun hC => ?_); clear hC
  refine WN.body0n rfl ?_
  exact ⟨_, hH.keep, hH.at 0 rfl, ho16⟩


def RJ (n m P b16 b6 : Nat) (i : Nat) (U : List Nat) (w : World) : Prop := U = [b16] ∧ ∃ cur, w.heap[b16]? = some (.cells cur 3 (0, 0)) ∧ Own rInt cur P (cntBy (rF n m) P i) ∧ w.cell? ⟨b6, 0, none⟩ = some (vsl b16 P P)
theorem eachCR {n m P b16 b6 : Nat} {w : World} (hf : Few n m) (hP : ∀ i, i < 2 ^ (n * m) → rF n m i < P) (h9 : 2 ^ (n * m) ≤ 512) (hlt : b16 < w.heap.size) (hne : b6 ∉ [b16]) (h0 : RJ n m P b16 b6 0 [b16] w) : Each Try.prog 25 [vptr b6 0] (full n m) (2 ^ (n * m)) [b16] (RJ n m P b16 b6) w where
  fn := callable25
  lt := fun k hk => by rw [List.mem_singleton.1 hk]; exact hlt
  keep := fun i U w2 w3 ⟨hU, cur, hb, ho, hc⟩ hk => ⟨hU, cur, hk.heap hb (by simp), ho, hk.cell hc (by simp)⟩
  start := h0
  call := fun w2 i b cap cur2 U hK hi ⟨hU, cur, hb, ho, hc⟩ hl hbU _ hbg hog => by
    have hg := hog.sl0 hbg
    subst hU
    have hcl := cntBy_len (rF n m) P i
    refine (iCountRounds1 (full n m i) _ cap b16 b6 P cur _ w2 hg (full_ok i hf.n1 hf.n5 hf.m1 hf.m5) (.inr (fun p hp => by cases hp; exact hbU)) (by rw [hcl]; exact hP i hi) hb ho (by rw [hcl]; exact hc) hne (fun j => by
      have := cntBy_bound (rF n m) P i (fun j hj => hP j (by omega)) j; omega)).mono fun v w3 ⟨cur1, hk, hb1, ho1⟩ => ⟨[b16], ⟨rfl, cur1, hb1, ho1, hk.cell hc hne⟩, hk, fun k hk => .inl hk⟩

theorem iCountRounds (n m : Int) (w : World) : Fn Try.prog 12 [vint n, vint m] w (fun v w1 => ∃ x, v = .tuple #[x, .bool (countRounds n m).2] ∧ Keep [] w w1 ∧ New rInt 3 w w1 x (countRounds n m).1) := by
  refine Fn.enter (n := 22) Try.func12 rfl rfl rfl ?_
  show WC _ _ _ _ [(0, vint n), (1, vint m)] _
  have hH := Hp.start [] w
  refine WC.seq ?_
  refine WC.region ?_
  refine WL.u rfl rfl (Wt.plain rfl) (Ex.assign rfl) ?_
  refine WL.u rfl rfl (Wt.plain rfl) (Ex.assign rfl) ?_
  refine WL.next ?_
  refine WC.seq ?_
  refine WC.seq ?_
  refine WC.region ?_
  refine WL.u rfl rfl (Wt.plain rfl) (Ex.move rfl) ?_
  refine WL.u rfl rfl (Wt.plain rfl) (Ex.move rfl) ?_
  refine WL.call callable19 rfl (Wt.plain rfl) rfl rfl (ifewOk _ _ _ _) ?_
  rintro _ _ ⟨rfl, hw⟩; obtain rfl := hw.symm
  refine WL.u rfl rfl (Wt.plain rfl) (Ex.not rfl) ?_
  refine WL.next ?_
  refine WC.cond rfl (fun hc1 => ?_) (fun hc1 => ?_)
  · have hc1' := hc1; try simp only [decide_eq_true_eq, decide_eq_false_iff_not, Bool.not_eq_true', Bool.not_eq_false', Bool.not_eq_true, Bool.not_eq_false] at hc1'
    have hfw : fewB n m 9 = false := by simpa using hc1
    refine WC.seq ?_
    refine WC.region ?_
    refine WL.lit0 Try.underlying22 ty3 rfl (Wt.plain rfl) hH (fun b11 wn hb11 hk11 hH => ?_)
    have ho11 := Own.nil rInt
    refine WL.u rfl rfl (Wt.plain rfl) (Ex.assign rfl) ?_
    refine WL.u rfl rfl (Wt.plain rfl) (Ex.assign rfl) ?_
    refine WL.next ?_
    refine WC.ret ?_
    refine WN.retThen ?_
    refine WN.body2 rfl rfl rfl ?_
    have e := countRounds_not hfw
    exact ⟨_, by rw [e], hH.keep, by rw [e]; exact New.of hH ho11 (hH.base 0 rfl)⟩
  have hc1' := hc1; try simp only [decide_eq_true_eq, decide_eq_false_iff_not, Bool.not_eq_true', Bool.not_eq_false', Bool.not_eq_true, Bool.not_eq_false] at hc1'
  have hfw : fewB n m 9 = true := by simpa using hc1
  obtain ⟨n, m, rfl, rfl, h1, h2, h3, h4, h9⟩ := fewB_ex hfw
  have hp9 := pow9 h9
  have hf := few_of h1 h2 h3 h4 h9
  have hmx := mxN_lt (f := rF n m) (B := 101) (by decide) (2 ^ (n * m)) (fun i _ => rF_lt hf i)
  refine WC.skip ?_
  refine WN.next ?_
  refine WC.seq ?_
  refine WC.region ?_
  refine WL.u rfl rfl (Wt.plain rfl) (Ex.move rfl) ?_
  refine WL.u rfl rfl (Wt.plain rfl) (Ex.move rfl) ?_
  refine WL.call callable20 rfl (Wt.plain rfl) rfl rfl (iroundMost n m _ hf) ?_
  rintro _ wn ⟨rfl, hC⟩; replace hH := hH.call hC; clear hC
  refine WL.u rfl rfl (Wt.plain rfl) ((Ex.add rfl rfl (by omega)).to (congrArg (Value.int IntKind.i64) (show _ = ((mxN (rF n m) (2 ^ (n * m)) + 1 : Nat) : Int) by omega))) ?_
  refine WL.makeSlice Try.underlying22 ty3 rfl rfl (by omega) (by omega) rfl (Wt.plain rfl) hH (fun b16 wn hb16 hk16 hH => ?_)
  have ho16 := Own.made rInt (z := vint 0) 0 rfl rfl (k := mxN (rF n m) (2 ^ (n * m)) + 1) (by omega)
  refine WL.alloc ty22 rfl rfl (Wt.plain rfl) hH (fun b6 wn hb6 hk6 hH => ?_)
  refine WL.store1 ty22 rfl rfl rfl (Wt.plain rfl) hH (by first | decide | simp) rfl (fun wn hk hH => ?_)
  refine WL.next ?_
  refine WC.seq ?_
  replace hH := hH.f1
  refine WC.region ?_
  refine WL.u rfl rfl (Wt.plain rfl) (Ex.move rfl) ?_
  refine WL.u rfl rfl (Wt.plain rfl) (Ex.move rfl) ?_
  refine WL.u rfl rfl (Wt.plain rfl) (Ex.makeFunc rfl) ?_
  refine WL.call callable21 rfl (Wt.plain rfl) rfl rfl (ifullGrids n m 25 _ [vptr b6 0] [b16] (RJ n m (mxN (rF n m) (2 ^ (n * m)) + 1) b16 b6) _ rfl h1 h2 h4 (eachCR hf (rCnt_lt n m) hp9 (hH.lt 0 rfl) (by have := hH.nin 1 0 rfl rfl rfl; exact this) ⟨rfl, _, hH.at 0 rfl, ho16, hH.cellAt 1 rfl 0 rfl⟩)) ?_
  rintro _ wn ⟨U, ⟨hUe, cur2, hb2, ho2, hc6⟩, hK, hU⟩; replace hH := hH.turn hK hb2
  refine WL.next ?_
  refine WC.seq ?_
  refine WC.region ?_
  refine WL.u rfl rfl (Wt.plain rfl) (Ex.load flat22 rfl hc6) ?_
  refine WL.u rfl rfl (Wt.plain rfl) (Ex.assign rfl) ?_
  refine WL.u rfl rfl (Wt.plain rfl) (Ex.assign rfl) ?_
  refine WL.next ?_
  refine WC.ret ?_
  refine WN.body2 rfl rfl rfl ?_
  have e := countRounds_at hfw
  have hll := rCnt_len n m
  exact ⟨_, by rw [e], hH.keep, by rw [e]; have hN := New.of hH ho2 (hH.base 0 rfl); rw [cntBy_len] at hN; exact hN⟩

end Go.Proofs.Ytmlkabddhdkpaaa
