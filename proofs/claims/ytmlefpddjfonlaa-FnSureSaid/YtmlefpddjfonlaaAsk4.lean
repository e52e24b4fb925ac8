/- Worst cases and best ports. -/
import Derived.Test.YtmlefpddjfonlaaAsk3
import Derived.Test.YtmlefpddjfonlaaAimP
namespace Go.Proofs.Ytmlefpddjfonlaa
set_option maxRecDepth 100000
set_option linter.unusedSimpArgs false
set_option linter.unusedVariables false
open Go Go.RowKit
def endL (L : List Grid) (port i : Nat) : Nat := (way (L.getD i []) port).2
def worstR (L : List Grid) (port : Nat) : Nat := mostN (endL L port) L.length
def askWorst (n m : Int) (ans : List Int) (port : Int) : Int × Bool := if ansB n m ans = true ∧ 0 ≤ port ∧ port ≤ (ans.length : Int) - 1 then (((worstR (fits n.toNat m.toNat ans) port.toNat : Nat) : Int), true) else (0, false)
theorem askWorst_at {n m : Nat} {ans : List Int} {p : Nat} (h : AnsOk n m ans) (hp : p < ans.length) : askWorst n m ans p = (((worstR (fits n m ans) p : Nat) : Int), true) := by rw [askWorst, if_pos ⟨h.b, by omega, by omega⟩]; rfl
theorem askWorst_not {n m : Int} {ans : List Int} {port : Int} (h : ¬ (ansB n m ans = true ∧ 0 ≤ port ∧ port ≤ (ans.length : Int) - 1)) : askWorst n m ans port = (0, false) := by rw [askWorst, if_neg h]
def askBest (n m : Int) (ans : List Int) : Int × Bool := if ansB n m ans = true then (((bestN (worstR (fits n.toNat m.toNat ans)) ans.length : Nat) : Int), true) else (0, false)
theorem askBest_at {n m : Nat} {ans : List Int} (h : AnsOk n m ans) : askBest n m ans = (((bestN (worstR (fits n m ans)) ans.length : Nat) : Int), true) := by rw [askBest, if_pos h.b]; rfl
theorem askBest_not {n m : Int} {ans : List Int} (h : ansB n m ans = false) : askBest n m ans = (0, false) := by rw [askBest, if_neg (by rw [h]; decide)]
theorem bestN_one (W : Nat → Nat) : bestN W 1 = 0 := by
  rw [bestN]; split <;> rfl
/-- the grids of a list of fitting grids -/
structure LOk (n m : Nat) (ans : List Int) (L : List Grid) : Prop where
  g : ∀ i, i < L.length → GridOk (L.getD i []) ∧ ports (L.getD i []) = ans.length ∧ nR (L.getD i []) = n ∧ nC (L.getD i []) = m
  k : ∀ i, i < L.length → ∀ p, p < ans.length → keepB (L.getD i []) ans p = true
  l : L.length ≤ 81
theorem AnsOk.list {n m : Nat} {ans : List Int} (h : AnsOk n m ans) : LOk n m ans (fits n m ans) := by
  have key : ∀ i, i < (fits n m ans).length → ∃ j, (fits n m ans).getD i [] = numG n m j ∧ fitB (numG n m j) ans = true := fun i hi => by
    have := List.mem_of_getElem? (getD_get (fits n m ans) i [] hi)
    obtain ⟨j, _, h1, h2⟩ := fitL_mem.1 this
    exact ⟨j, h1, by rw [← h1]; exact h2⟩
  refine ⟨fun i hi => ?_, fun i hi p hp => ?_, fits_le h⟩
  · obtain ⟨j, h1, h2⟩ := key i hi
    rw [h1]
    exact ⟨h.grid j, h.ports j, gridOf_nR _ _ _, gridOf_nC _ _ h.n1⟩
  · obtain ⟨j, h1, h2⟩ := key i hi
    rw [h1]
    exact (fitB_iff _ _).1 h2 p (by rw [h.ports j]; exact hp)
theorem LOk.cons {n m : Nat} {ans : List Int} {L : List Grid} (h : LOk n m ans L) {p : Nat} (hp : p < ans.length) (ha : ans.getD p 0 ≠ -1) : ∀ i, i < L.length → endL L p i = (ans.getD p 0).toNat := fun i hi => by
  have := (keepB_iff _ _ _).1 (h.k i hi p hp)
  rcases this with h1 | h1
  · exact absurd h1 ha
  · unfold endL; rw [h1]; rfl
theorem LOk.lt {n m : Nat} {ans : List Int} {L : List Grid} (h : LOk n m ans L) {p : Nat} (hp : p < ans.length) : ∀ i, i < L.length → endL L p i < ans.length ∧ endL L p i ≠ p := fun i hi => by
  obtain ⟨h1, h2, _⟩ := h.g i hi
  have h3 := way_end h1.sz (p := p) (by rw [h2]; exact hp)
  have h4 := way_ne h1.sz (p := p) (by rw [h2]; exact hp)
  rw [h2] at h3
  exact ⟨h3, h4⟩
theorem LOk.const {n m : Nat} {ans : List Int} {L : List Grid} (h : LOk n m ans L) {p : Nat} (hp : p < ans.length) (ha : ans.getD p 0 ≠ -1) : worstR L p = L.length := mostN_const _ (h.cons hp ha)
theorem LOk.share {n m : Nat} {ans : List Int} {L : List Grid} (h : LOk n m ans L) {p : Nat} (hp : p < ans.length) : L.length ≤ worstR L p * (ans.length - 1) := mostN_share (fun i hi => (h.lt hp i hi).1) hp (fun i hi => (h.lt hp i hi).2)

theorem iworst (n m : Nat) (hs : List Hd) (L : List Grid) (ans : List Int) (a a2 : Option Addr) (cap cap2 port : Nat) (w : World) (hl : Sl rHd w a hs) (hR : GsR w hs L) (hO : LOk n m ans L) (hport : port < ans.length) (hal : ans.length ≤ 100) (ha : Sl rInt w a2 ans) : Fn Try.prog 67 [.slice a hs.length cap, .slice a2 ans.length cap2, vint port] w (fun v w1 => v = vint (worstR L port : Nat) ∧ Keep [] w w1) := by
  refine Fn.enter (n := 49) Try.func67 rfl rfl rfl ?_
  show WC _ _ _ _ [(0, .slice a hs.length cap), (1, .slice a2 ans.length cap2), (2, vint port)] _
  have hH := Hp.start [] w
  have hLl := hO.l
  have hRl := hR.len
  obtain ⟨b2, off2, rfl⟩ := ha.addr (by omega)
  refine WC.seq ?_
  refine WC.region ?_
  refine WL.u rfl rfl (Wt.plain rfl) (Ex.assign rfl) ?_
  refine WL.next ?_
  refine WC.seq ?_
  refine WC.seq ?_
  refine WC.region ?_
  refine WL.u rfl rfl (Wt.plain rfl) (Ex.move rfl) ?_
  refine WL.u rfl rfl (Wt.plain rfl) (Ex.move rfl) ?_
  refine WL.u rfl rfl (Wt.plain rfl) (Ex.indexAddr Try.underlying24 ty3 rfl rfl (by omega)) ?_
  refine WL.u rfl rfl (Wt.plain rfl) (Ex.loadSl flat3 (ha.kept hH.keep) rfl rfl (getD_get ans port 0 hport)) ?_
  refine WL.u rfl rfl (Wt.plain rfl) (Ex.neq rfl rfl) ?_
  refine WL.next ?_
  refine WC.cond rfl (fun hc1 => ?_) (fun hc1 => ?_)
  · have hc1' := hc1; try simp only [decide_eq_true_eq, decide_eq_false_iff_not, Bool.not_eq_true', Bool.not_eq_false', Bool.not_eq_true, Bool.not_eq_false] at hc1'
    refine WC.seq ?_
    refine WC.region ?_
    refine WL.u rfl rfl (Wt.plain rfl) (Ex.move rfl) ?_
    refine WL.u rfl rfl (Wt.plain rfl) (Ex.lenSl Try.underlying56 rfl) ?_
    refine WL.u rfl rfl (Wt.plain rfl) (Ex.assign rfl) ?_
    refine WL.next ?_
    refine WC.ret ?_
    refine WN.retThen ?_
    refine WN.body1 rfl rfl ?_
    have hcn := hO.const hport (by omega)
    exact ⟨by rw [hcn, hRl], hH.keep⟩
  have hc1' := hc1; try simp only [decide_eq_true_eq, decide_eq_false_iff_not, Bool.not_eq_true', Bool.not_eq_false', Bool.not_eq_true, Bool.not_eq_false] at hc1'
  refine WC.skip ?_
  refine WN.next ?_
  refine WC.seq ?_
  refine WC.region ?_
  refine WL.u rfl rfl (Wt.plain rfl) (Ex.move rfl) ?_
  refine WL.u rfl rfl (Wt.plain rfl) (Ex.lenSl Try.underlying24 rfl) ?_
  refine WL.makeSlice Try.underlying24 ty3 rfl rfl (by omega) (by omega) rfl (Wt.plain rfl) hH (fun b22 wn hb22 hk22 hH => ?_)
  have ho22 := Own.made rInt (z := vint 0) 0 rfl rfl (k := ans.length) (by omega)
  refine WL.u rfl rfl (Wt.plain rfl) (Ex.assign rfl) ?_
  refine WL.next ?_
  refine WC.seq ?_
  refine WC.region ?_
  refine WL.u rfl rfl (Wt.plain rfl) (Ex.assign rfl) ?_
  refine WL.next ?_
  refine WC.seq ?_
  refine WC.seq ?_
  refine WC.region ?_
  refine WL.u rfl rfl (Wt.plain rfl) (Ex.move rfl) ?_
  refine WL.u rfl rfl (Wt.plain rfl) (Ex.lenSl Try.underlying56 rfl) ?_
  refine WL.u rfl rfl (Wt.plain rfl) (Ex.move rfl) ?_
  refine WL.next ?_
  refine WC.block ?_
  refine WC.loop (ι := Nat × (Array Value) × (List Int)) (fun (i, cur22, q) => [(2, vint port), (7, vsl b22 ans.length ans.length), (8, vint (mostN (endL L port) i : Nat)), (23, .slice a hs.length cap), (24, vint hs.length), (25, vint i)]) (fun (i, cur22, q) wn => Hp [] w wn [(b22, .cells cur22 3 (0, 0))] ∧ Own rInt cur22 ans.length q ∧ q = cntBy (endL L port) ans.length i ∧ i ≤ L.length) (fun (i, cur22, q) => L.length - i) ((0, madeCells (vint 0).cells (ans.length * 1), List.replicate ans.length 0)) (by exact ⟨rfl, rfl, rfl, rfl, rfl, rfl, trivial⟩) ?_ ?_
  · exact ⟨hH, ho22, rfl, Nat.zero_le _⟩
  rintro ⟨i, cur22, q⟩ wn ⟨hH, ho22, hq, hi⟩
  have hql : q.length = ans.length := by rw [hq, cntBy_len]
  have hml := mostN_le (endL L port) i
  intro mu0 hmu; try dsimp only at hmu
  show WC _ _ _ _ [(2, vint port), (7, vsl b22 ans.length ans.length), (8, vint (mostN (endL L port) i : Nat)), (23, .slice a hs.length cap), (24, vint hs.length), (25, vint i)] _
  refine WC.seq ?_
  refine WC.region ?_
  refine WL.u rfl rfl (Wt.plain rfl) (Ex.lss rfl rfl) ?_
  refine WL.next ?_
  refine WC.seq ?_
  refine WC.cond rfl (fun hc2 => ?_) (fun hc2 => ?_)
  · have hc2' := hc2; try simp only [decide_eq_true_eq, decide_eq_false_iff_not, Bool.not_eq_true', Bool.not_eq_false', Bool.not_eq_true, Bool.not_eq_false] at hc2'
    have hli : i < L.length := by omega
    obtain ⟨b, off, rfl⟩ := hl.addr (by omega)
    have hget := getD_get hs i hd0 (by omega)
    have hgi := hR.get i hli
    obtain ⟨hGi, hPi, _⟩ := hO.g i hli
    have hei := (hO.lt hport i hli).1
    have hqb := cntBy_bound (endL L port) ans.length i (fun j hj => (hO.lt hport j (by omega)).1) (endL L port i)
    rw [← hq] at hqb
    have hnew := cntBy_get (endL L port) ans.length (i + 1) (fun j hj => (hO.lt hport j (by omega)).1) (endL L port i)
    rw [cntBy, ← hq] at hnew
    have hnew2 : (q.set (endL L port i) (q.getD (endL L port i) 0 + 1)).getD (endL L port i) 0 = ((tally (endL L port) (endL L port i) (i + 1) : Nat) : Int) := hnew
    refine WC.skip ?_
    refine WN.next ?_
    refine WC.seq ?_
    refine WC.block ?_
    refine WC.seq ?_
    refine WC.region ?_
    refine WL.u rfl rfl (Wt.plain rfl) (Ex.indexAddr Try.underlying56 ty22 rfl rfl (by omega)) ?_
    refine WL.u rfl rfl (Wt.plain rfl) ((Ex.loadSl flat22 (hl.kept hH.keep) rfl rfl hget).to hgi.1) ?_
    refine WL.u rfl rfl (Wt.plain rfl) (Ex.assign rfl) ?_
    refine WL.next ?_
    refine WC.seq ?_
    refine WC.region ?_
    refine WL.u rfl rfl (Wt.plain rfl) (Ex.move rfl) ?_
    refine WL.u rfl rfl (Wt.plain rfl) (Ex.move rfl) ?_
    refine WL.call callable90 rfl (Wt.plain rfl) rfl rfl (ibeam (L.getD i []) _ _ port _ (hgi.2.kept hH.keep) hGi (by omega)) ?_
    rintro _ wn ⟨x, rfl, hC, hN⟩; replace hH := hH.call hC; clear hC hN
    refine WL.u rfl rfl (Wt.plain rfl) (Ex.move rfl) ?_
    refine WL.u rfl rfl (Wt.plain rfl) (Ex.extract rfl rfl) ?_
    refine WL.u rfl rfl (Wt.plain rfl) (Ex.extract rfl rfl) ?_
    refine WL.u rfl rfl (Wt.plain rfl) (Ex.assign rfl) ?_
    refine WL.u rfl rfl (Wt.plain rfl) (Ex.assign rfl) ?_
    refine WL.next ?_
    refine WC.seq ?_
    have hee : (way (L.getD i []) port).2 = endL L port i := rfl
    rw [hee]
    refine WC.region ?_
    refine WL.u rfl rfl (Wt.plain rfl) (Ex.move rfl) ?_
    refine WL.u rfl rfl (Wt.plain rfl) (Ex.move rfl) ?_
    refine WL.u rfl rfl (Wt.plain rfl) (Ex.indexAddr Try.underlying24 ty3 rfl rfl (by omega)) ?_
    refine WL.u rfl rfl (Wt.plain rfl) (Ex.loadHp flat3 rfl hH (ho22.get rfl (getD_get q (endL L port i) 0 (by omega)))) ?_
    refine WL.u rfl rfl (Wt.plain rfl) (Ex.add rfl rfl (by omega)) ?_
    refine WL.u rfl rfl (Wt.plain rfl) (Ex.indexAddr Try.underlying24 ty3 rfl rfl (by omega)) ?_
    refine WL.store1 ty3 rfl rfl rfl (Wt.plain rfl) hH (ho22.idx rfl (by omega)) (by simp) (fun wn hk hH => ?_)
    replace ho22 := ho22.set rfl (endL L port i) (q.getD (endL L port i) 0 + 1)
    refine WL.next ?_
    refine WC.region ?_
    refine WL.u rfl rfl (Wt.plain rfl) (Ex.move rfl) ?_
    refine WL.u rfl rfl (Wt.plain rfl) (Ex.move rfl) ?_
    refine WL.u rfl rfl (Wt.plain rfl) (Ex.move rfl) ?_
    refine WL.u rfl rfl (Wt.plain rfl) (Ex.indexAddr Try.underlying24 ty3 rfl rfl (by omega)) ?_
    refine WL.u rfl rfl (Wt.plain rfl) (Ex.loadHp flat3 rfl hH (ho22.get rfl (getD_get (q.set (endL L port i) (q.getD (endL L port i) 0 + 1)) (endL L port i) 0 (by rw [List.length_set]; omega)))) ?_
    refine WL.u rfl rfl (Wt.plain rfl) ((Ex.max rfl rfl).to (congrArg (Value.int IntKind.i64) (show _ = ((mostN (endL L port) (i + 1) : Nat) : Int) by rw [hnew2, mostN]; omega))) ?_
    refine WL.u rfl rfl (Wt.plain rfl) (Ex.assign rfl) ?_
    refine WL.last ?_
    refine WN.normalBlock ?_
    refine WN.next ?_
    refine WC.region ?_
    refine WL.u rfl rfl (Wt.plain rfl) (Ex.add rfl rfl (by omega)) ?_
    refine WL.u rfl rfl (Wt.plain rfl) (Ex.move rfl) ?_
    refine WL.last ?_
    refine WN.round (i + 1, cur22.setIfInBounds (0 + (endL L port i : Int).toNat * 1) (rInt.val (q.getD (endL L port i) 0 + 1)), q.set (endL L port i) (q.getD (endL L port i) 0 + 1)) (by exact ⟨rfl, rfl, rfl, rfl, rfl, rfl, trivial⟩) ?_ ?_
    · exact ⟨hH, ho22, by rw [cntBy, ← hq]; rfl, by omega⟩
    · (try dsimp only); omega
  have hc2' := hc2; try simp only [decide_eq_true_eq, decide_eq_false_iff_not, Bool.not_eq_true', Bool.not_eq_false', Bool.not_eq_true, Bool.not_eq_false] at hc2'
  refine WC.exit ?_
  refine WN.exitThen ?_
  refine WN.exitThen ?_
  refine WN.exitHere ?_
  refine WN.next ?_
  refine WC.seq ?_
  refine WC.region ?_
  refine WL.u rfl rfl (Wt.plain rfl) (Ex.move rfl) ?_
  refine WL.u rfl rfl (Wt.plain rfl) (Ex.assign rfl) ?_
  refine WL.next ?_
  refine WC.ret ?_
  refine WN.body1 rfl rfl ?_
  have hiN : i = L.length := by omega
  subst hiN
  exact ⟨rfl, hH.keep⟩

theorem sl8Worst (n m : Nat) (hs : List Hd) (L : List Grid) (ans : List Int) (a : Option Addr) (cap port : Nat) (w : World) (hl : Sl rHd w a hs) (hR : GsR w hs L) (hO : LOk n m ans L) (hport : port < ans.length) (hal : ans.length ≤ 100) : Fn Try.prog 66 [.slice a hs.length cap, vint ans.length, vint port] w (fun v w1 => v = vint (worstR L port : Nat) ∧ Keep [] w w1) := by
  refine Fn.enter (n := 46) Try.func66 rfl rfl rfl ?_
  show WC _ _ _ _ [(0, .slice a hs.length cap), (1, vint ans.length), (2, vint port)] _
  have hH := Hp.start [] w
  have hLl := hO.l
  have hRl := hR.len
  refine WC.seq ?_
  refine WC.region ?_
  refine WL.u rfl rfl (Wt.plain rfl) (Ex.assign rfl) ?_
  refine WL.next ?_
  refine WC.seq ?_
  refine WC.region ?_
  refine WL.u rfl rfl (Wt.plain rfl) (Ex.move rfl) ?_
  refine WL.makeSlice Try.underlying24 ty3 rfl rfl (by omega) (by omega) rfl (Wt.plain rfl) hH (fun b14 wn hb14 hk14 hH => ?_)
  have ho14 := Own.made rInt (z := vint 0) 0 rfl rfl (k := ans.length) (by omega)
  refine WL.u rfl rfl (Wt.plain rfl) (Ex.assign rfl) ?_
  refine WL.next ?_
  refine WC.seq ?_
  refine WC.region ?_
  refine WL.u rfl rfl (Wt.plain rfl) (Ex.assign rfl) ?_
  refine WL.next ?_
  refine WC.seq ?_
  refine WC.seq ?_
  refine WC.region ?_
  refine WL.u rfl rfl (Wt.plain rfl) (Ex.assign rfl) ?_
  refine WL.next ?_
  refine WC.block ?_
  refine WC.loop (ι := Nat × (Array Value) × (List Int)) (fun (i, cur14, q) => [(0, .slice a hs.length cap), (2, vint port), (7, vsl b14 ans.length ans.length), (8, vint (mostN (endL L port) i : Nat)), (9, vint i)]) (fun (i, cur14, q) wn => Hp [] w wn [(b14, .cells cur14 3 (0, 0))] ∧ Own rInt cur14 ans.length q ∧ q = cntBy (endL L port) ans.length i ∧ i ≤ L.length) (fun (i, cur14, q) => L.length - i) ((0, madeCells (vint 0).cells (ans.length * 1), List.replicate ans.length 0)) (by exact ⟨rfl, rfl, rfl, rfl, rfl, trivial⟩) ?_ ?_
  · exact ⟨hH, ho14, rfl, Nat.zero_le _⟩
  rintro ⟨i, cur14, q⟩ wn ⟨hH, ho14, hq, hi⟩
  have hql : q.length = ans.length := by rw [hq, cntBy_len]
  have hml := mostN_le (endL L port) i
  intro mu0 hmu; try dsimp only at hmu
  show WC _ _ _ _ [(0, .slice a hs.length cap), (2, vint port), (7, vsl b14 ans.length ans.length), (8, vint (mostN (endL L port) i : Nat)), (9, vint i)] _
  refine WC.seq ?_
  refine WC.seq ?_
  refine WC.region ?_
  refine WL.u rfl rfl (Wt.plain rfl) (Ex.move rfl) ?_
  refine WL.u rfl rfl (Wt.plain rfl) (Ex.move rfl) ?_
  refine WL.u rfl rfl (Wt.plain rfl) (Ex.lenSl Try.underlying56 rfl) ?_
  refine WL.u rfl rfl (Wt.plain rfl) (Ex.lss rfl rfl) ?_
  refine WL.next ?_
  refine WC.cond rfl (fun hc1 => ?_) (fun hc1 => ?_)
  · have hc1' := hc1; try simp only [decide_eq_true_eq, decide_eq_false_iff_not, Bool.not_eq_true', Bool.not_eq_false', Bool.not_eq_true, Bool.not_eq_false] at hc1'
    have hli : i < L.length := by omega
    obtain ⟨b, off, rfl⟩ := hl.addr (by omega)
    have hget := getD_get hs i hd0 (by omega)
    have hgi := hR.get i hli
    obtain ⟨hGi, hPi, _⟩ := hO.g i hli
    have hei := (hO.lt hport i hli).1
    have hqb := cntBy_bound (endL L port) ans.length i (fun j hj => (hO.lt hport j (by omega)).1) (endL L port i)
    rw [← hq] at hqb
    have hnew := cntBy_get (endL L port) ans.length (i + 1) (fun j hj => (hO.lt hport j (by omega)).1) (endL L port i)
    rw [cntBy, ← hq] at hnew
    have hnew2 : (q.set (endL L port i) (q.getD (endL L port i) 0 + 1)).getD (endL L port i) 0 = ((tally (endL L port) (endL L port i) (i + 1) : Nat) : Int) := hnew
    refine WC.skip ?_
    refine WN.next ?_
    refine WC.seq ?_
    refine WC.block ?_
    refine WC.seq ?_
    refine WC.region ?_
    refine WL.u rfl rfl (Wt.plain rfl) (Ex.move rfl) ?_
    refine WL.u rfl rfl (Wt.plain rfl) (Ex.move rfl) ?_
    refine WL.u rfl rfl (Wt.plain rfl) (Ex.indexAddr Try.underlying56 ty22 rfl rfl (by omega)) ?_
    refine WL.u rfl rfl (Wt.plain rfl) ((Ex.loadSl flat22 (hl.kept hH.keep) rfl rfl hget).to hgi.1) ?_
    refine WL.u rfl rfl (Wt.plain rfl) (Ex.move rfl) ?_
    refine WL.call callable88 rfl (Wt.plain rfl) rfl rfl (sl2Way (L.getD i []) _ _ port _ (hgi.2.kept hH.keep) hGi (by omega)) ?_
    rintro _ wn ⟨x, y, rfl, hC, hN1, hN2⟩; replace hH := hH.call hC; clear hC hN1 hN2
    refine WL.u rfl rfl (Wt.plain rfl) (Ex.move rfl) ?_
    refine WL.u rfl rfl (Wt.plain rfl) (Ex.extract rfl rfl) ?_
    refine WL.u rfl rfl (Wt.plain rfl) (Ex.extract rfl rfl) ?_
    refine WL.u rfl rfl (Wt.plain rfl) (Ex.extract rfl rfl) ?_
    refine WL.u rfl rfl (Wt.plain rfl) (Ex.assign rfl) ?_
    refine WL.u rfl rfl (Wt.plain rfl) (Ex.assign rfl) ?_
    refine WL.u rfl rfl (Wt.plain rfl) (Ex.assign rfl) ?_
    refine WL.next ?_
    refine WC.seq ?_
    have hee : (way (L.getD i []) port).2 = endL L port i := rfl
    rw [hee]
    refine WC.region ?_
    refine WL.u rfl rfl (Wt.plain rfl) (Ex.move rfl) ?_
    refine WL.u rfl rfl (Wt.plain rfl) (Ex.move rfl) ?_
    refine WL.u rfl rfl (Wt.plain rfl) (Ex.move rfl) ?_
    refine WL.u rfl rfl (Wt.plain rfl) (Ex.move rfl) ?_
    refine WL.u rfl rfl (Wt.plain rfl) (Ex.indexAddr Try.underlying24 ty3 rfl rfl (by omega)) ?_
    refine WL.u rfl rfl (Wt.plain rfl) (Ex.loadHp flat3 rfl hH (ho14.get rfl (getD_get q (endL L port i) 0 (by omega)))) ?_
    refine WL.u rfl rfl (Wt.plain rfl) (Ex.add rfl rfl (by omega)) ?_
    refine WL.u rfl rfl (Wt.plain rfl) (Ex.indexAddr Try.underlying24 ty3 rfl rfl (by omega)) ?_
    refine WL.store1 ty3 rfl rfl rfl (Wt.plain rfl) hH (ho14.idx rfl (by omega)) (by simp) (fun wn hk hH => ?_)
    replace ho14 := ho14.set rfl (endL L port i) (q.getD (endL L port i) 0 + 1)
    refine WL.next ?_
    refine WC.region ?_
    refine WL.u rfl rfl (Wt.plain rfl) (Ex.move rfl) ?_
    refine WL.u rfl rfl (Wt.plain rfl) (Ex.move rfl) ?_
    refine WL.u rfl rfl (Wt.plain rfl) (Ex.move rfl) ?_
    refine WL.u rfl rfl (Wt.plain rfl) (Ex.indexAddr Try.underlying24 ty3 rfl rfl (by omega)) ?_
    refine WL.u rfl rfl (Wt.plain rfl) (Ex.loadHp flat3 rfl hH (ho14.get rfl (getD_get (q.set (endL L port i) (q.getD (endL L port i) 0 + 1)) (endL L port i) 0 (by rw [List.length_set]; omega)))) ?_
    refine WL.u rfl rfl (Wt.plain rfl) ((Ex.max rfl rfl).to (congrArg (Value.int IntKind.i64) (show _ = ((mostN (endL L port) (i + 1) : Nat) : Int) by rw [hnew2, mostN]; omega))) ?_
    refine WL.u rfl rfl (Wt.plain rfl) (Ex.assign rfl) ?_
    refine WL.last ?_
    refine WN.normalBlock ?_
    refine WN.next ?_
    refine WC.region ?_
    refine WL.u rfl rfl (Wt.plain rfl) (Ex.move rfl) ?_
    refine WL.u rfl rfl (Wt.plain rfl) (Ex.add rfl rfl (by omega)) ?_
    refine WL.u rfl rfl (Wt.plain rfl) (Ex.assign rfl) ?_
    refine WL.last ?_
    refine WN.round (i + 1, cur14.setIfInBounds (0 + (endL L port i : Int).toNat * 1) (rInt.val (q.getD (endL L port i) 0 + 1)), q.set (endL L port i) (q.getD (endL L port i) 0 + 1)) (by exact ⟨rfl, rfl, rfl, rfl, rfl, trivial⟩) ?_ ?_
    · exact ⟨hH, ho14, by rw [cntBy, ← hq]; rfl, by omega⟩
    · (try dsimp only); omega
  have hc1' := hc1; try simp only [decide_eq_true_eq, decide_eq_false_iff_not, Bool.not_eq_true', Bool.not_eq_false', Bool.not_eq_true, Bool.not_eq_false] at hc1'
  refine WC.exit ?_
  refine WN.exitThen ?_
  refine WN.exitThen ?_
  refine WN.exitHere ?_
  refine WN.next ?_
  refine WC.seq ?_
  refine WC.region ?_
  refine WL.u rfl rfl (Wt.plain rfl) (Ex.move rfl) ?_
  refine WL.u rfl rfl (Wt.plain rfl) (Ex.assign rfl) ?_
  refine WL.next ?_
  refine WC.ret ?_
  refine WN.body1 rfl rfl ?_
  have hiN : i = L.length := by omega
  subst hiN
  exact ⟨rfl, hH.keep⟩

theorem iAskWorst (n m : Int) (ans : List Int) (a : Option Addr) (cap : Nat) (port : Int) (w : World) (ha : Sl rInt w a ans) : Fn Try.prog 30 [vint n, vint m, .slice a ans.length cap, vint port] w (fun v w1 => v = .tuple #[vint (askWorst n m ans port).1, .bool (askWorst n m ans port).2] ∧ Keep [] w w1) := by
  refine Fn.enter (n := 30) Try.func30 rfl rfl rfl ?_
  show WC _ _ _ _ [(0, vint n), (1, vint m), (2, .slice a ans.length cap), (3, vint port)] _
  have hH := Hp.start [] w
  refine WC.seq ?_
  refine WC.region ?_
  refine WL.u rfl rfl (Wt.plain rfl) (Ex.assign rfl) ?_
  refine WL.u rfl rfl (Wt.plain rfl) (Ex.assign rfl) ?_
  refine WL.next ?_
  refine WC.seq ?_
  refine WC.seq ?_
  refine WC.region ?_
  refine WL.u rfl rfl (Wt.plain rfl) (Ex.move rfl) ?_
  refine WL.u rfl rfl (Wt.plain rfl) (Ex.move rfl) ?_
  refine WL.u rfl rfl (Wt.plain rfl) (Ex.move rfl) ?_
  refine WL.call callable64 rfl (Wt.plain rfl) rfl rfl (ianswersOk n m ans _ _ _ (ha.kept hH.keep)) ?_
  rintro _ _ ⟨rfl, hw⟩; obtain rfl := hw.symm
  refine WL.u rfl rfl (Wt.plain rfl) (Ex.not rfl) ?_
  refine WL.u rfl rfl (Wt.plain rfl) (Ex.move rfl) ?_
  refine WL.split (t := 15) rfl (fun hg1_5 => ?_) (fun hg1_5 => ?_)
  · have hg1_5' := hg1_5; try simp only [decide_eq_true_eq, decide_eq_false_iff_not, Bool.not_eq_true', Bool.not_eq_false', Bool.not_eq_true, Bool.not_eq_false] at hg1_5'
    refine WL.pass rfl rfl (Wt.guard' rfl rfl rfl hg1_5 rfl) ?_
    refine WL.pass rfl rfl (Wt.guard' rfl rfl rfl hg1_5 rfl) ?_
    refine WL.pass rfl rfl (Wt.guard' rfl rfl rfl hg1_5 rfl) ?_
    refine WL.pass rfl rfl (Wt.guard' rfl rfl rfl hg1_5 rfl) ?_
    refine WL.pass rfl rfl (Wt.guard' rfl rfl rfl hg1_5 rfl) ?_
    refine WL.pass rfl rfl (Wt.guard' rfl rfl rfl hg1_5 rfl) ?_
    refine WL.u rfl rfl (Wt.plain rfl) (Ex.pickT rfl hg1_5 rfl) ?_
    refine WL.next ?_
    refine WC.condT rfl rfl ?_
    refine WC.seq ?_
    refine WC.region ?_
    refine WL.u rfl rfl (Wt.plain rfl) (Ex.assign rfl) ?_
    refine WL.u rfl rfl (Wt.plain rfl) (Ex.assign rfl) ?_
    refine WL.next ?_
    refine WC.ret ?_
    refine WN.retThen ?_
    refine WN.body2 rfl rfl rfl ?_
    exact ⟨by rw [askWorst_not (fun h => by rw [h.1] at hg1_5; cases hg1_5)] <;> rfl, hH.keep⟩
  have hg1_5' := hg1_5; try simp only [decide_eq_true_eq, decide_eq_false_iff_not, Bool.not_eq_true', Bool.not_eq_false', Bool.not_eq_true, Bool.not_eq_false] at hg1_5'
  have hab : ansB n m ans = true := by simpa using hg1_5
  obtain ⟨n, m, rfl, rfl, hA⟩ := ansB_ex hab
  have hlen := hA.len
  have hn5 := hA.n5
  have hm5 := hA.m5
  have hn1 := hA.n1
  refine WL.u rfl rfl (Wt.guard' rfl rfl rfl hg1_5 rfl) (Ex.move rfl) ?_
  refine WL.u rfl rfl (Wt.guard' rfl rfl rfl hg1_5 rfl) (Ex.move rfl) ?_
  refine WL.u rfl rfl (Wt.guard' rfl rfl rfl hg1_5 rfl) (Ex.lenSl Try.underlying24 rfl) ?_
  refine WL.u rfl rfl (Wt.guard' rfl rfl rfl hg1_5 rfl) (Ex.sub rfl rfl (by omega)) ?_
  refine WL.call callable58 rfl (Wt.guard' rfl rfl rfl hg1_5 rfl) rfl rfl (iwithin port 0 ((ans.length : Int) - 1) _) ?_
  rintro _ _ ⟨rfl, hw⟩; obtain rfl := hw.symm
  refine WL.u rfl rfl (Wt.guard' rfl rfl rfl hg1_5 rfl) (Ex.not rfl) ?_
  refine WL.u rfl rfl (Wt.plain rfl) (Ex.pickF rfl hg1_5 rfl) ?_
  refine WL.next ?_
  refine WC.cond rfl (fun hc1 => ?_) (fun hc1 => ?_)
  · have hc1' := hc1; try simp only [decide_eq_true_eq, decide_eq_false_iff_not, Bool.not_eq_true', Bool.not_eq_false', Bool.not_eq_true, Bool.not_eq_false] at hc1'
    refine WC.seq ?_
    refine WC.region ?_
    refine WL.u rfl rfl (Wt.plain rfl) (Ex.assign rfl) ?_
    refine WL.u rfl rfl (Wt.plain rfl) (Ex.assign rfl) ?_
    refine WL.next ?_
    refine WC.ret ?_
    refine WN.retThen ?_
    refine WN.body2 rfl rfl rfl ?_
    exact ⟨by rw [askWorst_not (fun h => by have h1 := h.2; omega)] <;> rfl, hH.keep⟩
  have hc1' := hc1; try simp only [decide_eq_true_eq, decide_eq_false_iff_not, Bool.not_eq_true', Bool.not_eq_false', Bool.not_eq_true, Bool.not_eq_false] at hc1'
  obtain ⟨port, rfl⟩ := Int.eq_ofNat_of_zero_le (show 0 ≤ port by omega)
  have hport : port < ans.length := by omega
  refine WC.skip ?_
  refine WN.next ?_
  refine WC.seq ?_
  refine WC.region ?_
  refine WL.u rfl rfl (Wt.plain rfl) (Ex.move rfl) ?_
  refine WL.u rfl rfl (Wt.plain rfl) (Ex.move rfl) ?_
  refine WL.u rfl rfl (Wt.plain rfl) (Ex.move rfl) ?_
  refine WL.call callable65 rfl (Wt.plain rfl) rfl rfl (ifits n m ans _ _ _ (ha.kept hH.keep) hA) ?_
  rintro _ wn ⟨hC, hN⟩; obtain ⟨hs, b26, cap26, cur26, rfl, hge26, hbb26, ho26, hgs⟩ := hN; replace hH := hH.push hC hge26 hbb26; clear hC
  refine WL.u rfl rfl (Wt.plain rfl) (Ex.move rfl) ?_
  refine WL.u rfl rfl (Wt.plain rfl) (Ex.move rfl) ?_
  refine WL.call callable67 rfl (Wt.plain rfl) rfl rfl (iworst n m hs (fits n m ans) ans _ _ _ _ port _ (ho26.slAt hH 0 rfl) hgs.r hA.list hport (by omega) (ha.kept hH.keep)) ?_
  rintro _ wn ⟨rfl, hC⟩; replace hH := hH.call hC; clear hC
  refine WL.u rfl rfl (Wt.plain rfl) (Ex.assign rfl) ?_
  refine WL.u rfl rfl (Wt.plain rfl) (Ex.assign rfl) ?_
  refine WL.next ?_
  refine WC.ret ?_
  refine WN.body2 rfl rfl rfl ?_
  exact ⟨by rw [askWorst_at hA hport] <;> rfl, hH.keep⟩

theorem sAskWorst (n m : Int) (ans : List Int) (a : Option Addr) (cap : Nat) (port : Int) (w : World) (ha : Sl rInt w a ans) : Fn Try.prog 29 [vint n, vint m, .slice a ans.length cap, vint port] w (fun v w1 => v = .tuple #[vint (askWorst n m ans port).1, .bool (askWorst n m ans port).2] ∧ Keep [] w w1) := by
  refine Fn.enter (n := 31) Try.func29 rfl rfl rfl ?_
  show WC _ _ _ _ [(0, vint n), (1, vint m), (2, .slice a ans.length cap), (3, vint port)] _
  have hH := Hp.start [] w
  refine WC.seq ?_
  refine WC.region ?_
  refine WL.u rfl rfl (Wt.plain rfl) (Ex.assign rfl) ?_
  refine WL.u rfl rfl (Wt.plain rfl) (Ex.assign rfl) ?_
  refine WL.next ?_
  refine WC.seq ?_
  refine WC.seq ?_
  refine WC.region ?_
  refine WL.u rfl rfl (Wt.plain rfl) (Ex.move rfl) ?_
  refine WL.u rfl rfl (Wt.plain rfl) (Ex.move rfl) ?_
  refine WL.u rfl rfl (Wt.plain rfl) (Ex.move rfl) ?_
  refine WL.call callable62 rfl (Wt.plain rfl) rfl rfl (sl8Given n m ans _ _ _ (ha.kept hH.keep)) ?_
  rintro _ _ ⟨rfl, hw⟩; obtain rfl := hw.symm
  refine WL.u rfl rfl (Wt.plain rfl) (Ex.not rfl) ?_
  refine WL.u rfl rfl (Wt.plain rfl) (Ex.move rfl) ?_
  refine WL.split (t := 15) rfl (fun hg1_5 => ?_) (fun hg1_5 => ?_)
  · have hg1_5' := hg1_5; try simp only [decide_eq_true_eq, decide_eq_false_iff_not, Bool.not_eq_true', Bool.not_eq_false', Bool.not_eq_true, Bool.not_eq_false] at hg1_5'
    refine WL.pass rfl rfl (Wt.guard' rfl rfl rfl hg1_5 rfl) ?_
    refine WL.pass rfl rfl (Wt.guard' rfl rfl rfl hg1_5 rfl) ?_
    refine WL.pass rfl rfl (Wt.guard' rfl rfl rfl hg1_5 rfl) ?_
    refine WL.pass rfl rfl (Wt.guard' rfl rfl rfl hg1_5 rfl) ?_
    refine WL.pass rfl rfl (Wt.guard' rfl rfl rfl hg1_5 rfl) ?_
    refine WL.pass rfl rfl (Wt.guard' rfl rfl rfl hg1_5 rfl) ?_
    refine WL.u rfl rfl (Wt.plain rfl) (Ex.pickT rfl hg1_5 rfl) ?_
    refine WL.next ?_
    refine WC.condT rfl rfl ?_
    refine WC.seq ?_
    refine WC.region ?_
    refine WL.u rfl rfl (Wt.plain rfl) (Ex.assign rfl) ?_
    refine WL.u rfl rfl (Wt.plain rfl) (Ex.assign rfl) ?_
    refine WL.next ?_
    refine WC.ret ?_
    refine WN.retThen ?_
    refine WN.body2 rfl rfl rfl ?_
    exact ⟨by rw [askWorst_not (fun h => by rw [h.1] at hg1_5; cases hg1_5)] <;> rfl, hH.keep⟩
  have hg1_5' := hg1_5; try simp only [decide_eq_true_eq, decide_eq_false_iff_not, Bool.not_eq_true', Bool.not_eq_false', Bool.not_eq_true, Bool.not_eq_false] at hg1_5'
  have hab : ansB n m ans = true := by simpa using hg1_5
  obtain ⟨n, m, rfl, rfl, hA⟩ := ansB_ex hab
  have hlen := hA.len
  have hn5 := hA.n5
  have hm5 := hA.m5
  have hn1 := hA.n1
  refine WL.u rfl rfl (Wt.guard' rfl rfl rfl hg1_5 rfl) (Ex.move rfl) ?_
  refine WL.u rfl rfl (Wt.guard' rfl rfl rfl hg1_5 rfl) (Ex.move rfl) ?_
  refine WL.u rfl rfl (Wt.guard' rfl rfl rfl hg1_5 rfl) (Ex.lenSl Try.underlying24 rfl) ?_
  refine WL.u rfl rfl (Wt.guard' rfl rfl rfl hg1_5 rfl) (Ex.sub rfl rfl (by omega)) ?_
  refine WL.call callable53 rfl (Wt.guard' rfl rfl rfl hg1_5 rfl) rfl rfl (sl6In port 0 ((ans.length : Int) - 1) _) ?_
  rintro _ _ ⟨rfl, hw⟩; obtain rfl := hw.symm
  refine WL.u rfl rfl (Wt.guard' rfl rfl rfl hg1_5 rfl) (Ex.not rfl) ?_
  refine WL.u rfl rfl (Wt.plain rfl) (Ex.pickF rfl hg1_5 rfl) ?_
  refine WL.next ?_
  refine WC.cond rfl (fun hc1 => ?_) (fun hc1 => ?_)
  · have hc1' := hc1; try simp only [decide_eq_true_eq, decide_eq_false_iff_not, Bool.not_eq_true', Bool.not_eq_false', Bool.not_eq_true, Bool.not_eq_false] at hc1'
    refine WC.seq ?_
    refine WC.region ?_
    refine WL.u rfl rfl (Wt.plain rfl) (Ex.assign rfl) ?_
    refine WL.u rfl rfl (Wt.plain rfl) (Ex.assign rfl) ?_
    refine WL.next ?_
    refine WC.ret ?_
    refine WN.retThen ?_
    refine WN.body2 rfl rfl rfl ?_
    exact ⟨by rw [askWorst_not (fun h => by have h1 := h.2; omega)] <;> rfl, hH.keep⟩
  have hc1' := hc1; try simp only [decide_eq_true_eq, decide_eq_false_iff_not, Bool.not_eq_true', Bool.not_eq_false', Bool.not_eq_true, Bool.not_eq_false] at hc1'
  obtain ⟨port, rfl⟩ := Int.eq_ofNat_of_zero_le (show 0 ≤ port by omega)
  have hport : port < ans.length := by omega
  refine WC.skip ?_
  refine WN.next ?_
  refine WC.seq ?_
  refine WC.region ?_
  refine WL.u rfl rfl (Wt.plain rfl) (Ex.move rfl) ?_
  refine WL.u rfl rfl (Wt.plain rfl) (Ex.move rfl) ?_
  refine WL.u rfl rfl (Wt.plain rfl) (Ex.move rfl) ?_
  refine WL.call callable63 rfl (Wt.plain rfl) rfl rfl (sl8All n m ans _ _ _ (ha.kept hH.keep) hA) ?_
  rintro _ wn ⟨hC, hN⟩; obtain ⟨hs, b26, cap26, cur26, rfl, hge26, hbb26, ho26, hgs⟩ := hN; replace hH := hH.push hC hge26 hbb26; clear hC
  refine WL.u rfl rfl (Wt.plain rfl) (Ex.move rfl) ?_
  refine WL.u rfl rfl (Wt.plain rfl) (Ex.lenSl Try.underlying24 rfl) ?_
  refine WL.u rfl rfl (Wt.plain rfl) (Ex.move rfl) ?_
  refine WL.call callable66 rfl (Wt.plain rfl) rfl rfl (sl8Worst n m hs (fits n m ans) ans _ _ port _ (ho26.slAt hH 0 rfl) hgs.r hA.list hport (by omega)) ?_
  rintro _ wn ⟨rfl, hC⟩; replace hH := hH.call hC; clear hC
  refine WL.u rfl rfl (Wt.plain rfl) (Ex.assign rfl) ?_
  refine WL.u rfl rfl (Wt.plain rfl) (Ex.assign rfl) ?_
  refine WL.next ?_
  refine WC.ret ?_
  refine WN.body2 rfl rfl rfl ?_
  exact ⟨by rw [askWorst_at hA hport] <;> rfl, hH.keep⟩

theorem iAskBest (n m : Int) (ans : List Int) (a : Option Addr) (cap : Nat) (w : World) (ha : Sl rInt w a ans) : Fn Try.prog 32 [vint n, vint m, .slice a ans.length cap] w (fun v w1 => v = .tuple #[vint (askBest n m ans).1, .bool (askBest n m ans).2] ∧ Keep [] w w1) := by
  refine Fn.enter (n := 37) Try.func32 rfl rfl rfl ?_
  show WC _ _ _ _ [(0, vint n), (1, vint m), (2, .slice a ans.length cap)] _
  have hH := Hp.start [] w
  refine WC.seq ?_
  refine WC.region ?_
  refine WL.u rfl rfl (Wt.plain rfl) (Ex.assign rfl) ?_
  refine WL.u rfl rfl (Wt.plain rfl) (Ex.assign rfl) ?_
  refine WL.next ?_
  refine WC.seq ?_
  refine WC.seq ?_
  refine WC.region ?_
  refine WL.u rfl rfl (Wt.plain rfl) (Ex.move rfl) ?_
  refine WL.u rfl rfl (Wt.plain rfl) (Ex.move rfl) ?_
  refine WL.u rfl rfl (Wt.plain rfl) (Ex.move rfl) ?_
  refine WL.call callable64 rfl (Wt.plain rfl) rfl rfl (ianswersOk n m ans _ _ _ (ha.kept hH.keep)) ?_
  rintro _ _ ⟨rfl, hw⟩; obtain rfl := hw.symm
  refine WL.u rfl rfl (Wt.plain rfl) (Ex.not rfl) ?_
  refine WL.next ?_
  refine WC.cond rfl (fun hc1 => ?_) (fun hc1 => ?_)
  · have hc1' := hc1; try simp only [decide_eq_true_eq, decide_eq_false_iff_not, Bool.not_eq_true', Bool.not_eq_false', Bool.not_eq_true, Bool.not_eq_false] at hc1'
    have hab : ansB n m ans = false := by simpa using hc1
    refine WC.seq ?_
    refine WC.region ?_
    refine WL.u rfl rfl (Wt.plain rfl) (Ex.assign rfl) ?_
    refine WL.u rfl rfl (Wt.plain rfl) (Ex.assign rfl) ?_
    refine WL.next ?_
    refine WC.ret ?_
    refine WN.retThen ?_
    refine WN.body2 rfl rfl rfl ?_
    exact ⟨by rw [askBest_not hab] <;> rfl, hH.keep⟩
  have hc1' := hc1; try simp only [decide_eq_true_eq, decide_eq_false_iff_not, Bool.not_eq_true', Bool.not_eq_false', Bool.not_eq_true, Bool.not_eq_false] at hc1'
  have hab : ansB n m ans = true := by simpa using hc1
  obtain ⟨n, m, rfl, rfl, hA⟩ := ansB_ex hab
  have hlen := hA.len
  have hn5 := hA.n5
  have hm5 := hA.m5
  have hn1 := hA.n1
  have hw81 := fun p => mostN_le (endL (fits n m ans) p) (fits n m ans).length
  refine WC.skip ?_
  refine WN.next ?_
  refine WC.seq ?_
  refine WC.region ?_
  refine WL.u rfl rfl (Wt.plain rfl) (Ex.move rfl) ?_
  refine WL.u rfl rfl (Wt.plain rfl) (Ex.move rfl) ?_
  refine WL.u rfl rfl (Wt.plain rfl) (Ex.move rfl) ?_
  refine WL.call callable65 rfl (Wt.plain rfl) rfl rfl (ifits n m ans _ _ _ (ha.kept hH.keep) hA) ?_
  rintro _ wn ⟨hC, hN⟩; obtain ⟨hs, b19, cap19, cur19, rfl, hge19, hbb19, ho19, hgs⟩ := hN; replace hH := hH.push hC hge19 hbb19; clear hC
  refine WL.u rfl rfl (Wt.plain rfl) (Ex.assign rfl) ?_
  refine WL.next ?_
  refine WC.seq ?_
  refine WC.region ?_
  refine WL.u rfl rfl (Wt.plain rfl) (Ex.assign rfl) ?_
  refine WL.next ?_
  refine WC.seq ?_
  refine WC.seq ?_
  refine WC.region ?_
  refine WL.u rfl rfl (Wt.plain rfl) (Ex.move rfl) ?_
  refine WL.u rfl rfl (Wt.plain rfl) (Ex.lenSl Try.underlying24 rfl) ?_
  refine WL.u rfl rfl (Wt.plain rfl) (Ex.move rfl) ?_
  refine WL.next ?_
  refine WC.block ?_
  refine WC.loop (ι := Nat) (fun i => [(2, .slice a ans.length cap), (8, vsl b19 hs.length cap19), (9, vint (bestN (worstR (fits n m ans)) i : Nat)), (20, .slice a ans.length cap), (21, vint ans.length), (22, vint i)]) (fun i wn => Hp [] w wn [(b19, .cells cur19 22 (0, 0))] ∧ GsR wn hs (fits n m ans) ∧ i ≤ ans.length) (fun i => ans.length - i) (0) (by exact ⟨rfl, rfl, rfl, rfl, rfl, rfl, trivial⟩) ?_ ?_
  · exact ⟨hH, hgs.r, by omega⟩
  rintro i wn ⟨hH, hR, hi⟩
  have hbl := bestN_le (worstR (fits n m ans)) i
  intro mu0 hmu; try dsimp only at hmu
  show WC _ _ _ _ [(2, .slice a ans.length cap), (8, vsl b19 hs.length cap19), (9, vint (bestN (worstR (fits n m ans)) i : Nat)), (20, .slice a ans.length cap), (21, vint ans.length), (22, vint i)] _
  refine WC.seq ?_
  refine WC.region ?_
  refine WL.u rfl rfl (Wt.plain rfl) (Ex.lss rfl rfl) ?_
  refine WL.next ?_
  refine WC.seq ?_
  refine WC.cond rfl (fun hc2 => ?_) (fun hc2 => ?_)
  · have hc2' := hc2; try simp only [decide_eq_true_eq, decide_eq_false_iff_not, Bool.not_eq_true', Bool.not_eq_false', Bool.not_eq_true, Bool.not_eq_false] at hc2'
    have hlt : i < ans.length := by omega
    refine WC.skip ?_
    refine WN.next ?_
    refine WC.seq ?_
    refine WC.block ?_
    refine WC.seq ?_
    refine WC.region ?_
    refine WL.u rfl rfl (Wt.plain rfl) (Ex.move rfl) ?_
    refine WL.u rfl rfl (Wt.plain rfl) (Ex.assign rfl) ?_
    refine WL.next ?_
    refine WC.seq ?_
    refine WC.region ?_
    refine WL.u rfl rfl (Wt.plain rfl) (Ex.move rfl) ?_
    refine WL.u rfl rfl (Wt.plain rfl) (Ex.move rfl) ?_
    refine WL.u rfl rfl (Wt.plain rfl) (Ex.move rfl) ?_
    refine WL.call callable67 rfl (Wt.plain rfl) rfl rfl (iworst n m hs (fits n m ans) ans _ _ _ _ i _ (ho19.slAt hH 0 rfl) hR hA.list (by omega) (by omega) (ha.kept hH.keep)) ?_
    rintro _ wn ⟨rfl, hC⟩; replace hR := hR.kept hC; replace hH := hH.call hC; clear hC
    refine WL.u rfl rfl (Wt.plain rfl) (Ex.move rfl) ?_
    refine WL.u rfl rfl (Wt.plain rfl) (Ex.move rfl) ?_
    refine WL.u rfl rfl (Wt.plain rfl) (Ex.move rfl) ?_
    refine WL.call callable67 rfl (Wt.plain rfl) rfl rfl (iworst n m hs (fits n m ans) ans _ _ _ _ (bestN (worstR (fits n m ans)) i) _ (ho19.slAt hH 0 rfl) hR hA.list (by omega) (by omega) (ha.kept hH.keep)) ?_
    rintro _ wn ⟨rfl, hC⟩; replace hR := hR.kept hC; replace hH := hH.call hC; clear hC
    refine WL.u rfl rfl (Wt.plain rfl) (Ex.lss rfl rfl) ?_
    refine WL.next ?_
    refine WC.cond rfl (fun hc3 => ?_) (fun hc3 => ?_)
    · have hc3' := hc3; try simp only [decide_eq_true_eq, decide_eq_false_iff_not, Bool.not_eq_true', Bool.not_eq_false', Bool.not_eq_true, Bool.not_eq_false] at hc3'
      refine WC.region ?_
      refine WL.u rfl rfl (Wt.plain rfl) (Ex.move rfl) ?_
      refine WL.u rfl rfl (Wt.plain rfl) (Ex.assign rfl) ?_
      refine WL.last ?_
      refine WN.normalBlock ?_
      refine WN.next ?_
      refine WC.region ?_
      refine WL.u rfl rfl (Wt.plain rfl) (Ex.add rfl rfl (by omega)) ?_
      refine WL.u rfl rfl (Wt.plain rfl) (Ex.move rfl) ?_
      refine WL.last ?_
      have e : bestN (worstR (fits n m ans)) (i + 1) = i := by rw [bestN, if_pos (by omega)]
      refine WN.round (i + 1) (by exact ⟨rfl, rfl, congrArg (fun x : Nat => some (vint x)) (show _ = bestN (worstR (fits n m ans)) (i + 1) from e.symm), rfl, rfl, rfl, trivial⟩) ?_ ?_
      · exact ⟨hH, hR, by omega⟩
      · (try dsimp only); omega
    have hc3' := hc3; try simp only [decide_eq_true_eq, decide_eq_false_iff_not, Bool.not_eq_true', Bool.not_eq_false', Bool.not_eq_true, Bool.not_eq_false] at hc3'
    refine WC.skip ?_
    refine WN.normalBlock ?_
    refine WN.next ?_
    refine WC.region ?_
    refine WL.u rfl rfl (Wt.plain rfl) (Ex.add rfl rfl (by omega)) ?_
    refine WL.u rfl rfl (Wt.plain rfl) (Ex.move rfl) ?_
    refine WL.last ?_
    have e : bestN (worstR (fits n m ans)) (i + 1) = bestN (worstR (fits n m ans)) i := by rw [bestN, if_neg (by omega)]
    refine WN.round (i + 1) (by exact ⟨rfl, rfl, congrArg (fun x : Nat => some (vint x)) (show _ = bestN (worstR (fits n m ans)) (i + 1) from e.symm), rfl, rfl, rfl, trivial⟩) ?_ ?_
    · exact ⟨hH, hR, by omega⟩
    · (try dsimp only); omega
  have hc2' := hc2; try simp only [decide_eq_true_eq, decide_eq_false_iff_not, Bool.not_eq_true', Bool.not_eq_false', Bool.not_eq_true, Bool.not_eq_false] at hc2'
  refine WC.exit ?_
  refine WN.exitThen ?_
  refine WN.exitThen ?_
  refine WN.exitHere ?_
  refine WN.next ?_
  refine WC.seq ?_
  refine WC.region ?_
  refine WL.u rfl rfl (Wt.plain rfl) (Ex.move rfl) ?_
  refine WL.u rfl rfl (Wt.plain rfl) (Ex.assign rfl) ?_
  refine WL.u rfl rfl (Wt.plain rfl) (Ex.assign rfl) ?_
  refine WL.next ?_
  refine WC.ret ?_
  refine WN.body2 rfl rfl rfl ?_
  have hiN : i = ans.length := by omega
  subst hiN
  exact ⟨by rw [askBest_at hA] <;> rfl, hH.keep⟩

theorem sAskBest (n m : Int) (ans : List Int) (a : Option Addr) (cap : Nat) (w : World) (ha : Sl rInt w a ans) : Fn Try.prog 31 [vint n, vint m, .slice a ans.length cap] w (fun v w1 => v = .tuple #[vint (askBest n m ans).1, .bool (askBest n m ans).2] ∧ Keep [] w w1) := by
  refine Fn.enter (n := 39) Try.func31 rfl rfl rfl ?_
  show WC _ _ _ _ [(0, vint n), (1, vint m), (2, .slice a ans.length cap)] _
  have hH := Hp.start [] w
  refine WC.seq ?_
  refine WC.region ?_
  refine WL.u rfl rfl (Wt.plain rfl) (Ex.assign rfl) ?_
  refine WL.u rfl rfl (Wt.plain rfl) (Ex.assign rfl) ?_
  refine WL.next ?_
  refine WC.seq ?_
  refine WC.seq ?_
  refine WC.region ?_
  refine WL.u rfl rfl (Wt.plain rfl) (Ex.move rfl) ?_
  refine WL.u rfl rfl (Wt.plain rfl) (Ex.move rfl) ?_
  refine WL.u rfl rfl (Wt.plain rfl) (Ex.move rfl) ?_
  refine WL.call callable62 rfl (Wt.plain rfl) rfl rfl (sl8Given n m ans _ _ _ (ha.kept hH.keep)) ?_
  rintro _ _ ⟨rfl, hw⟩; obtain rfl := hw.symm
  refine WL.u rfl rfl (Wt.plain rfl) (Ex.not rfl) ?_
  refine WL.next ?_
  refine WC.cond rfl (fun hc1 => ?_) (fun hc1 => ?_)
  · have hc1' := hc1; try simp only [decide_eq_true_eq, decide_eq_false_iff_not, Bool.not_eq_true', Bool.not_eq_false', Bool.not_eq_true, Bool.not_eq_false] at hc1'
    have hab : ansB n m ans = false := by simpa using hc1
    refine WC.seq ?_
    refine WC.region ?_
    refine WL.u rfl rfl (Wt.plain rfl) (Ex.assign rfl) ?_
    refine WL.u rfl rfl (Wt.plain rfl) (Ex.assign rfl) ?_
    refine WL.next ?_
    refine WC.ret ?_
    refine WN.retThen ?_
    refine WN.body2 rfl rfl rfl ?_
    exact ⟨by rw [askBest_not hab] <;> rfl, hH.keep⟩
  have hc1' := hc1; try simp only [decide_eq_true_eq, decide_eq_false_iff_not, Bool.not_eq_true', Bool.not_eq_false', Bool.not_eq_true, Bool.not_eq_false] at hc1'
  have hab : ansB n m ans = true := by simpa using hc1
  obtain ⟨n, m, rfl, rfl, hA⟩ := ansB_ex hab
  have hlen := hA.len
  have hn5 := hA.n5
  have hm5 := hA.m5
  have hn1 := hA.n1
  have hw81 := fun p => mostN_le (endL (fits n m ans) p) (fits n m ans).length
  refine WC.skip ?_
  refine WN.next ?_
  refine WC.seq ?_
  refine WC.region ?_
  refine WL.u rfl rfl (Wt.plain rfl) (Ex.move rfl) ?_
  refine WL.u rfl rfl (Wt.plain rfl) (Ex.move rfl) ?_
  refine WL.u rfl rfl (Wt.plain rfl) (Ex.move rfl) ?_
  refine WL.call callable63 rfl (Wt.plain rfl) rfl rfl (sl8All n m ans _ _ _ (ha.kept hH.keep) hA) ?_
  rintro _ wn ⟨hC, hN⟩; obtain ⟨hs, b19, cap19, cur19, rfl, hge19, hbb19, ho19, hgs⟩ := hN; replace hH := hH.push hC hge19 hbb19; clear hC
  refine WL.u rfl rfl (Wt.plain rfl) (Ex.assign rfl) ?_
  refine WL.next ?_
  refine WC.seq ?_
  refine WC.region ?_
  refine WL.u rfl rfl (Wt.plain rfl) (Ex.assign rfl) ?_
  refine WL.next ?_
  refine WC.seq ?_
  refine WC.seq ?_
  refine WC.region ?_
  refine WL.u rfl rfl (Wt.plain rfl) (Ex.assign rfl) ?_
  refine WL.next ?_
  refine WC.block ?_
  refine WC.loop (ι := Nat) (fun i => [(2, .slice a ans.length cap), (8, vsl b19 hs.length cap19), (9, vint (bestN (worstR (fits n m ans)) i : Nat)), (10, vint i)]) (fun i wn => Hp [] w wn [(b19, .cells cur19 22 (0, 0))] ∧ GsR wn hs (fits n m ans) ∧ i ≤ ans.length) (fun i => ans.length - i) (1) (by exact ⟨rfl, rfl, congrArg (fun x : Nat => some (vint x)) (bestN_one _).symm, rfl, trivial⟩) ?_ ?_
  · exact ⟨hH, hgs.r, by omega⟩
  rintro i wn ⟨hH, hR, hi⟩
  have hbl := bestN_le (worstR (fits n m ans)) i
  intro mu0 hmu; try dsimp only at hmu
  show WC _ _ _ _ [(2, .slice a ans.length cap), (8, vsl b19 hs.length cap19), (9, vint (bestN (worstR (fits n m ans)) i : Nat)), (10, vint i)] _
  refine WC.seq ?_
  refine WC.seq ?_
  refine WC.region ?_
  refine WL.u rfl rfl (Wt.plain rfl) (Ex.move rfl) ?_
  refine WL.u rfl rfl (Wt.plain rfl) (Ex.move rfl) ?_
  refine WL.u rfl rfl (Wt.plain rfl) (Ex.lenSl Try.underlying24 rfl) ?_
  refine WL.u rfl rfl (Wt.plain rfl) (Ex.lss rfl rfl) ?_
  refine WL.next ?_
  refine WC.cond rfl (fun hc2 => ?_) (fun hc2 => ?_)
  · have hc2' := hc2; try simp only [decide_eq_true_eq, decide_eq_false_iff_not, Bool.not_eq_true', Bool.not_eq_false', Bool.not_eq_true, Bool.not_eq_false] at hc2'
    have hlt : i < ans.length := by omega
    refine WC.skip ?_
    refine WN.next ?_
    refine WC.seq ?_
    refine WC.block ?_
    refine WC.seq ?_
    refine WC.region ?_
    refine WL.u rfl rfl (Wt.plain rfl) (Ex.move rfl) ?_
    refine WL.u rfl rfl (Wt.plain rfl) (Ex.move rfl) ?_
    refine WL.u rfl rfl (Wt.plain rfl) (Ex.lenSl Try.underlying24 rfl) ?_
    refine WL.u rfl rfl (Wt.plain rfl) (Ex.move rfl) ?_
    refine WL.call callable66 rfl (Wt.plain rfl) rfl rfl (sl8Worst n m hs (fits n m ans) ans _ _ i _ (ho19.slAt hH 0 rfl) hR hA.list (by omega) (by omega)) ?_
    rintro _ wn ⟨rfl, hC⟩; replace hR := hR.kept hC; replace hH := hH.call hC; clear hC
    refine WL.u rfl rfl (Wt.plain rfl) (Ex.move rfl) ?_
    refine WL.u rfl rfl (Wt.plain rfl) (Ex.move rfl) ?_
    refine WL.u rfl rfl (Wt.plain rfl) (Ex.lenSl Try.underlying24 rfl) ?_
    refine WL.u rfl rfl (Wt.plain rfl) (Ex.move rfl) ?_
    refine WL.call callable66 rfl (Wt.plain rfl) rfl rfl (sl8Worst n m hs (fits n m ans) ans _ _ (bestN (worstR (fits n m ans)) i) _ (ho19.slAt hH 0 rfl) hR hA.list (by omega) (by omega)) ?_
    rintro _ wn ⟨rfl, hC⟩; replace hR := hR.kept hC; replace hH := hH.call hC; clear hC
    refine WL.u rfl rfl (Wt.plain rfl) (Ex.lss rfl rfl) ?_
    refine WL.next ?_
    refine WC.cond rfl (fun hc3 => ?_) (fun hc3 => ?_)
    · have hc3' := hc3; try simp only [decide_eq_true_eq, decide_eq_false_iff_not, Bool.not_eq_true', Bool.not_eq_false', Bool.not_eq_true, Bool.not_eq_false] at hc3'
      refine WC.region ?_
      refine WL.u rfl rfl (Wt.plain rfl) (Ex.move rfl) ?_
      refine WL.u rfl rfl (Wt.plain rfl) (Ex.assign rfl) ?_
      refine WL.last ?_
      refine WN.normalBlock ?_
      refine WN.next ?_
      refine WC.region ?_
      refine WL.u rfl rfl (Wt.plain rfl) (Ex.move rfl) ?_
      refine WL.u rfl rfl (Wt.plain rfl) (Ex.add rfl rfl (by omega)) ?_
      refine WL.u rfl rfl (Wt.plain rfl) (Ex.assign rfl) ?_
      refine WL.last ?_
      have e : bestN (worstR (fits n m ans)) (i + 1) = i := by rw [bestN, if_pos (by omega)]
      refine WN.round (i + 1) (by exact ⟨rfl, rfl, congrArg (fun x : Nat => some (vint x)) (show _ = bestN (worstR (fits n m ans)) (i + 1) from e.symm), rfl, trivial⟩) ?_ ?_
      · exact ⟨hH, hR, by omega⟩
      · (try dsimp only); omega
    have hc3' := hc3; try simp only [decide_eq_true_eq, decide_eq_false_iff_not, Bool.not_eq_true', Bool.not_eq_false', Bool.not_eq_true, Bool.not_eq_false] at hc3'
    refine WC.skip ?_
    refine WN.normalBlock ?_
    refine WN.next ?_
    refine WC.region ?_
    refine WL.u rfl rfl (Wt.plain rfl) (Ex.move rfl) ?_
    refine WL.u rfl rfl (Wt.plain rfl) (Ex.add rfl rfl (by omega)) ?_
    refine WL.u rfl rfl (Wt.plain rfl) (Ex.assign rfl) ?_
    refine WL.last ?_
    have e : bestN (worstR (fits n m ans)) (i + 1) = bestN (worstR (fits n m ans)) i := by rw [bestN, if_neg (by omega)]
    refine WN.round (i + 1) (by exact ⟨rfl, rfl, congrArg (fun x : Nat => some (vint x)) (show _ = bestN (worstR (fits n m ans)) (i + 1) from e.symm), rfl, trivial⟩) ?_ ?_
    · exact ⟨hH, hR, by omega⟩
    · (try dsimp only); omega
  have hc2' := hc2; try simp only [decide_eq_true_eq, decide_eq_false_iff_not, Bool.not_eq_true', Bool.not_eq_false', Bool.not_eq_true, Bool.not_eq_false] at hc2'
  refine WC.exit ?_
  refine WN.exitThen ?_
  refine WN.exitThen ?_
  refine WN.exitHere ?_
  refine WN.next ?_
  refine WC.seq ?_
  refine WC.region ?_
  refine WL.u rfl rfl (Wt.plain rfl) (Ex.move rfl) ?_
  refine WL.u rfl rfl (Wt.plain rfl) (Ex.assign rfl) ?_
  refine WL.u rfl rfl (Wt.plain rfl) (Ex.assign rfl) ?_
  refine WL.next ?_
  refine WC.ret ?_
  refine WN.body2 rfl rfl rfl ?_
  have hiN : i = ans.length := by omega
  subst hiN
  exact ⟨by rw [askBest_at hA] <;> rfl, hH.keep⟩

theorem lawExactAskWorst (n m : Int) (ans : List Int) (a : Option Addr) (cap : Nat) (port : Int) (w : World) (ha : Sl rInt w a ans) (hb : ∀ x ∈ ans, -9223372036854775808 ≤ x ∧ x ≤ 9223372036854775807) : Fn Try.prog 5 [vint n, vint m, .slice a ans.length cap, vint port] w (fun v w1 => v = .bool true ∧ Keep [] w w1) := by
  refine Fn.enter (n := 49) Try.func5 rfl rfl rfl ?_
  show WC _ _ _ _ [(0, vint n), (1, vint m), (2, .slice a ans.length cap), (3, vint port)] _
  have hH := Hp.start [] w
  refine WC.seq ?_
  refine WC.region ?_
  refine WL.u rfl rfl (Wt.plain rfl) (Ex.assign rfl) ?_
  refine WL.next ?_
  refine WC.seq ?_
  refine WC.seq ?_
  refine WC.region ?_
  refine WL.u rfl rfl (Wt.plain rfl) (Ex.move rfl) ?_
  refine WL.u rfl rfl (Wt.plain rfl) (Ex.lenSl Try.underlying24 rfl) ?_
  refine WL.u rfl rfl (Wt.plain rfl) (Ex.gtr rfl rfl) ?_
  refine WL.next ?_
  refine WC.cond rfl (fun hc1 => ?_) (fun hc1 => ?_)
  · have hc1' := hc1; try simp only [decide_eq_true_eq, decide_eq_false_iff_not, Bool.not_eq_true', Bool.not_eq_false', Bool.not_eq_true, Bool.not_eq_false] at hc1'
    refine WC.seq ?_
    refine WC.region ?_
    refine WL.u rfl rfl (Wt.plain rfl) (Ex.assign rfl) ?_
    refine WL.next ?_
    refine WC.ret ?_
    refine WN.retThen ?_
    refine WN.body1 rfl rfl ?_
    exact ⟨rfl, hH.keep⟩
  have hc1' := hc1; try simp only [decide_eq_true_eq, decide_eq_false_iff_not, Bool.not_eq_true', Bool.not_eq_false', Bool.not_eq_true, Bool.not_eq_false] at hc1'
  refine WC.skip ?_
  refine WN.next ?_
  refine WC.seq ?_
  refine WC.region ?_
  refine WL.u rfl rfl (Wt.plain rfl) (Ex.move rfl) ?_
  refine WL.u rfl rfl (Wt.plain rfl) (Ex.move rfl) ?_
  refine WL.u rfl rfl (Wt.plain rfl) (Ex.move rfl) ?_
  refine WL.call callable27 rfl (Wt.plain rfl) rfl rfl (toIntS ans _ _ _ (ha.kept hH.keep) (by omega)) ?_
  rintro _ wn ⟨hC, hN⟩; obtain ⟨b101, cap101, cur101, rfl, hge, hbb, ho101⟩ := hN.own; replace hH := hH.push hC hge hbb; clear hC hN
  refine WL.u rfl rfl (Wt.plain rfl) (Ex.move rfl) ?_
  refine WL.call callable29 rfl (Wt.plain rfl) rfl rfl (sAskWorst n m ans _ _ port _ (ho101.slAt hH 0 rfl)) ?_
  rintro _ wn ⟨rfl, hC⟩; replace hH := hH.call hC; clear hC
  refine WL.u rfl rfl (Wt.plain rfl) (Ex.move rfl) ?_
  refine WL.u rfl rfl (Wt.plain rfl) (Ex.extract rfl rfl) ?_
  refine WL.u rfl rfl (Wt.plain rfl) (Ex.extract rfl rfl) ?_
  refine WL.u rfl rfl (Wt.plain rfl) (Ex.assign rfl) ?_
  refine WL.u rfl rfl (Wt.plain rfl) (Ex.assign rfl) ?_
  refine WL.next ?_
  refine WC.seq ?_
  refine WC.region ?_
  refine WL.u rfl rfl (Wt.plain rfl) (Ex.move rfl) ?_
  refine WL.call callable27 rfl (Wt.plain rfl) rfl rfl (toIntS ans _ _ _ (ha.kept hH.keep) (by omega)) ?_
  rintro _ wn ⟨hC, hN⟩; obtain ⟨b102, cap102, cur102, rfl, hge, hbb, ho102⟩ := hN.own; replace hH := hH.push hC hge hbb; clear hC hN
  refine WL.u rfl rfl (Wt.plain rfl) (Ex.assign rfl) ?_
  refine WL.next ?_
  refine WC.seq ?_
  refine WC.region ?_
  refine WL.u rfl rfl (Wt.plain rfl) (Ex.move rfl) ?_
  refine WL.u rfl rfl (Wt.plain rfl) (Ex.move rfl) ?_
  refine WL.u rfl rfl (Wt.plain rfl) (Ex.move rfl) ?_
  refine WL.u rfl rfl (Wt.plain rfl) (Ex.move rfl) ?_
  refine WL.call callable30 rfl (Wt.plain rfl) rfl rfl (iAskWorst n m ans _ _ port _ (ho102.slAt hH 0 rfl)) ?_
  rintro _ wn ⟨rfl, hC⟩; replace hH := hH.call hC; clear hC
  refine WL.u rfl rfl (Wt.plain rfl) (Ex.move rfl) ?_
  refine WL.u rfl rfl (Wt.plain rfl) (Ex.extract rfl rfl) ?_
  refine WL.u rfl rfl (Wt.plain rfl) (Ex.extract rfl rfl) ?_
  refine WL.u rfl rfl (Wt.plain rfl) (Ex.assign rfl) ?_
  refine WL.u rfl rfl (Wt.plain rfl) (Ex.assign rfl) ?_
  refine WL.next ?_
  refine WC.seq ?_
  refine WC.seq ?_
  refine WC.region ?_
  refine WL.u rfl rfl (Wt.plain rfl) (Ex.move rfl) ?_
  refine WL.u rfl rfl (Wt.plain rfl) (Ex.move rfl) ?_
  refine WL.u rfl rfl (Wt.plain rfl) (Ex.neq rfl rfl) ?_
  refine WL.u rfl rfl (Wt.plain rfl) (Ex.move rfl) ?_
  refine WL.split (t := 39) rfl (fun hg6_3 => ?_) (fun hg6_3 => ?_)
  · exfalso; simp at hg6_3
  have hg6_3' := hg6_3; try simp only [decide_eq_true_eq, decide_eq_false_iff_not, Bool.not_eq_true', Bool.not_eq_false', Bool.not_eq_true, Bool.not_eq_false] at hg6_3'
  refine WL.u rfl rfl (Wt.guard' rfl rfl rfl hg6_3 rfl) (Ex.move rfl) ?_
  refine WL.u rfl rfl (Wt.guard' rfl rfl rfl hg6_3 rfl) (Ex.move rfl) ?_
  refine WL.u rfl rfl (Wt.guard' rfl rfl rfl hg6_3 rfl) (Ex.neqB Try.underlying4 rfl rfl) ?_
  refine WL.u rfl rfl (Wt.plain rfl) (Ex.pickF rfl hg6_3 rfl) ?_
  refine WL.next ?_
  refine WC.condF rfl (by simp) ?_
  refine WC.skip ?_
  refine WN.next ?_
  refine WC.seq ?_
  refine WC.seq ?_
  refine WC.region ?_
  refine WL.u rfl rfl (Wt.plain rfl) (Ex.move rfl) ?_
  refine WL.u rfl rfl (Wt.plain rfl) (Ex.move rfl) ?_
  refine WL.call callable27 rfl (Wt.plain rfl) rfl rfl (toIntS ans _ _ _ (ha.kept hH.keep) (by omega)) ?_
  rintro _ wn ⟨hC, hN⟩; obtain ⟨b103, cap103, cur103, rfl, hge, hbb, ho103⟩ := hN.own; replace hH := hH.push hC hge hbb; clear hC hN
  refine WL.call callable21 rfl (Wt.plain rfl) rfl rfl (eqIntS ans ans _ _ _ _ _ (ho102.slAt hH 1 rfl) (ho103.slAt hH 0 rfl)) ?_
  rintro _ wn ⟨rfl, hC⟩; replace hH := hH.dr hC; clear hC
  refine WL.u rfl rfl (Wt.plain rfl) (Ex.not rfl) ?_
  refine WL.next ?_
  refine WC.condF rfl (by simp) ?_
  refine WC.skip ?_
  refine WN.next ?_
  refine WC.seq ?_
  refine WC.region ?_
  refine WL.u rfl rfl (Wt.plain rfl) (Ex.assign rfl) ?_
  refine WL.next ?_
  refine WC.ret ?_
  refine WN.body1 rfl rfl ?_
  exact ⟨rfl, hH.keep⟩

theorem lawExactAskBest (n m : Int) (ans : List Int) (a : Option Addr) (cap : Nat) (w : World) (ha : Sl rInt w a ans) (hb : ∀ x ∈ ans, -9223372036854775808 ≤ x ∧ x ≤ 9223372036854775807) : Fn Try.prog 6 [vint n, vint m, .slice a ans.length cap] w (fun v w1 => v = .bool true ∧ Keep [] w w1) := by
  refine Fn.enter (n := 45) Try.func6 rfl rfl rfl ?_
  show WC _ _ _ _ [(0, vint n), (1, vint m), (2, .slice a ans.length cap)] _
  have hH := Hp.start [] w
  refine WC.seq ?_
  refine WC.region ?_
  refine WL.u rfl rfl (Wt.plain rfl) (Ex.assign rfl) ?_
  refine WL.next ?_
  refine WC.seq ?_
  refine WC.seq ?_
  refine WC.region ?_
  refine WL.u rfl rfl (Wt.plain rfl) (Ex.move rfl) ?_
  refine WL.u rfl rfl (Wt.plain rfl) (Ex.lenSl Try.underlying24 rfl) ?_
  refine WL.u rfl rfl (Wt.plain rfl) (Ex.gtr rfl rfl) ?_
  refine WL.next ?_
  refine WC.cond rfl (fun hc1 => ?_) (fun hc1 => ?_)
  · have hc1' := hc1; try simp only [decide_eq_true_eq, decide_eq_false_iff_not, Bool.not_eq_true', Bool.not_eq_false', Bool.not_eq_true, Bool.not_eq_false] at hc1'
    refine WC.seq ?_
    refine WC.region ?_
    refine WL.u rfl rfl (Wt.plain rfl) (Ex.assign rfl) ?_
    refine WL.next ?_
    refine WC.ret ?_
    refine WN.retThen ?_
    refine WN.body1 rfl rfl ?_
    exact ⟨rfl, hH.keep⟩
  have hc1' := hc1; try simp only [decide_eq_true_eq, decide_eq_false_iff_not, Bool.not_eq_true', Bool.not_eq_false', Bool.not_eq_true, Bool.not_eq_false] at hc1'
  refine WC.skip ?_
  refine WN.next ?_
  refine WC.seq ?_
  refine WC.region ?_
  refine WL.u rfl rfl (Wt.plain rfl) (Ex.move rfl) ?_
  refine WL.u rfl rfl (Wt.plain rfl) (Ex.move rfl) ?_
  refine WL.u rfl rfl (Wt.plain rfl) (Ex.move rfl) ?_
  refine WL.call callable27 rfl (Wt.plain rfl) rfl rfl (toIntS ans _ _ _ (ha.kept hH.keep) (by omega)) ?_
  rintro _ wn ⟨hC, hN⟩; obtain ⟨b101, cap101, cur101, rfl, hge, hbb, ho101⟩ := hN.own; replace hH := hH.push hC hge hbb; clear hC hN
  refine WL.call callable31 rfl (Wt.plain rfl) rfl rfl (sAskBest n m ans _ _ _ (ho101.slAt hH 0 rfl)) ?_
  rintro _ wn ⟨rfl, hC⟩; replace hH := hH.call hC; clear hC
  refine WL.u rfl rfl (Wt.plain rfl) (Ex.move rfl) ?_
  refine WL.u rfl rfl (Wt.plain rfl) (Ex.extract rfl rfl) ?_
  refine WL.u rfl rfl (Wt.plain rfl) (Ex.extract rfl rfl) ?_
  refine WL.u rfl rfl (Wt.plain rfl) (Ex.assign rfl) ?_
  refine WL.u rfl rfl (Wt.plain rfl) (Ex.assign rfl) ?_
  refine WL.next ?_
  refine WC.seq ?_
  refine WC.region ?_
  refine WL.u rfl rfl (Wt.plain rfl) (Ex.move rfl) ?_
  refine WL.call callable27 rfl (Wt.plain rfl) rfl rfl (toIntS ans _ _ _ (ha.kept hH.keep) (by omega)) ?_
  rintro _ wn ⟨hC, hN⟩; obtain ⟨b102, cap102, cur102, rfl, hge, hbb, ho102⟩ := hN.own; replace hH := hH.push hC hge hbb; clear hC hN
  refine WL.u rfl rfl (Wt.plain rfl) (Ex.assign rfl) ?_
  refine WL.next ?_
  refine WC.seq ?_
  refine WC.region ?_
  refine WL.u rfl rfl (Wt.plain rfl) (Ex.move rfl) ?_
  refine WL.u rfl rfl (Wt.plain rfl) (Ex.move rfl) ?_
  refine WL.u rfl rfl (Wt.plain rfl) (Ex.move rfl) ?_
  refine WL.call callable32 rfl (Wt.plain rfl) rfl rfl (iAskBest n m ans _ _ _ (ho102.slAt hH 0 rfl)) ?_
  rintro _ wn ⟨rfl, hC⟩; replace hH := hH.call hC; clear hC
  refine WL.u rfl rfl (Wt.plain rfl) (Ex.move rfl) ?_
  refine WL.u rfl rfl (Wt.plain rfl) (Ex.extract rfl rfl) ?_
  refine WL.u rfl rfl (Wt.plain rfl) (Ex.extract rfl rfl) ?_
  refine WL.u rfl rfl (Wt.plain rfl) (Ex.assign rfl) ?_
  refine WL.u rfl rfl (Wt.plain rfl) (Ex.assign rfl) ?_
  refine WL.next ?_
  refine WC.seq ?_
  refine WC.seq ?_
  refine WC.region ?_
  refine WL.u rfl rfl (Wt.plain rfl) (Ex.move rfl) ?_
  refine WL.u rfl rfl (Wt.plain rfl) (Ex.move rfl) ?_
  refine WL.u rfl rfl (Wt.plain rfl) (Ex.neq rfl rfl) ?_
  refine WL.u rfl rfl (Wt.plain rfl) (Ex.move rfl) ?_
  refine WL.split (t := 35) rfl (fun hg6_3 => ?_) (fun hg6_3 => ?_)
  · exfalso; simp at hg6_3
  have hg6_3' := hg6_3; try simp only [decide_eq_true_eq, decide_eq_false_iff_not, Bool.not_eq_true', Bool.not_eq_false', Bool.not_eq_true, Bool.not_eq_false] at hg6_3'
  refine WL.u rfl rfl (Wt.guard' rfl rfl rfl hg6_3 rfl) (Ex.move rfl) ?_
  refine WL.u rfl rfl (Wt.guard' rfl rfl rfl hg6_3 rfl) (Ex.move rfl) ?_
  refine WL.u rfl rfl (Wt.guard' rfl rfl rfl hg6_3 rfl) (Ex.neqB Try.underlying4 rfl rfl) ?_
  refine WL.u rfl rfl (Wt.plain rfl) (Ex.pickF rfl hg6_3 rfl) ?_
  refine WL.next ?_
  refine WC.condF rfl (by simp) ?_
  refine WC.skip ?_
  refine WN.next ?_
  refine WC.seq ?_
  refine WC.seq ?_
  refine WC.region ?_
  refine WL.u rfl rfl (Wt.plain rfl) (Ex.move rfl) ?_
  refine WL.u rfl rfl (Wt.plain rfl) (Ex.move rfl) ?_
  refine WL.call callable27 rfl (Wt.plain rfl) rfl rfl (toIntS ans _ _ _ (ha.kept hH.keep) (by omega)) ?_
  rintro _ wn ⟨hC, hN⟩; obtain ⟨b103, cap103, cur103, rfl, hge, hbb, ho103⟩ := hN.own; replace hH := hH.push hC hge hbb; clear hC hN
  refine WL.call callable21 rfl (Wt.plain rfl) rfl rfl (eqIntS ans ans _ _ _ _ _ (ho102.slAt hH 1 rfl) (ho103.slAt hH 0 rfl)) ?_
  rintro _ wn ⟨rfl, hC⟩; replace hH := hH.dr hC; clear hC
  refine WL.u rfl rfl (Wt.plain rfl) (Ex.not rfl) ?_
  refine WL.next ?_
  refine WC.condF rfl (by simp) ?_
  refine WC.skip ?_
  refine WN.next ?_
  refine WC.seq ?_
  refine WC.region ?_
  refine WL.u rfl rfl (Wt.plain rfl) (Ex.assign rfl) ?_
  refine WL.next ?_
  refine WC.ret ?_
  refine WN.body1 rfl rfl ?_
  exact ⟨rfl, hH.keep⟩


theorem askWorst_ex {n m : Int} {ans : List Int} {port out : Int} (h : askWorst n m ans port = (out, true)) : ∃ a b p : Nat, n = a ∧ m = b ∧ port = p ∧ p < ans.length ∧ AnsOk a b ans ∧ out = ((worstR (fits a b ans) p : Nat) : Int) := by
  by_cases hc : ansB n m ans = true ∧ 0 ≤ port ∧ port ≤ (ans.length : Int) - 1
  · obtain ⟨a, b, rfl, rfl, hA⟩ := ansB_ex hc.1
    obtain ⟨p, rfl⟩ := Int.eq_ofNat_of_zero_le hc.2.1
    have hp : p < ans.length := by have := hc.2.2; omega
    have h2 : askWorst a b ans p = (out, true) := h
    rw [askWorst_at hA hp] at h2
    cases h2
    exact ⟨a, b, p, rfl, rfl, rfl, hp, hA, rfl⟩
  · rw [askWorst_not hc] at h; cases h
theorem askBest_ex {n m : Int} {ans : List Int} {out : Int} (h : askBest n m ans = (out, true)) : ∃ a b : Nat, n = a ∧ m = b ∧ AnsOk a b ans ∧ out = ((bestN (worstR (fits a b ans)) ans.length : Nat) : Int) := by
  cases hab : ansB n m ans with
  | false => rw [askBest_not hab] at h; cases h
  | true =>
    obtain ⟨a, b, rfl, rfl, hA⟩ := ansB_ex hab
    rw [askBest_at hA] at h
    cases h
    exact ⟨a, b, rfl, rfl, hA, rfl⟩

theorem lawWorst (a : Option Addr) (l : List UInt8) (cap : Nat) (w : World) (hc : Sl rByte w a l) (hcap : l.length ≤ cap) : Fn Try.prog 12 [.slice a l.length cap] w (fun v w1 => v = .bool true ∧ Keep [] w w1) := by
  refine Fn.enter (n := 93) Try.func12 rfl rfl rfl ?_
  show WC _ _ _ _ [(0, .slice a l.length cap)] _
  have hH := Hp.start [] w
  refine WC.seq ?_
  refine WC.region ?_
  refine WL.u rfl rfl (Wt.plain rfl) (Ex.assign rfl) ?_
  refine WL.next ?_
  refine WC.seq ?_
  refine WC.seq ?_
  refine WC.region ?_
  refine WL.u rfl rfl (Wt.plain rfl) (Ex.move rfl) ?_
  refine WL.u rfl rfl (Wt.plain rfl) (Ex.lenSl Try.underlying38 rfl) ?_
  refine WL.u rfl rfl (Wt.plain rfl) (Ex.gtr rfl rfl) ?_
  refine WL.next ?_
  refine WC.cond rfl (fun hc1 => ?_) (fun hc1 => ?_)
  · have hc1' := hc1; try simp only [decide_eq_true_eq, decide_eq_false_iff_not, Bool.not_eq_true', Bool.not_eq_false', Bool.not_eq_true, Bool.not_eq_false] at hc1'
    refine WC.seq ?_
    refine WC.region ?_
    refine WL.u rfl rfl (Wt.plain rfl) (Ex.assign rfl) ?_
    refine WL.next ?_
    refine WC.ret ?_
    refine WN.retThen ?_
    refine WN.body1 rfl rfl ?_
    exact ⟨rfl, hH.keep⟩
  have hc1' := hc1; try simp only [decide_eq_true_eq, decide_eq_false_iff_not, Bool.not_eq_true', Bool.not_eq_false', Bool.not_eq_true, Bool.not_eq_false] at hc1'
  refine WC.skip ?_
  refine WN.next ?_
  refine WC.seq ?_
  refine WC.region ?_
  refine WL.u rfl rfl (Wt.plain rfl) (Ex.move rfl) ?_
  refine WL.call callable42 rfl (Wt.plain rfl) rfl rfl (sDrawAskWorst _ _ _ _ (hc.kept hH.keep) hcap) ?_
  rintro _ wn ⟨n, m, ans, port, x, rfl, hC, hN, hsz⟩; obtain ⟨b18, cap18, cur18, rfl, hge18, hbb18, ho18⟩ := hN.own; replace hH := hH.push hC hge18 hbb18; clear hC hN
  refine WL.u rfl rfl (Wt.plain rfl) (Ex.move rfl) ?_
  refine WL.u rfl rfl (Wt.plain rfl) (Ex.extract rfl rfl) ?_
  refine WL.u rfl rfl (Wt.plain rfl) (Ex.extract rfl rfl) ?_
  refine WL.u rfl rfl (Wt.plain rfl) (Ex.extract rfl rfl) ?_
  refine WL.u rfl rfl (Wt.plain rfl) (Ex.extract rfl rfl) ?_
  refine WL.u rfl rfl (Wt.plain rfl) (Ex.assign rfl) ?_
  refine WL.u rfl rfl (Wt.plain rfl) (Ex.assign rfl) ?_
  refine WL.u rfl rfl (Wt.plain rfl) (Ex.assign rfl) ?_
  refine WL.u rfl rfl (Wt.plain rfl) (Ex.assign rfl) ?_
  refine WL.next ?_
  refine WC.seq ?_
  rcases hx : askWorst n m ans port with ⟨out, ok⟩
  refine WC.region ?_
  refine WL.u rfl rfl (Wt.plain rfl) (Ex.move rfl) ?_
  refine WL.u rfl rfl (Wt.plain rfl) (Ex.move rfl) ?_
  refine WL.u rfl rfl (Wt.plain rfl) (Ex.move rfl) ?_
  refine WL.u rfl rfl (Wt.plain rfl) (Ex.move rfl) ?_
  refine WL.call callable30 rfl (Wt.plain rfl) rfl rfl (iAskWorst n m ans _ _ port _ (ho18.slAt hH 0 rfl)) ?_
  rintro _ wn ⟨hv, hC⟩; rw [hx] at hv; dsimp only at hv; subst hv; replace hH := hH.call hC; clear hC
  refine WL.u rfl rfl (Wt.plain rfl) (Ex.move rfl) ?_
  refine WL.u rfl rfl (Wt.plain rfl) (Ex.extract rfl rfl) ?_
  refine WL.u rfl rfl (Wt.plain rfl) (Ex.extract rfl rfl) ?_
  refine WL.u rfl rfl (Wt.plain rfl) (Ex.assign rfl) ?_
  refine WL.u rfl rfl (Wt.plain rfl) (Ex.assign rfl) ?_
  refine WL.next ?_
  refine WC.seq ?_
  refine WC.region ?_
  refine WL.u rfl rfl (Wt.plain rfl) (Ex.move rfl) ?_
  refine WL.u rfl rfl (Wt.plain rfl) (Ex.move rfl) ?_
  refine WL.u rfl rfl (Wt.plain rfl) (Ex.move rfl) ?_
  refine WL.u rfl rfl (Wt.plain rfl) (Ex.move rfl) ?_
  refine WL.call callable29 rfl (Wt.plain rfl) rfl rfl (sAskWorst n m ans _ _ port _ (ho18.slAt hH 0 rfl)) ?_
  rintro _ wn ⟨hv, hC⟩; rw [hx] at hv; dsimp only at hv; subst hv; replace hH := hH.call hC; clear hC
  refine WL.u rfl rfl (Wt.plain rfl) (Ex.move rfl) ?_
  refine WL.u rfl rfl (Wt.plain rfl) (Ex.extract rfl rfl) ?_
  refine WL.u rfl rfl (Wt.plain rfl) (Ex.extract rfl rfl) ?_
  refine WL.u rfl rfl (Wt.plain rfl) (Ex.assign rfl) ?_
  refine WL.u rfl rfl (Wt.plain rfl) (Ex.assign rfl) ?_
  refine WL.next ?_
  refine WC.seq ?_
  refine WC.seq ?_
  refine WC.region ?_
  refine WL.u rfl rfl (Wt.plain rfl) (Ex.move rfl) ?_
  refine WL.u rfl rfl (Wt.plain rfl) (Ex.move rfl) ?_
  refine WL.u rfl rfl (Wt.plain rfl) (Ex.neqB Try.underlying4 rfl rfl) ?_
  refine WL.u rfl rfl (Wt.plain rfl) (Ex.move rfl) ?_
  refine WL.split (t := 42) rfl (fun hg6_3 => ?_) (fun hg6_3 => ?_)
  · exfalso; simp at hg6_3
  have hg6_3' := hg6_3; try simp only [decide_eq_true_eq, decide_eq_false_iff_not, Bool.not_eq_true', Bool.not_eq_false', Bool.not_eq_true, Bool.not_eq_false] at hg6_3'
  refine WL.u rfl rfl (Wt.guard' rfl rfl rfl hg6_3 rfl) (Ex.move rfl) ?_
  refine WL.u rfl rfl (Wt.guard' rfl rfl rfl hg6_3 rfl) (Ex.move rfl) ?_
  refine WL.u rfl rfl (Wt.guard' rfl rfl rfl hg6_3 rfl) (Ex.neq rfl rfl) ?_
  refine WL.u rfl rfl (Wt.plain rfl) (Ex.pickF rfl hg6_3 rfl) ?_
  refine WL.u rfl rfl (Wt.plain rfl) (Ex.move rfl) ?_
  refine WL.split (t := 47) rfl (fun hg6_8 => ?_) (fun hg6_8 => ?_)
  · exfalso; simp at hg6_8
  have hg6_8' := hg6_8; try simp only [decide_eq_true_eq, decide_eq_false_iff_not, Bool.not_eq_true', Bool.not_eq_false', Bool.not_eq_true, Bool.not_eq_false] at hg6_8'
  refine WL.u rfl rfl (Wt.guard' rfl rfl rfl hg6_8 rfl) (Ex.move rfl) ?_
  refine WL.u rfl rfl (Wt.guard' rfl rfl rfl hg6_8 rfl) (Ex.not rfl) ?_
  refine WL.u rfl rfl (Wt.plain rfl) (Ex.pickF rfl hg6_8 rfl) ?_
  refine WL.next ?_
  refine WC.cond rfl (fun hc2 => ?_) (fun hc2 => ?_)
  · have hc2' := hc2; try simp only [decide_eq_true_eq, decide_eq_false_iff_not, Bool.not_eq_true', Bool.not_eq_false', Bool.not_eq_true, Bool.not_eq_false] at hc2'
    refine WC.seq ?_
    refine WC.region ?_
    refine WL.u rfl rfl (Wt.plain rfl) (Ex.move rfl) ?_
    refine WL.u rfl rfl (Wt.plain rfl) (Ex.move rfl) ?_
    refine WL.u rfl rfl (Wt.plain rfl) (Ex.eqlB Try.underlying4 rfl rfl) ?_
    refine WL.u rfl rfl (Wt.plain rfl) (Ex.move rfl) ?_
    refine WL.split (t := 54) rfl (fun hg7_3 => ?_) (fun hg7_3 => ?_)
    · have hg7_3' := hg7_3; try simp only [decide_eq_true_eq, decide_eq_false_iff_not, Bool.not_eq_true', Bool.not_eq_false', Bool.not_eq_true, Bool.not_eq_false] at hg7_3'
      refine WL.u rfl rfl (Wt.guard' rfl rfl rfl hg7_3 rfl) (Ex.move rfl) ?_
      refine WL.u rfl rfl (Wt.guard' rfl rfl rfl hg7_3 rfl) (Ex.move rfl) ?_
      refine WL.u rfl rfl (Wt.guard' rfl rfl rfl hg7_3 rfl) (Ex.eql rfl rfl) ?_
      refine WL.u rfl rfl (Wt.plain rfl) (Ex.pickT rfl hg7_3 rfl) ?_
      refine WL.u rfl rfl (Wt.plain rfl) (Ex.assign rfl) ?_
      refine WL.next ?_
      refine WC.ret ?_
      refine WN.retThen ?_
      refine WN.body1 rfl rfl ?_
      exact ⟨congrArg Value.bool (decide_eq_true rfl), hH.keep⟩
    exfalso; simp at hg7_3
  have hc2' := hc2; try simp only [decide_eq_true_eq, decide_eq_false_iff_not, Bool.not_eq_true', Bool.not_eq_false', Bool.not_eq_true, Bool.not_eq_false] at hc2'
  have hok : ok = true := by simpa using hc2
  subst hok
  obtain ⟨n2, m2, p, e1, e2, rfl, hp, hA, rfl⟩ := askWorst_ex hx
  obtain rfl : n = n2 := by omega
  obtain rfl : m = m2 := by omega
  obtain ⟨h1, h2, h3, h4, h9, hlen, hbd⟩ := id hA
  have hf81 := fits_le hA
  have hO := hA.list
  have hsh := hO.share hp
  have hco := fun h => hO.const hp h
  have hwl := mostN_le (endL (fits n m ans) p) (fits n m ans).length
  have hw : mostN (endL (fits n m ans) p) (fits n m ans).length = worstR (fits n m ans) p := rfl
  rw [hw] at hwl
  generalize worstR (fits n m ans) p = W at *
  have hbp := hbd p hp
  have hWI : ((W : Nat) : Int) * ((ans.length : Int) - 1) = ((W * (ans.length - 1) : Nat) : Int) := by rw [Int.natCast_mul, Int.natCast_sub (by omega)]; rfl
  have hWb : W * (ans.length - 1) ≤ 81 * 20 := Nat.mul_le_mul (by omega) (by omega)
  refine WC.skip ?_
  refine WN.next ?_
  refine WC.seq ?_
  refine WC.region ?_
  refine WL.u rfl rfl (Wt.plain rfl) (Ex.move rfl) ?_
  refine WL.u rfl rfl (Wt.plain rfl) (Ex.move rfl) ?_
  refine WL.u rfl rfl (Wt.plain rfl) (Ex.move rfl) ?_
  refine WL.call callable28 rfl (Wt.plain rfl) rfl rfl (iAskFit n m ans _ _ _ (ho18.slAt hH 0 rfl)) ?_
  rintro _ wn ⟨hv, hC⟩; rw [askFit_at hA] at hv; dsimp only at hv; subst hv; replace hH := hH.call hC; clear hC
  refine WL.u rfl rfl (Wt.plain rfl) (Ex.move rfl) ?_
  refine WL.u rfl rfl (Wt.plain rfl) (Ex.extract rfl rfl) ?_
  refine WL.u rfl rfl (Wt.plain rfl) (Ex.extract rfl rfl) ?_
  refine WL.u rfl rfl (Wt.plain rfl) (Ex.assign rfl) ?_
  refine WL.u rfl rfl (Wt.plain rfl) (Ex.assign rfl) ?_
  refine WL.next ?_
  refine WC.seq ?_
  refine WC.region ?_
  refine WL.u rfl rfl (Wt.plain rfl) (Ex.move rfl) ?_
  refine WL.u rfl rfl (Wt.plain rfl) (Ex.move rfl) ?_
  refine WL.u rfl rfl (Wt.guard' rfl rfl rfl (rfl) rfl) (Ex.move rfl) ?_
  refine WL.u rfl rfl (Wt.guard' rfl rfl rfl (rfl) rfl) (Ex.move rfl) ?_
  refine WL.u rfl rfl (Wt.guard' rfl rfl rfl (rfl) rfl) (Ex.leq rfl rfl) ?_
  refine WL.u rfl rfl (Wt.plain rfl) (Ex.pickT rfl (rfl) rfl) ?_
  refine WL.u rfl rfl (Wt.plain rfl) (Ex.move rfl) ?_
  refine WL.u rfl rfl (Wt.guard' rfl rfl rfl (decide_eq_true (by omega)) rfl) (Ex.move rfl) ?_
  refine WL.u rfl rfl (Wt.guard' rfl rfl rfl (decide_eq_true (by omega)) rfl) (Ex.move rfl) ?_
  refine WL.u rfl rfl (Wt.guard' rfl rfl rfl (decide_eq_true (by omega)) rfl) (Ex.lenSl Try.underlying24 rfl) ?_
  refine WL.u rfl rfl (Wt.guard' rfl rfl rfl (decide_eq_true (by omega)) rfl) (Ex.sub rfl rfl (by omega)) ?_
  refine WL.u rfl rfl (Wt.guard' rfl rfl rfl (decide_eq_true (by omega)) rfl) ((Ex.mul rfl rfl (by rw [hWI]; omega)).to (congrArg (Value.int IntKind.i64) hWI)) ?_
  refine WL.u rfl rfl (Wt.guard' rfl rfl rfl (decide_eq_true (by omega)) rfl) (Ex.move rfl) ?_
  refine WL.u rfl rfl (Wt.guard' rfl rfl rfl (decide_eq_true (by omega)) rfl) (Ex.geq rfl rfl) ?_
  refine WL.u rfl rfl (Wt.plain rfl) (Ex.pickT rfl (decide_eq_true (by omega)) rfl) ?_
  refine WL.u rfl rfl (Wt.plain rfl) (Ex.move rfl) ?_
  refine WL.u rfl rfl (Wt.guard' rfl rfl rfl (decide_eq_true (by omega)) rfl) (Ex.move rfl) ?_
  refine WL.u rfl rfl (Wt.guard' rfl rfl rfl (decide_eq_true (by omega)) rfl) (Ex.move rfl) ?_
  refine WL.u rfl rfl (Wt.guard' rfl rfl rfl (decide_eq_true (by omega)) rfl) (Ex.indexAddr Try.underlying24 ty3 rfl rfl (by omega)) ?_
  refine WL.u rfl rfl (Wt.guard' rfl rfl rfl (decide_eq_true (by omega)) rfl) (Ex.loadHp flat3 rfl hH (ho18.get rfl (getD_get ans p 0 hp))) ?_
  refine WL.u rfl rfl (Wt.guard' rfl rfl rfl (decide_eq_true (by omega)) rfl) (Ex.lss rfl rfl) ?_
  refine WL.u rfl rfl (Wt.guard' rfl rfl rfl (decide_eq_true (by omega)) rfl) (Ex.move rfl) ?_
  refine WL.split (t := 87) rfl (fun hg9_21 => ?_) (fun hg9_21 => ?_)
  · have hg9_21' := hg9_21; try simp only [decide_eq_true_eq, decide_eq_false_iff_not, Bool.not_eq_true', Bool.not_eq_false', Bool.not_eq_true, Bool.not_eq_false] at hg9_21'
    refine WL.pass rfl rfl (Wt.guard' rfl rfl rfl hg9_21 rfl) ?_
    refine WL.pass rfl rfl (Wt.guard' rfl rfl rfl hg9_21 rfl) ?_
    refine WL.pass rfl rfl (Wt.guard' rfl rfl rfl hg9_21 rfl) ?_
    refine WL.u rfl rfl (Wt.guard' rfl rfl rfl (decide_eq_true (by omega)) rfl) (Ex.pickT rfl hg9_21 rfl) ?_
    refine WL.u rfl rfl (Wt.plain rfl) (Ex.pickT rfl (decide_eq_true (by omega)) rfl) ?_
    refine WL.u rfl rfl (Wt.plain rfl) (Ex.assign rfl) ?_
    refine WL.next ?_
    refine WC.ret ?_
    refine WN.body1 rfl rfl ?_
    exact ⟨rfl, hH.keep⟩
  have hg9_21' := hg9_21; try simp only [decide_eq_true_eq, decide_eq_false_iff_not, Bool.not_eq_true', Bool.not_eq_false', Bool.not_eq_true, Bool.not_eq_false] at hg9_21'
  refine WL.u rfl rfl (Wt.guard' rfl rfl rfl hg9_21 rfl) (Ex.move rfl) ?_
  refine WL.u rfl rfl (Wt.guard' rfl rfl rfl hg9_21 rfl) (Ex.move rfl) ?_
  refine WL.u rfl rfl (Wt.guard' rfl rfl rfl hg9_21 rfl) (Ex.eql rfl rfl) ?_
  refine WL.u rfl rfl (Wt.guard' rfl rfl rfl (decide_eq_true (by omega)) rfl) (Ex.pickF rfl hg9_21 rfl) ?_
  refine WL.u rfl rfl (Wt.plain rfl) (Ex.pickT rfl (decide_eq_true (by omega)) rfl) ?_
  refine WL.u rfl rfl (Wt.plain rfl) (Ex.assign rfl) ?_
  refine WL.next ?_
  refine WC.ret ?_
  refine WN.body1 rfl rfl ?_
  exact ⟨congrArg Value.bool (decide_eq_true (by have := hco (by omega); omega)), hH.keep⟩

theorem lawAskBest (a : Option Addr) (l : List UInt8) (cap : Nat) (w : World) (hc : Sl rByte w a l) (hcap : l.length ≤ cap) : Fn Try.prog 13 [.slice a l.length cap] w (fun v w1 => v = .bool true ∧ Keep [] w w1) := by
  refine Fn.enter (n := 98) Try.func13 rfl rfl rfl ?_
  show WC _ _ _ _ [(0, .slice a l.length cap)] _
  have hH := Hp.start [] w
  refine WC.seq ?_
  refine WC.region ?_
  refine WL.u rfl rfl (Wt.plain rfl) (Ex.assign rfl) ?_
  refine WL.next ?_
  refine WC.seq ?_
  refine WC.seq ?_
  refine WC.region ?_
  refine WL.u rfl rfl (Wt.plain rfl) (Ex.move rfl) ?_
  refine WL.u rfl rfl (Wt.plain rfl) (Ex.lenSl Try.underlying38 rfl) ?_
  refine WL.u rfl rfl (Wt.plain rfl) (Ex.gtr rfl rfl) ?_
  refine WL.next ?_
  refine WC.cond rfl (fun hc1 => ?_) (fun hc1 => ?_)
  · have hc1' := hc1; try simp only [decide_eq_true_eq, decide_eq_false_iff_not, Bool.not_eq_true', Bool.not_eq_false', Bool.not_eq_true, Bool.not_eq_false] at hc1'
    refine WC.seq ?_
    refine WC.region ?_
    refine WL.u rfl rfl (Wt.plain rfl) (Ex.assign rfl) ?_
    refine WL.next ?_
    refine WC.ret ?_
    refine WN.retThen ?_
    refine WN.body1 rfl rfl ?_
    exact ⟨rfl, hH.keep⟩
  have hc1' := hc1; try simp only [decide_eq_true_eq, decide_eq_false_iff_not, Bool.not_eq_true', Bool.not_eq_false', Bool.not_eq_true, Bool.not_eq_false] at hc1'
  refine WC.skip ?_
  refine WN.next ?_
  refine WC.seq ?_
  refine WC.region ?_
  refine WL.u rfl rfl (Wt.plain rfl) (Ex.move rfl) ?_
  refine WL.call callable43 rfl (Wt.plain rfl) rfl rfl (sDrawAskBest _ _ _ _ (hc.kept hH.keep) hcap) ?_
  rintro _ wn ⟨n, m, ans, x, rfl, hC, hN, hsz⟩; obtain ⟨b20, cap20, cur20, rfl, hge20, hbb20, ho20⟩ := hN.own; replace hH := hH.push hC hge20 hbb20; clear hC hN
  refine WL.u rfl rfl (Wt.plain rfl) (Ex.move rfl) ?_
  refine WL.u rfl rfl (Wt.plain rfl) (Ex.extract rfl rfl) ?_
  refine WL.u rfl rfl (Wt.plain rfl) (Ex.extract rfl rfl) ?_
  refine WL.u rfl rfl (Wt.plain rfl) (Ex.extract rfl rfl) ?_
  refine WL.u rfl rfl (Wt.plain rfl) (Ex.assign rfl) ?_
  refine WL.u rfl rfl (Wt.plain rfl) (Ex.assign rfl) ?_
  refine WL.u rfl rfl (Wt.plain rfl) (Ex.assign rfl) ?_
  refine WL.next ?_
  refine WC.seq ?_
  rcases hx : askBest n m ans with ⟨out, ok⟩
  refine WC.region ?_
  refine WL.u rfl rfl (Wt.plain rfl) (Ex.move rfl) ?_
  refine WL.u rfl rfl (Wt.plain rfl) (Ex.move rfl) ?_
  refine WL.u rfl rfl (Wt.plain rfl) (Ex.move rfl) ?_
  refine WL.call callable32 rfl (Wt.plain rfl) rfl rfl (iAskBest n m ans _ _ _ (ho20.slAt hH 0 rfl)) ?_
  rintro _ wn ⟨hv, hC⟩; rw [hx] at hv; dsimp only at hv; subst hv; replace hH := hH.call hC; clear hC
  refine WL.u rfl rfl (Wt.plain rfl) (Ex.move rfl) ?_
  refine WL.u rfl rfl (Wt.plain rfl) (Ex.extract rfl rfl) ?_
  refine WL.u rfl rfl (Wt.plain rfl) (Ex.extract rfl rfl) ?_
  refine WL.u rfl rfl (Wt.plain rfl) (Ex.assign rfl) ?_
  refine WL.u rfl rfl (Wt.plain rfl) (Ex.assign rfl) ?_
  refine WL.next ?_
  refine WC.seq ?_
  refine WC.region ?_
  refine WL.u rfl rfl (Wt.plain rfl) (Ex.move rfl) ?_
  refine WL.u rfl rfl (Wt.plain rfl) (Ex.move rfl) ?_
  refine WL.u rfl rfl (Wt.plain rfl) (Ex.move rfl) ?_
  refine WL.call callable31 rfl (Wt.plain rfl) rfl rfl (sAskBest n m ans _ _ _ (ho20.slAt hH 0 rfl)) ?_
  rintro _ wn ⟨hv, hC⟩; rw [hx] at hv; dsimp only at hv; subst hv; replace hH := hH.call hC; clear hC
  refine WL.u rfl rfl (Wt.plain rfl) (Ex.move rfl) ?_
  refine WL.u rfl rfl (Wt.plain rfl) (Ex.extract rfl rfl) ?_
  refine WL.u rfl rfl (Wt.plain rfl) (Ex.extract rfl rfl) ?_
  refine WL.u rfl rfl (Wt.plain rfl) (Ex.assign rfl) ?_
  refine WL.u rfl rfl (Wt.plain rfl) (Ex.assign rfl) ?_
  refine WL.next ?_
  refine WC.seq ?_
  refine WC.seq ?_
  refine WC.region ?_
  refine WL.u rfl rfl (Wt.plain rfl) (Ex.move rfl) ?_
  refine WL.u rfl rfl (Wt.plain rfl) (Ex.move rfl) ?_
  refine WL.u rfl rfl (Wt.plain rfl) (Ex.neqB Try.underlying4 rfl rfl) ?_
  refine WL.u rfl rfl (Wt.plain rfl) (Ex.move rfl) ?_
  refine WL.split (t := 41) rfl (fun hg6_3 => ?_) (fun hg6_3 => ?_)
  · exfalso; simp at hg6_3
  have hg6_3' := hg6_3; try simp only [decide_eq_true_eq, decide_eq_false_iff_not, Bool.not_eq_true', Bool.not_eq_false', Bool.not_eq_true, Bool.not_eq_false] at hg6_3'
  refine WL.u rfl rfl (Wt.guard' rfl rfl rfl hg6_3 rfl) (Ex.move rfl) ?_
  refine WL.u rfl rfl (Wt.guard' rfl rfl rfl hg6_3 rfl) (Ex.move rfl) ?_
  refine WL.u rfl rfl (Wt.guard' rfl rfl rfl hg6_3 rfl) (Ex.neq rfl rfl) ?_
  refine WL.u rfl rfl (Wt.plain rfl) (Ex.pickF rfl hg6_3 rfl) ?_
  refine WL.u rfl rfl (Wt.plain rfl) (Ex.move rfl) ?_
  refine WL.split (t := 46) rfl (fun hg6_8 => ?_) (fun hg6_8 => ?_)
  · exfalso; simp at hg6_8
  have hg6_8' := hg6_8; try simp only [decide_eq_true_eq, decide_eq_false_iff_not, Bool.not_eq_true', Bool.not_eq_false', Bool.not_eq_true, Bool.not_eq_false] at hg6_8'
  refine WL.u rfl rfl (Wt.guard' rfl rfl rfl hg6_8 rfl) (Ex.move rfl) ?_
  refine WL.u rfl rfl (Wt.guard' rfl rfl rfl hg6_8 rfl) (Ex.not rfl) ?_
  refine WL.u rfl rfl (Wt.plain rfl) (Ex.pickF rfl hg6_8 rfl) ?_
  refine WL.next ?_
  refine WC.cond rfl (fun hc2 => ?_) (fun hc2 => ?_)
  · have hc2' := hc2; try simp only [decide_eq_true_eq, decide_eq_false_iff_not, Bool.not_eq_true', Bool.not_eq_false', Bool.not_eq_true, Bool.not_eq_false] at hc2'
    refine WC.seq ?_
    refine WC.region ?_
    refine WL.u rfl rfl (Wt.plain rfl) (Ex.move rfl) ?_
    refine WL.u rfl rfl (Wt.plain rfl) (Ex.move rfl) ?_
    refine WL.u rfl rfl (Wt.plain rfl) (Ex.eqlB Try.underlying4 rfl rfl) ?_
    refine WL.u rfl rfl (Wt.plain rfl) (Ex.move rfl) ?_
    refine WL.split (t := 53) rfl (fun hg7_3 => ?_) (fun hg7_3 => ?_)
    · have hg7_3' := hg7_3; try simp only [decide_eq_true_eq, decide_eq_false_iff_not, Bool.not_eq_true', Bool.not_eq_false', Bool.not_eq_true, Bool.not_eq_false] at hg7_3'
      refine WL.u rfl rfl (Wt.guard' rfl rfl rfl hg7_3 rfl) (Ex.move rfl) ?_
      refine WL.u rfl rfl (Wt.guard' rfl rfl rfl hg7_3 rfl) (Ex.move rfl) ?_
      refine WL.u rfl rfl (Wt.guard' rfl rfl rfl hg7_3 rfl) (Ex.eql rfl rfl) ?_
      refine WL.u rfl rfl (Wt.plain rfl) (Ex.pickT rfl hg7_3 rfl) ?_
      refine WL.u rfl rfl (Wt.plain rfl) (Ex.assign rfl) ?_
      refine WL.next ?_
      refine WC.ret ?_
      refine WN.retThen ?_
      refine WN.body1 rfl rfl ?_
      exact ⟨congrArg Value.bool (decide_eq_true rfl), hH.keep⟩
    exfalso; simp at hg7_3
  have hc2' := hc2; try simp only [decide_eq_true_eq, decide_eq_false_iff_not, Bool.not_eq_true', Bool.not_eq_false', Bool.not_eq_true, Bool.not_eq_false] at hc2'
  have hok : ok = true := by simpa using hc2
  subst hok
  obtain ⟨n2, m2, e1, e2, hA, rfl⟩ := askBest_ex hx
  obtain rfl : n = n2 := by omega
  obtain rfl : m = m2 := by omega
  obtain ⟨h1, h2, h3, h4, h9, hlen, hbd⟩ := id hA
  have hmin := bestN_min (worstR (fits n m ans)) ans.length
  have hble := bestN_le (worstR (fits n m ans)) ans.length
  generalize hB : bestN (worstR (fits n m ans)) ans.length = B at *
  have hBl : B < ans.length := by omega
  refine WC.skip ?_
  refine WN.next ?_
  refine WC.seq ?_
  refine WC.region ?_
  refine WL.u rfl rfl (Wt.plain rfl) (Ex.move rfl) ?_
  refine WL.u rfl rfl (Wt.plain rfl) (Ex.move rfl) ?_
  refine WL.u rfl rfl (Wt.plain rfl) (Ex.move rfl) ?_
  refine WL.u rfl rfl (Wt.plain rfl) (Ex.move rfl) ?_
  refine WL.call callable30 rfl (Wt.plain rfl) rfl rfl (iAskWorst n m ans _ _ (B : Int) _ (ho20.slAt hH 0 rfl)) ?_
  rintro _ wn ⟨hv, hC⟩; rw [askWorst_at hA hBl] at hv; dsimp only at hv; subst hv; replace hH := hH.call hC; clear hC
  refine WL.u rfl rfl (Wt.plain rfl) (Ex.move rfl) ?_
  refine WL.u rfl rfl (Wt.plain rfl) (Ex.extract rfl rfl) ?_
  refine WL.u rfl rfl (Wt.plain rfl) (Ex.extract rfl rfl) ?_
  refine WL.u rfl rfl (Wt.plain rfl) (Ex.assign rfl) ?_
  refine WL.u rfl rfl (Wt.plain rfl) (Ex.assign rfl) ?_
  refine WL.next ?_
  refine WC.seq ?_
  refine WC.seq ?_
  refine WC.region ?_
  refine WL.u rfl rfl (Wt.plain rfl) (Ex.assign rfl) ?_
  refine WL.next ?_
  refine WC.block ?_
  refine WC.loop (ι := Nat) (fun i => [(3, vint n), (4, vint m), (5, vsl b20 ans.length cap20), (6, vint B), (10, vint (worstR (fits n m ans) B : Nat)), (11, .bool true), (12, vint i)]) (fun i wn => Hp [] w wn [(b20, .cells cur20 3 (0, 0))] ∧ i ≤ ans.length) (fun i => ans.length - i) (0) (by exact ⟨rfl, rfl, rfl, rfl, rfl, rfl, rfl, trivial⟩) ?_ ?_
  · exact ⟨hH.sub (by simp), Nat.zero_le _⟩
  rintro i wn ⟨hH, hi⟩
  intro mu0 hmu; try dsimp only at hmu
  show WC _ _ _ _ [(3, vint n), (4, vint m), (5, vsl b20 ans.length cap20), (6, vint B), (10, vint (worstR (fits n m ans) B : Nat)), (11, .bool true), (12, vint i)] _
  refine WC.seq ?_
  refine WC.seq ?_
  refine WC.region ?_
  refine WL.u rfl rfl (Wt.plain rfl) (Ex.move rfl) ?_
  refine WL.u rfl rfl (Wt.plain rfl) (Ex.move rfl) ?_
  refine WL.u rfl rfl (Wt.plain rfl) (Ex.lenSl Try.underlying24 rfl) ?_
  refine WL.u rfl rfl (Wt.plain rfl) (Ex.lss rfl rfl) ?_
  refine WL.next ?_
  refine WC.cond rfl (fun hc3 => ?_) (fun hc3 => ?_)
  · have hc3' := hc3; try simp only [decide_eq_true_eq, decide_eq_false_iff_not, Bool.not_eq_true', Bool.not_eq_false', Bool.not_eq_true, Bool.not_eq_false] at hc3'
    have hli : i < ans.length := by omega
    have hmi := hmin i hli
    refine WC.skip ?_
    refine WN.next ?_
    refine WC.seq ?_
    refine WC.block ?_
    refine WC.seq ?_
    refine WC.region ?_
    refine WL.u rfl rfl (Wt.plain rfl) (Ex.move rfl) ?_
    refine WL.u rfl rfl (Wt.plain rfl) (Ex.move rfl) ?_
    refine WL.u rfl rfl (Wt.plain rfl) (Ex.move rfl) ?_
    refine WL.u rfl rfl (Wt.plain rfl) (Ex.move rfl) ?_
    refine WL.call callable30 rfl (Wt.plain rfl) rfl rfl (iAskWorst n m ans _ _ (i : Int) _ (ho20.slAt hH 0 rfl)) ?_
    rintro _ wn ⟨hv, hC⟩; rw [askWorst_at hA hli] at hv; dsimp only at hv; subst hv; replace hH := hH.call hC; clear hC
    refine WL.u rfl rfl (Wt.plain rfl) (Ex.move rfl) ?_
    refine WL.u rfl rfl (Wt.plain rfl) (Ex.extract rfl rfl) ?_
    refine WL.u rfl rfl (Wt.plain rfl) (Ex.extract rfl rfl) ?_
    refine WL.u rfl rfl (Wt.plain rfl) (Ex.assign rfl) ?_
    refine WL.u rfl rfl (Wt.plain rfl) (Ex.assign rfl) ?_
    refine WL.next ?_
    refine WC.seq ?_
    refine WC.region ?_
    refine WL.u rfl rfl (Wt.plain rfl) (Ex.move rfl) ?_
    refine WL.u rfl rfl (Wt.plain rfl) (Ex.not rfl) ?_
    refine WL.u rfl rfl (Wt.plain rfl) (Ex.move rfl) ?_
    refine WL.u rfl rfl (Wt.guard' rfl rfl rfl (rfl) rfl) (Ex.move rfl) ?_
    refine WL.u rfl rfl (Wt.guard' rfl rfl rfl (rfl) rfl) (Ex.move rfl) ?_
    refine WL.u rfl rfl (Wt.guard' rfl rfl rfl (rfl) rfl) (Ex.lss rfl rfl) ?_
    refine WL.u rfl rfl (Wt.plain rfl) (Ex.pickF rfl (rfl) rfl) ?_
    refine WL.u rfl rfl (Wt.plain rfl) (Ex.move rfl) ?_
    refine WL.u rfl rfl (Wt.guard' rfl rfl rfl (decide_eq_false (by omega)) rfl) (Ex.move rfl) ?_
    refine WL.u rfl rfl (Wt.guard' rfl rfl rfl (decide_eq_false (by omega)) rfl) (Ex.move rfl) ?_
    refine WL.u rfl rfl (Wt.guard' rfl rfl rfl (decide_eq_false (by omega)) rfl) (Ex.lss rfl rfl) ?_
    refine WL.u rfl rfl (Wt.guard' rfl rfl rfl (decide_eq_false (by omega)) rfl) (Ex.move rfl) ?_
    refine WL.split (t := 91) rfl (fun hg13_11 => ?_) (fun hg13_11 => ?_)
    · have hg13_11' := hg13_11; try simp only [decide_eq_true_eq, decide_eq_false_iff_not, Bool.not_eq_true', Bool.not_eq_false', Bool.not_eq_true, Bool.not_eq_false] at hg13_11'
      refine WL.u rfl rfl (Wt.guard' rfl rfl rfl hg13_11 rfl) (Ex.move rfl) ?_
      refine WL.u rfl rfl (Wt.guard' rfl rfl rfl hg13_11 rfl) (Ex.move rfl) ?_
      refine WL.u rfl rfl (Wt.guard' rfl rfl rfl hg13_11 rfl) (Ex.eql rfl rfl) ?_
      refine WL.u rfl rfl (Wt.guard' rfl rfl rfl (decide_eq_false (by omega)) rfl) (Ex.pickT rfl hg13_11 rfl) ?_
      refine WL.u rfl rfl (Wt.plain rfl) (Ex.pickF rfl (decide_eq_false (by omega)) rfl) ?_
      refine WL.next ?_
      refine WC.condF rfl (decide_eq_false (by omega)) ?_
      refine WC.skip ?_
      refine WN.normalBlock ?_
      refine WN.next ?_
      refine WC.region ?_
      refine WL.u rfl rfl (Wt.plain rfl) (Ex.move rfl) ?_
      refine WL.u rfl rfl (Wt.plain rfl) (Ex.add rfl rfl (by omega)) ?_
      refine WL.u rfl rfl (Wt.plain rfl) (Ex.assign rfl) ?_
      refine WL.last ?_
      refine WN.round (i + 1) (by exact ⟨rfl, rfl, rfl, rfl, rfl, rfl, rfl, trivial⟩) ?_ ?_
      · exact ⟨hH, by omega⟩
      · (try dsimp only); omega
    have hg13_11' := hg13_11; try simp only [decide_eq_true_eq, decide_eq_false_iff_not, Bool.not_eq_true', Bool.not_eq_false', Bool.not_eq_true, Bool.not_eq_false] at hg13_11'
    refine WL.pass rfl rfl (Wt.guard' rfl rfl rfl hg13_11 rfl) ?_
    refine WL.pass rfl rfl (Wt.guard' rfl rfl rfl hg13_11 rfl) ?_
    refine WL.pass rfl rfl (Wt.guard' rfl rfl rfl hg13_11 rfl) ?_
    refine WL.u rfl rfl (Wt.guard' rfl rfl rfl (decide_eq_false (by omega)) rfl) (Ex.pickF rfl hg13_11 rfl) ?_
    refine WL.u rfl rfl (Wt.plain rfl) (Ex.pickF rfl (decide_eq_false (by omega)) rfl) ?_
    refine WL.next ?_
    refine WC.condF rfl rfl ?_
    refine WC.skip ?_
    refine WN.normalBlock ?_
    refine WN.next ?_
    refine WC.region ?_
    refine WL.u rfl rfl (Wt.plain rfl) (Ex.move rfl) ?_
    refine WL.u rfl rfl (Wt.plain rfl) (Ex.add rfl rfl (by omega)) ?_
    refine WL.u rfl rfl (Wt.plain rfl) (Ex.assign rfl) ?_
    refine WL.last ?_
    refine WN.round (i + 1) (by exact ⟨rfl, rfl, rfl, rfl, rfl, rfl, rfl, trivial⟩) ?_ ?_
    · exact ⟨hH, by omega⟩
    · (try dsimp only); omega
  have hc3' := hc3; try simp only [decide_eq_true_eq, decide_eq_false_iff_not, Bool.not_eq_true', Bool.not_eq_false', Bool.not_eq_true, Bool.not_eq_false] at hc3'
  refine WC.exit ?_
  refine WN.exitThen ?_
  refine WN.exitThen ?_
  refine WN.exitHere ?_
  refine WN.next ?_
  refine WC.seq ?_
  refine WC.region ?_
  refine WL.u rfl rfl (Wt.plain rfl) (Ex.move rfl) ?_
  refine WL.u rfl rfl (Wt.plain rfl) (Ex.assign rfl) ?_
  refine WL.next ?_
  refine WC.ret ?_
  refine WN.body1 rfl rfl ?_
  exact ⟨rfl, hH.keep⟩

end Go.Proofs.Ytmlefpddjfonlaa
