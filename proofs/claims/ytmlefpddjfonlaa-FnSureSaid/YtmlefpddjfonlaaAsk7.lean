/- What is sure. -/
import Derived.Test.YtmlefpddjfonlaaAsk6
namespace Go.Proofs.Ytmlefpddjfonlaa
set_option maxRecDepth 100000
set_option linter.unusedSimpArgs false
set_option linter.unusedVariables false
open Go Go.RowKit
def cellG (g : Grid) (i k : Nat) : UInt8 := (g.getD i []).getD k 0
def sureB (L : List Grid) (i k : Nat) : Nat → Bool
  | 0 => false
  | a + 1 => sureB L i k a || decide (cellG (L.getD a []) i k ≠ cellG (L.getD 0 []) i k)
def sureL (L : List Grid) (a i k : Nat) : UInt8 := if sureB L i k a = true then 63 else cellG (L.getD 0 []) i k
def sureG (n m : Nat) (L : List Grid) : Grid := gridOf n m (sureL L L.length)
theorem sureB_mono (L : List Grid) (i k : Nat) : ∀ b a, a ≤ b → sureB L i k a = true → sureB L i k b = true
  | 0, a, h, e => by rw [show a = 0 by omega] at e; exact e
  | b + 1, a, h, e => by
    rcases Nat.lt_or_ge b a with h1 | h1
    · rw [show b + 1 = a by omega]; exact e
    · rw [sureB, sureB_mono L i k b a h1 e, Bool.true_or]
theorem sureL_one (L : List Grid) (i k : Nat) : sureL L 1 i k = cellG (L.getD 0 []) i k := by
  unfold sureL
  rw [if_neg]
  simp [sureB]
def askSure (n m : Int) (ans : List Int) : Grid × Bool := if ansB n m ans = true ∧ 0 < (fits n.toNat m.toNat ans).length then (sureG n.toNat m.toNat (fits n.toNat m.toNat ans), true) else ([], false)
theorem askSure_not {n m : Int} {ans : List Int} (h : ansB n m ans = false) : askSure n m ans = ([], false) := by rw [askSure, if_neg (by rw [h]; simp)]
theorem askSure_none {n m : Nat} {ans : List Int} (hL : (fits n m ans).length = 0) : askSure n m ans = ([], false) := by
  rw [askSure, if_neg (by rw [Int.toNat_natCast, Int.toNat_natCast, hL]; simp)]
theorem askSure_some {n m : Nat} {ans : List Int} (h : AnsOk n m ans) (hL : 0 < (fits n m ans).length) : askSure n m ans = (sureG n m (fits n m ans), true) := by rw [askSure, if_pos ⟨h.b, hL⟩]; rfl
theorem askSure_len (n m : Int) (ans : List Int) : (askSure n m ans).1.length ≤ 1000 := by
  cases hab : ansB n m ans with
  | false => rw [askSure_not hab]; simp
  | true =>
    obtain ⟨a, b, rfl, rfl, hA⟩ := ansB_ex hab
    rcases Nat.eq_zero_or_pos (fits a b ans).length with h0 | h0
    · rw [askSure_none h0]; simp
    · rw [askSure_some hA h0]
      have := hA.n5
      show (gridOf _ _ _).length ≤ 1000
      rw [gridOf_len]; omega
theorem askSure_ex {n m : Int} {ans : List Int} {out : Grid} (h : askSure n m ans = (out, true)) : ∃ a b : Nat, n = a ∧ m = b ∧ AnsOk a b ans ∧ 0 < (fits a b ans).length ∧ out = sureG a b (fits a b ans) := by
  cases hab : ansB n m ans with
  | false => rw [askSure_not hab] at h; cases h
  | true =>
    obtain ⟨a, b, rfl, rfl, hA⟩ := ansB_ex hab
    rcases Nat.eq_zero_or_pos (fits a b ans).length with h0 | h0
    · rw [askSure_none h0] at h; cases h
    · rw [askSure_some hA h0] at h
      cases h
      exact ⟨a, b, rfl, rfl, hA, h0, rfl⟩
theorem u8_ne (a b : UInt8) : decide ((a.toNat : Int) ≠ (b.toNat : Int)) = decide (a ≠ b) := by
  rw [Bool.eq_iff_iff, decide_eq_true_eq, decide_eq_true_eq]
  constructor
  · intro h e; exact h (by rw [e])
  · intro h e; exact h (UInt8.toNat_inj.1 (Int.ofNat.inj e))
/-- what a grid of the list gives to be read -/
theorem GsR.at {w : World} {hs : List Hd} {L : List Grid} (h : GsR w hs L) {a : Nat} (ha : a < L.length) (hG : GridOk (L.getD a [])) : ∃ b off cap, rHd.val (hs.getD a hd0) = .slice (some ⟨b, off, none⟩) (L.getD a []).length cap ∧ Sl rStr w (some ⟨b, off, none⟩) (L.getD a []) := by
  obtain ⟨h1, h2⟩ := h.get a ha
  obtain ⟨b, off, e⟩ := h2.addr (show 0 < (L.getD a []).length from hG.n1)
  exact ⟨b, off, (hs.getD a hd0).2.2, by rw [h1, e], by rw [← e]; exact h2⟩

set_option maxHeartbeats 1000000 in
theorem iAskSure1 (n m i k b8 bl capl : Nat) (hs : List Hd) (L : List Grid) (ans : List Int) (w : World) (h8 : w.cell? ⟨b8, 0, none⟩ = some (vsl bl hs.length capl)) (hl : Sl rHd w (some ⟨bl, 0, none⟩) hs) (hR : GsR w hs L) (hO : LOk n m ans L) (hL : 0 < L.length) (hi : i < n) (hk : k < m) : Fn Try.prog 74 [vint i, vint k, vptr b8 0] w (fun v w1 => v = .int .u8 (sureL L L.length i k).toNat ∧ Keep [] w w1) := by
  refine Fn.enter (n := 38) Try.func74 rfl rfl rfl ?_
  show WC _ _ _ _ [(0, vint i), (1, vint k), (2, vptr b8 0)] _
  have hH := Hp.start [] w
  have hRl := hR.len
  have hLl := hO.l
  obtain ⟨bz, offz, capz, hvz, hsz⟩ := hR.at (a := 0) (by omega) (hO.g _ (by omega)).1
  have hGz := (hO.g 0 (by omega)).1
  have hnz := (hO.g 0 (by omega)).2.2.1
  have hmz := (hO.g 0 (by omega)).2.2.2
  dsimp only [nR, nC] at hnz hmz
  have hrz := hGz.row i (by omega)
  have hgetz := getD_get (L.getD 0 []) i [] (by omega)
  have hhz := getD_get hs 0 hd0 (by omega)
  refine WC.seq ?_
  refine WC.region ?_
  refine WL.u rfl rfl (Wt.plain rfl) (Ex.assign rfl) ?_
  refine WL.next ?_
  refine WC.seq ?_
  refine WC.seq ?_
  refine WC.region ?_
  refine WL.u rfl rfl (Wt.plain rfl) (Ex.load flat56 rfl h8) ?_
  refine WL.u rfl rfl (Wt.plain rfl) (Ex.lenSl Try.underlying56 rfl) ?_
  refine WL.u rfl rfl (Wt.plain rfl) (Ex.move rfl) ?_
  refine WL.next ?_
  refine WC.block ?_
  refine WC.loop (ι := Nat) (fun a => [(0, vint i), (1, vint k), (2, vptr b8 0), (8, vsl bl hs.length capl), (9, vint hs.length), (10, vint a)]) (fun a wn => Hp [] w wn [] ∧ sureB L i k a = false ∧ a ≤ L.length) (fun a => L.length - a) (0) (by exact ⟨rfl, rfl, rfl, rfl, rfl, rfl, trivial⟩) ?_ ?_
  · exact ⟨hH, rfl, Nat.zero_le _⟩
  rintro a wn ⟨hH, hsb, ha⟩
  intro mu0 hmu; try dsimp only at hmu
  show WC _ _ _ _ [(0, vint i), (1, vint k), (2, vptr b8 0), (8, vsl bl hs.length capl), (9, vint hs.length), (10, vint a)] _
  refine WC.seq ?_
  refine WC.region ?_
  refine WL.u rfl rfl (Wt.plain rfl) (Ex.lss rfl rfl) ?_
  refine WL.next ?_
  refine WC.seq ?_
  refine WC.cond rfl (fun hc1 => ?_) (fun hc1 => ?_)
  · have hc1' := hc1; try simp only [decide_eq_true_eq, decide_eq_false_iff_not, Bool.not_eq_true', Bool.not_eq_false', Bool.not_eq_true, Bool.not_eq_false] at hc1'
    have hla : a < L.length := by omega
    obtain ⟨bq, offq, capq, hvq, hsq⟩ := hR.at (a := a) (by omega) (hO.g _ (by omega)).1
    have hGq := (hO.g a (by omega)).1
    have hnq := (hO.g a (by omega)).2.2.1
    have hmq := (hO.g a (by omega)).2.2.2
    dsimp only [nR, nC] at hnq hmq
    have hrq := hGq.row i (by omega)
    have hgetq := getD_get (L.getD a []) i [] (by omega)
    have hhq := getD_get hs a hd0 (by omega)
    refine WC.skip ?_
    refine WN.next ?_
    refine WC.seq ?_
    refine WC.block ?_
    refine WC.seq ?_
    refine WC.region ?_
    refine WL.u rfl rfl (Wt.plain rfl) (Ex.indexAddr Try.underlying56 ty22 rfl rfl (by omega)) ?_
    refine WL.u rfl rfl (Wt.plain rfl) ((Ex.loadSl flat22 (hl.kept hH.keep) rfl rfl hhq).to hvq) ?_
    refine WL.u rfl rfl (Wt.plain rfl) (Ex.assign rfl) ?_
    refine WL.next ?_
    refine WC.seq ?_
    refine WC.quietK rfl (by kernel_rfl) ?_
    refine WQ.u rfl rfl (Wt.plain rfl) (fun w hC => Ex.move rfl) ?_
    refine WQ.u rfl rfl (Wt.plain rfl) (fun w hC => Ex.move rfl) ?_
    refine WQ.u rfl rfl (Wt.plain rfl) (fun w hC => Ex.indexAddr Try.underlying22 ty9 rfl rfl (by omega)) ?_
    refine WQ.u rfl rfl (Wt.plain rfl) (fun w hC => Ex.loadSl flat9 (hsq.kept (hH.keep.trans hC)) rfl rfl hgetq) ?_
    refine WQ.u rfl rfl (Wt.plain rfl) (fun w hC => Ex.move rfl) ?_
    refine WQ.u rfl rfl (Wt.plain rfl) (fun w hC => Ex.indexStr Try.underlying9 rfl rfl (by omega)) ?_
    refine WQ.u rfl rfl (Wt.plain rfl) (fun w hC => Ex.load flat56 rfl ((hH.keep.trans hC).cell h8 (by simp))) ?_
    refine WQ.u rfl rfl (Wt.plain rfl) (fun w hC => Ex.indexAddr Try.underlying56 ty22 rfl rfl (by omega)) ?_
    refine WQ.u rfl rfl (Wt.plain rfl) (fun w hC => (Ex.loadSl flat22 (hl.kept (hH.keep.trans hC)) rfl rfl hhz).to hvz) ?_
    refine WQ.u rfl rfl (Wt.plain rfl) (fun w hC => Ex.move rfl) ?_
    refine WQ.u rfl rfl (Wt.plain rfl) (fun w hC => Ex.indexAddr Try.underlying22 ty9 rfl rfl (by omega)) ?_
    refine WQ.u rfl rfl (Wt.plain rfl) (fun w hC => Ex.loadSl flat9 (hsz.kept (hH.keep.trans hC)) rfl rfl hgetz) ?_
    refine WQ.u rfl rfl (Wt.plain rfl) (fun w hC => Ex.move rfl) ?_
    refine WQ.u rfl rfl (Wt.plain rfl) (fun w hC => Ex.indexStr Try.underlying9 rfl rfl (by omega)) ?_
    refine WQ.u rfl rfl (Wt.plain rfl) (fun w hC => Ex.neq rfl rfl) ?_
    refine WQ.nil ?_
    intro wn hC; replace hH := hH.call hC; clear hC
    refine WN.next ?_
    refine WC.cond rfl (fun hc2 => ?_) (fun hc2 => ?_)
    · rw [u8_ne] at hc2
      have hqe : decide (cellG (L.getD a []) i k ≠ cellG (L.getD 0 []) i k) = true := hc2
      refine WC.seq ?_
      refine WC.region ?_
      refine WL.u rfl rfl (Wt.plain rfl) (Ex.assign rfl) ?_
      refine WL.next ?_
      refine WC.ret ?_
      refine WN.retBlock ?_
      refine WN.retThen ?_
      refine WN.retThen ?_
      refine WN.retBlock ?_
      refine WN.retThen ?_
      refine WN.body1 rfl rfl ?_
      have hb : sureB L i k L.length = true := sureB_mono L i k _ (a + 1) hla (by rw [sureB, hqe, Bool.or_true])
      exact ⟨by unfold sureL; rw [if_pos hb]; rfl, hH.keep⟩
    rw [u8_ne] at hc2
    have hqe : decide (cellG (L.getD a []) i k ≠ cellG (L.getD 0 []) i k) = false := hc2
    refine WC.skip ?_
    refine WN.normalBlock ?_
    refine WN.next ?_
    refine WC.region ?_
    refine WL.u rfl rfl (Wt.plain rfl) (Ex.add rfl rfl (by omega)) ?_
    refine WL.u rfl rfl (Wt.plain rfl) (Ex.move rfl) ?_
    refine WL.last ?_
    refine WN.round (a + 1) (by exact ⟨rfl, rfl, rfl, rfl, rfl, rfl, trivial⟩) ?_ ?_
    · exact ⟨hH, by rw [sureB, hsb, hqe]; rfl, by omega⟩
    · (try dsimp only); omega
  have hc1' := hc1; try simp only [decide_eq_true_eq, decide_eq_false_iff_not, Bool.not_eq_true', Bool.not_eq_false', Bool.not_eq_true, Bool.not_eq_false] at hc1'
  obtain rfl : a = L.length := by omega
  refine WC.exit ?_
  refine WN.exitThen ?_
  refine WN.exitThen ?_
  refine WN.exitHere ?_
  refine WN.next ?_
  refine WC.seq ?_
  refine WC.region ?_
  refine WL.u rfl rfl (Wt.plain rfl) (Ex.load flat56 rfl (hH.keep.cell h8 (by simp))) ?_
  refine WL.u rfl rfl (Wt.plain rfl) (Ex.indexAddr Try.underlying56 ty22 rfl rfl (by omega)) ?_
  refine WL.u rfl rfl (Wt.plain rfl) ((Ex.loadSl flat22 (hl.kept hH.keep) rfl rfl hhz).to hvz) ?_
  refine WL.u rfl rfl (Wt.plain rfl) (Ex.move rfl) ?_
  refine WL.u rfl rfl (Wt.plain rfl) (Ex.indexAddr Try.underlying22 ty9 rfl rfl (by omega)) ?_
  refine WL.u rfl rfl (Wt.plain rfl) (Ex.loadSl flat9 (hsz.kept hH.keep) rfl rfl hgetz) ?_
  refine WL.u rfl rfl (Wt.plain rfl) (Ex.move rfl) ?_
  refine WL.u rfl rfl (Wt.plain rfl) (Ex.indexStr Try.underlying9 rfl rfl (by omega)) ?_
  refine WL.u rfl rfl (Wt.plain rfl) (Ex.assign rfl) ?_
  refine WL.next ?_
  refine WC.ret ?_
  refine WN.body1 rfl rfl ?_
  exact ⟨by unfold sureL; rw [hsb, if_neg (by decide)]; rfl, hH.keep⟩

theorem iAskSure (n m : Int) (ans : List Int) (a : Option Addr) (cap : Nat) (w : World) (ha : Sl rInt w a ans) : Fn Try.prog 41 [vint n, vint m, .slice a ans.length cap] w (fun v w1 => ∃ x, v = .tuple #[x, .bool (askSure n m ans).2] ∧ Keep [] w w1 ∧ New rStr 9 w w1 x (askSure n m ans).1) := by
  refine Fn.enter (n := 27) Try.func41 rfl rfl rfl ?_
  show WC _ _ _ _ [(0, vint n), (1, vint m), (2, .slice a ans.length cap)] _
  have hH := Hp.start [] w
  refine WC.seq ?_
  refine WC.region ?_
  refine WL.u rfl rfl (Wt.plain rfl) (Ex.assign rfl) ?_
  refine WL.u rfl rfl (Wt.plain rfl) (Ex.assign rfl) ?_
  refine WL.next ?_
  refine WC.seq ?_
  refine WC.seq ?_
  refine WC.region ?_
  refine WL.u rfl rfl (Wt.plain rfl) (Ex.move rfl) ?_
  refine WL.u rfl rfl (Wt.plain rfl) (Ex.move rfl) ?_
  refine WL.u rfl rfl (Wt.plain rfl) (Ex.move rfl) ?_
  refine WL.call callable64 rfl (Wt.plain rfl) rfl rfl (ianswersOk n m ans _ _ _ (ha.kept hH.keep)) ?_
  rintro _ _ ⟨rfl, hw⟩; obtain rfl := hw.symm
  refine WL.u rfl rfl (Wt.plain rfl) (Ex.not rfl) ?_
  refine WL.next ?_
  refine WC.cond rfl (fun hc1 => ?_) (fun hc1 => ?_)
  · have hc1' := hc1; try simp only [decide_eq_true_eq, decide_eq_false_iff_not, Bool.not_eq_true', Bool.not_eq_false', Bool.not_eq_true, Bool.not_eq_false] at hc1'
    have hab : ansB n m ans = false := by simpa using hc1
    refine WC.seq ?_
    refine WC.region ?_
    refine WL.lit0 Try.underlying22 ty9 rfl (Wt.plain rfl) hH (fun b14 wn hb14 hk14 hH => ?_)
    have ho14 := Own.nil rStr
    refine WL.u rfl rfl (Wt.plain rfl) (Ex.assign rfl) ?_
    refine WL.u rfl rfl (Wt.plain rfl) (Ex.assign rfl) ?_
    refine WL.next ?_
    refine WC.ret ?_
    refine WN.retThen ?_
    refine WN.body2 rfl rfl rfl ?_
    have e := askSure_not hab
    exact ⟨_, by rw [e] <;> rfl, hH.keep, by rw [e]; exact New.of (hH.front 0 rfl) ho14 (hH.base 0 rfl)⟩
  have hc1' := hc1; try simp only [decide_eq_true_eq, decide_eq_false_iff_not, Bool.not_eq_true', Bool.not_eq_false', Bool.not_eq_true, Bool.not_eq_false] at hc1'
  have hab : ansB n m ans = true := by simpa using hc1
  obtain ⟨n, m, rfl, rfl, hA⟩ := ansB_ex hab
  refine WC.skip ?_
  refine WN.next ?_
  refine WC.seq ?_
  refine WC.region ?_
  refine WL.u rfl rfl (Wt.plain rfl) (Ex.move rfl) ?_
  refine WL.u rfl rfl (Wt.plain rfl) (Ex.move rfl) ?_
  refine WL.u rfl rfl (Wt.plain rfl) (Ex.move rfl) ?_
  refine WL.call callable65 rfl (Wt.plain rfl) rfl rfl (ifits n m ans _ _ _ (ha.kept hH.keep) hA) ?_
  rintro _ wn ⟨hC, hN⟩; obtain ⟨hs, b18, cap18, cur18, rfl, hge18, hbb18, ho18, hgs⟩ := hN; replace hH := hH.push hC hge18 hbb18; have hsl := hgs.len; clear hC
  refine WL.alloc ty56 rfl rfl (Wt.plain rfl) hH (fun b8 wn hb8 hk8 hH => ?_)
  replace hgs := (hgs.reX (X' := [b18, b8]) (by intro x hx; rcases List.mem_cons.1 hx with h | h; exact .inl (by rw [h]; simp); exact .inr (by rw [List.mem_singleton.1 h]; exact hb8))).kept hk8
  refine WL.store1 ty56 rfl rfl rfl (Wt.plain rfl) hH (by first | decide | simp) rfl (fun wn hk hH => ?_)
  replace hgs := hgs.keep hk (by intro x hx; exact .inl (by rw [List.mem_singleton.1 hx]; simp))
  refine WL.next ?_
  refine WC.seq ?_
  refine WC.seq ?_
  refine WC.region ?_
  refine WL.u rfl rfl (Wt.plain rfl) (Ex.loadHp flat56 rfl hH rfl) ?_
  refine WL.u rfl rfl (Wt.plain rfl) (Ex.lenSl Try.underlying56 rfl) ?_
  refine WL.u rfl rfl (Wt.plain rfl) (Ex.eql rfl rfl) ?_
  refine WL.next ?_
  refine WC.cond rfl (fun hc2 => ?_) (fun hc2 => ?_)
  · have hc2' := hc2; try simp only [decide_eq_true_eq, decide_eq_false_iff_not, Bool.not_eq_true', Bool.not_eq_false', Bool.not_eq_true, Bool.not_eq_false] at hc2'
    have hL0 : (fits n m ans).length = 0 := by omega
    refine WC.seq ?_
    refine WC.region ?_
    refine WL.lit0 Try.underlying22 ty9 rfl (Wt.plain rfl) hH (fun b22 wn hb22 hk22 hH => ?_)
    have ho22 := Own.nil rStr
    refine WL.u rfl rfl (Wt.plain rfl) (Ex.assign rfl) ?_
    refine WL.u rfl rfl (Wt.plain rfl) (Ex.assign rfl) ?_
    refine WL.next ?_
    refine WC.ret ?_
    refine WN.retThen ?_
    refine WN.body2 rfl rfl rfl ?_
    have e := askSure_none hL0
    exact ⟨_, by rw [e] <;> rfl, hH.keep, by rw [e]; exact New.of (hH.front 0 rfl) ho22 (hH.base 0 rfl)⟩
  have hc2' := hc2; try simp only [decide_eq_true_eq, decide_eq_false_iff_not, Bool.not_eq_true', Bool.not_eq_false', Bool.not_eq_true, Bool.not_eq_false] at hc2'
  have hL0 : 0 < (fits n m ans).length := by omega
  have hn5 := hA.n5
  have hm5 := hA.m5
  refine WC.skip ?_
  refine WN.next ?_
  refine WC.seq ?_
  have h8c := hH.cellAt 0 rfl 0 rfl
  have hslq := ho18.slAt hH 1 rfl
  have hR := hgs.r
  have hO := hA.list
  refine WC.region ?_
  refine WL.u rfl rfl (Wt.plain rfl) (Ex.move rfl) ?_
  refine WL.u rfl rfl (Wt.plain rfl) (Ex.move rfl) ?_
  refine WL.u rfl rfl (Wt.plain rfl) (Ex.makeFunc rfl) ?_
  refine WL.call callable73 rfl (Wt.plain rfl) rfl rfl (makeGrid0 n m 74 [vptr b8 0] (sureL (fits n m ans) (fits n m ans).length) _ callable74 (by omega) (by omega) (fun w2 i k hk hi hk2 => (iAskSure1 n m i k b8 b18 cap18 hs (fits n m ans) ans w2 (hk.cell h8c (by simp)) (hslq.kept hk) (hR.kept hk) hO hL0 hi hk2).mono (fun v w3 h => h))) ?_
  rintro _ wn ⟨hC, hN⟩; obtain ⟨b26, cap26, cur26, rfl, hge26, hbb26, ho26⟩ := hN.own; replace hH := hH.push hC hge26 hbb26; clear hC hN
  refine WL.u rfl rfl (Wt.plain rfl) (Ex.assign rfl) ?_
  refine WL.u rfl rfl (Wt.plain rfl) (Ex.assign rfl) ?_
  refine WL.next ?_
  refine WC.ret ?_
  refine WN.body2 rfl rfl rfl ?_
  have e := askSure_some hA hL0
  have hlen26 : (gridOf n m (sureL (fits n m ans) (fits n m ans).length)) = sureG n m (fits n m ans) := rfl
  exact ⟨_, by rw [e], hH.keep, by rw [e]; exact New.of (hH.front 0 rfl) ho26 (hH.base 0 rfl)⟩

end Go.Proofs.Ytmlefpddjfonlaa
