/- The functions that only compute. -/
import Derived.Test.YtmlkabddhdkpaaaFacts
import Derived.Test.YtmlkabddhdkpaaaMaths
namespace Go.Proofs.Ytmlkabddhdkpaaa
set_option maxRecDepth 100000
set_option linter.unusedSimpArgs false
set_option linter.unusedVariables false
open Go Go.RowKit

theorem u8lt (c : UInt8) : (c.toNat : Int) < 256 := by have := c.toNat_lt; omega
theorem u8eq (c : UInt8) (k : Nat) (hk : k < 256) : ((c.toNat : Int) = (k : Int)) ↔ c = UInt8.ofNat k := by
  constructor
  · intro h
    have h1 : c.toNat = k := by omega
    rw [← h1]; exact (UInt8.ofNat_toNat).symm
  · intro h
    rw [h, UInt8.toNat_ofNat_of_lt' hk]
theorem u8_46 (c : UInt8) : ((c.toNat : Int) = 46) ↔ c = 46 := u8eq c 46 (by decide)
theorem u8_114 (c : UInt8) : ((c.toNat : Int) = 114) ↔ c = 114 := u8eq c 114 (by decide)
theorem u8_102 (c : UInt8) : ((c.toNat : Int) = 102) ↔ c = 102 := u8eq c 102 (by decide)

theorem iwithin (n lo hi : Int) (w : World) : Fn Try.prog 46 [vint n, vint lo, vint hi] w (fun v w1 => v = .bool (decide (n ≥ lo ∧ n ≤ hi)) ∧ w1 = w) := by
  refine Fn.enter (n := 15) Try.func46 rfl rfl rfl ?_
  show WC _ _ _ _ [(0, vint n), (1, vint lo), (2, vint hi)] _
  refine WC.seq ?_
  refine WC.region ?_
  refine WL.u rfl rfl (Wt.plain rfl) (Ex.assign rfl) ?_
  refine WL.next ?_
  refine WC.seq ?_
  refine WC.region ?_
  refine WL.u rfl rfl (Wt.plain rfl) (Ex.move rfl) ?_
  refine WL.u rfl rfl (Wt.plain rfl) (Ex.move rfl) ?_
  refine WL.u rfl rfl (Wt.plain rfl) (Ex.geq rfl rfl) ?_
  refine WL.u rfl rfl (Wt.plain rfl) (Ex.move rfl) ?_
  refine WL.split (t := 10) rfl (fun hg1_3 => ?_) (fun hg1_3 => ?_)
  · have hg1_3' := hg1_3; try simp only [decide_eq_true_eq, decide_eq_false_iff_not, Bool.not_eq_true', Bool.not_eq_false', Bool.not_eq_true, Bool.not_eq_false] at hg1_3'
    refine WL.u rfl rfl (Wt.guard' rfl rfl rfl hg1_3 rfl) (Ex.move rfl) ?_
    refine WL.u rfl rfl (Wt.guard' rfl rfl rfl hg1_3 rfl) (Ex.move rfl) ?_
    refine WL.u rfl rfl (Wt.guard' rfl rfl rfl hg1_3 rfl) (Ex.leq rfl rfl) ?_
    refine WL.u rfl rfl (Wt.plain rfl) (Ex.pickT rfl hg1_3 rfl) ?_
    refine WL.u rfl rfl (Wt.plain rfl) (Ex.assign rfl) ?_
    refine WL.next ?_
    refine WC.ret ?_
    refine WN.body1 rfl rfl ?_
    exact ⟨by simp [hg1_3'], rfl⟩
  have hg1_3' := hg1_3; try simp only [decide_eq_true_eq, decide_eq_false_iff_not, Bool.not_eq_true', Bool.not_eq_false', Bool.not_eq_true, Bool.not_eq_false] at hg1_3'
  refine WL.pass rfl rfl (Wt.guard' rfl rfl rfl hg1_3 rfl) ?_
  refine WL.pass rfl rfl (Wt.guard' rfl rfl rfl hg1_3 rfl) ?_
  refine WL.pass rfl rfl (Wt.guard' rfl rfl rfl hg1_3 rfl) ?_
  refine WL.u rfl rfl (Wt.plain rfl) (Ex.pickF rfl hg1_3 rfl) ?_
  refine WL.u rfl rfl (Wt.plain rfl) (Ex.assign rfl) ?_
  refine WL.next ?_
  refine WC.ret ?_
  refine WN.body1 rfl rfl ?_
  exact ⟨by simp; omega, rfl⟩

theorem sl6In (n lo hi : Int) (w : World) : Fn Try.prog 27 [vint n, vint lo, vint hi] w (fun v w1 => v = .bool (decide (n ≥ lo ∧ n ≤ hi)) ∧ w1 = w) := by
  refine Fn.enter (n := 15) Try.func27 rfl rfl rfl ?_
  show WC _ _ _ _ [(0, vint n), (1, vint lo), (2, vint hi)] _
  refine WC.seq ?_
  refine WC.region ?_
  refine WL.u rfl rfl (Wt.plain rfl) (Ex.assign rfl) ?_
  refine WL.next ?_
  refine WC.seq ?_
  refine WC.region ?_
  refine WL.u rfl rfl (Wt.plain rfl) (Ex.move rfl) ?_
  refine WL.u rfl rfl (Wt.plain rfl) (Ex.move rfl) ?_
  refine WL.u rfl rfl (Wt.plain rfl) (Ex.geq rfl rfl) ?_
  refine WL.u rfl rfl (Wt.plain rfl) (Ex.move rfl) ?_
  refine WL.split (t := 10) rfl (fun hg1_3 => ?_) (fun hg1_3 => ?_)
  · have hg1_3' := hg1_3; try simp only [decide_eq_true_eq, decide_eq_false_iff_not, Bool.not_eq_true', Bool.not_eq_false', Bool.not_eq_true, Bool.not_eq_false] at hg1_3'
    refine WL.u rfl rfl (Wt.guard' rfl rfl rfl hg1_3 rfl) (Ex.move rfl) ?_
    refine WL.u rfl rfl (Wt.guard' rfl rfl rfl hg1_3 rfl) (Ex.move rfl) ?_
    refine WL.u rfl rfl (Wt.guard' rfl rfl rfl hg1_3 rfl) (Ex.leq rfl rfl) ?_
    refine WL.u rfl rfl (Wt.plain rfl) (Ex.pickT rfl hg1_3 rfl) ?_
    refine WL.u rfl rfl (Wt.plain rfl) (Ex.assign rfl) ?_
    refine WL.next ?_
    refine WC.ret ?_
    refine WN.body1 rfl rfl ?_
    exact ⟨by simp [hg1_3'], rfl⟩
  have hg1_3' := hg1_3; try simp only [decide_eq_true_eq, decide_eq_false_iff_not, Bool.not_eq_true', Bool.not_eq_false', Bool.not_eq_true, Bool.not_eq_false] at hg1_3'
  refine WL.pass rfl rfl (Wt.guard' rfl rfl rfl hg1_3 rfl) ?_
  refine WL.pass rfl rfl (Wt.guard' rfl rfl rfl hg1_3 rfl) ?_
  refine WL.pass rfl rfl (Wt.guard' rfl rfl rfl hg1_3 rfl) ?_
  refine WL.u rfl rfl (Wt.plain rfl) (Ex.pickF rfl hg1_3 rfl) ?_
  refine WL.u rfl rfl (Wt.plain rfl) (Ex.assign rfl) ?_
  refine WL.next ?_
  refine WC.ret ?_
  refine WN.body1 rfl rfl ?_
  exact ⟨by simp; omega, rfl⟩

theorem iletterOk (c : UInt8) (w : World) : Fn Try.prog 57 [.int .u8 c.toNat] w (fun v w1 => v = .bool (okL c) ∧ w1 = w) := by
  refine Fn.enter (n := 13) Try.func57 rfl rfl rfl ?_
  show WC _ _ _ _ [(0, .int .u8 c.toNat)] _
  refine WC.seq ?_
  refine WC.region ?_
  refine WL.u rfl rfl (Wt.plain rfl) (Ex.assign rfl) ?_
  refine WL.next ?_
  refine WC.seq ?_
  refine WC.region ?_
  refine WL.u rfl rfl (Wt.plain rfl) (Ex.move rfl) ?_
  refine WL.u rfl rfl (Wt.plain rfl) (Ex.eql rfl rfl) ?_
  refine WL.u rfl rfl (Wt.plain rfl) (Ex.move rfl) ?_
  refine WL.split (t := 5) rfl (fun hg1_2 => ?_) (fun hg1_2 => ?_)
  · have hg1_2' := hg1_2; try simp only [decide_eq_true_eq, decide_eq_false_iff_not, Bool.not_eq_true', Bool.not_eq_false', Bool.not_eq_true, Bool.not_eq_false] at hg1_2'
    refine WL.pass rfl rfl (Wt.guard' rfl rfl rfl hg1_2 rfl) ?_
    refine WL.pass rfl rfl (Wt.guard' rfl rfl rfl hg1_2 rfl) ?_
    refine WL.u rfl rfl (Wt.plain rfl) (Ex.pickT rfl hg1_2 rfl) ?_
    refine WL.u rfl rfl (Wt.plain rfl) (Ex.move rfl) ?_
    refine WL.pass rfl rfl (Wt.guard' rfl rfl rfl rfl rfl) ?_
    refine WL.pass rfl rfl (Wt.guard' rfl rfl rfl rfl rfl) ?_
    refine WL.u rfl rfl (Wt.plain rfl) (Ex.pickT rfl rfl rfl) ?_
    refine WL.u rfl rfl (Wt.plain rfl) (Ex.assign rfl) ?_
    refine WL.next ?_
    refine WC.ret ?_
    refine WN.body1 rfl rfl ?_
    refine ⟨?_, rfl⟩; simp_all [okL, u8_46, u8_114, u8_102]
  have hg1_2' := hg1_2; try simp only [decide_eq_true_eq, decide_eq_false_iff_not, Bool.not_eq_true', Bool.not_eq_false', Bool.not_eq_true, Bool.not_eq_false] at hg1_2'
  refine WL.u rfl rfl (Wt.guard' rfl rfl rfl hg1_2 rfl) (Ex.move rfl) ?_
  refine WL.u rfl rfl (Wt.guard' rfl rfl rfl hg1_2 rfl) (Ex.eql rfl rfl) ?_
  refine WL.u rfl rfl (Wt.plain rfl) (Ex.pickF rfl hg1_2 rfl) ?_
  refine WL.u rfl rfl (Wt.plain rfl) (Ex.move rfl) ?_
  refine WL.split (t := 9) rfl (fun hg1_6 => ?_) (fun hg1_6 => ?_)
  · have hg1_6' := hg1_6; try simp only [decide_eq_true_eq, decide_eq_false_iff_not, Bool.not_eq_true', Bool.not_eq_false', Bool.not_eq_true, Bool.not_eq_false] at hg1_6'
    refine WL.pass rfl rfl (Wt.guard' rfl rfl rfl hg1_6 rfl) ?_
    refine WL.pass rfl rfl (Wt.guard' rfl rfl rfl hg1_6 rfl) ?_
    refine WL.u rfl rfl (Wt.plain rfl) (Ex.pickT rfl hg1_6 rfl) ?_
    refine WL.u rfl rfl (Wt.plain rfl) (Ex.assign rfl) ?_
    refine WL.next ?_
    refine WC.ret ?_
    refine WN.body1 rfl rfl ?_
    refine ⟨?_, rfl⟩; simp_all [okL, u8_46, u8_114, u8_102]
  have hg1_6' := hg1_6; try simp only [decide_eq_true_eq, decide_eq_false_iff_not, Bool.not_eq_true', Bool.not_eq_false', Bool.not_eq_true, Bool.not_eq_false] at hg1_6'
  refine WL.u rfl rfl (Wt.guard' rfl rfl rfl hg1_6 rfl) (Ex.move rfl) ?_
  refine WL.u rfl rfl (Wt.guard' rfl rfl rfl hg1_6 rfl) (Ex.eql rfl rfl) ?_
  refine WL.u rfl rfl (Wt.plain rfl) (Ex.pickF rfl hg1_6 rfl) ?_
  refine WL.u rfl rfl (Wt.plain rfl) (Ex.assign rfl) ?_
  refine WL.next ?_
  refine WC.ret ?_
  refine WN.body1 rfl rfl ?_
  refine ⟨?_, rfl⟩; simp_all [okL, u8_46, u8_114, u8_102]

end Go.Proofs.Ytmlkabddhdkpaaa

/- Is it a grid: the program's word and the reference's. -/
namespace Go.Proofs.Ytmlkabddhdkpaaa
set_option maxRecDepth 100000
set_option linter.unusedSimpArgs false
set_option linter.unusedVariables false
open Go Go.RowKit

theorem getD_get {α : Type} (l : List α) (i : Nat) (d : α) (h : i < l.length) : l[i]? = some (l.getD i d) := by
  simp [List.getD_eq_getElem?_getD, List.getElem?_eq_getElem h]

/-- every string is as long as strings may be -/
def Short (g : Grid) : Prop := ∀ i, ((g.getD i []).length : Int) ≤ 9223372036854775807
structure GridOk (g : Grid) : Prop where
  n1 : 1 ≤ g.length
  n5 : g.length ≤ 5
  m1 : 1 ≤ (g.getD 0 []).length
  m5 : (g.getD 0 []).length ≤ 5
  row : ∀ i, i < g.length → (g.getD i []).length = (g.getD 0 []).length
  ok : ∀ i, i < g.length → ∀ j, j < (g.getD 0 []).length → okL ((g.getD i []).getD j 0) = true

theorem rowOk_iff (m : Nat) (r : Str) : rowOk m r = true ↔ r.length = m ∧ ∀ j, j < r.length → okL (r.getD j 0) = true := by
  simp only [rowOk, Bool.and_eq_true, beq_iff_eq, List.all_eq_true]
  constructor
  · rintro ⟨h1, h2⟩
    exact ⟨h1, fun j hj => h2 _ (List.mem_of_getElem? (getD_get r j 0 hj))⟩
  · rintro ⟨h1, h2⟩
    refine ⟨h1, fun x hx => ?_⟩
    obtain ⟨j, hj, rfl⟩ := List.getElem_of_mem hx
    have := h2 j hj
    rwa [List.getD_eq_getElem?_getD, List.getElem?_eq_getElem hj, Option.getD_some] at this

theorem gridOk_iff (g : Grid) : gridIn g = true ↔ GridOk g := by
  simp only [gridIn, Bool.and_eq_true, decide_eq_true_eq, List.all_eq_true]
  constructor
  · rintro ⟨⟨⟨⟨h1, h2⟩, h3⟩, h4⟩, h5⟩
    have key : ∀ i, i < g.length → rowOk (g.getD 0 []).length (g.getD i []) = true := fun i hi => h5 _ (List.mem_of_getElem? (getD_get g i [] hi))
    refine ⟨h1, h2, h3, h4, fun i hi => ((rowOk_iff _ _).1 (key i hi)).1, fun i hi j hj => ?_⟩
    have := (rowOk_iff _ _).1 (key i hi)
    exact this.2 j (by omega)
  · rintro ⟨h1, h2, h3, h4, h5, h6⟩
    refine ⟨⟨⟨⟨h1, h2⟩, h3⟩, h4⟩, fun x hx => ?_⟩
    obtain ⟨j, hj, rfl⟩ := List.getElem_of_mem hx
    have e : g[j] = g.getD j [] := by rw [List.getD_eq_getElem?_getD, List.getElem?_eq_getElem hj, Option.getD_some]
    rw [e, rowOk_iff]
    exact ⟨h5 j hj, fun k hk => h6 j hj k (by rw [← h5 j hj]; exact hk)⟩

theorem gridIn_false {g : Grid} (h : ¬ GridOk g) : gridIn g = false := by
  cases e : gridIn g
  · rfl
  · exact absurd ((gridOk_iff g).1 e) h
theorem gridIn_true {g : Grid} (h : GridOk g) : gridIn g = true := (gridOk_iff g).2 h
theorem gridIn_iff {g : Grid} {b : Bool} (h : b = true ↔ GridOk g) : b = gridIn g := by
  rw [Bool.eq_iff_iff, h, gridOk_iff]

theorem iGridIn (g : Grid) (a : Option Addr) (cap : Nat) (w : World) (hg : Sl rStr w a g) (hs : Short g) : Fn Try.prog 47 [.slice a g.length cap] w (fun v w1 => v = .bool (gridIn g) ∧ w1 = w) := by
  refine Fn.enter (n := 40) Try.func47 rfl rfl rfl ?_
  show WC _ _ _ _ [(0, .slice a g.length cap)] _
  have hm := hg.1
  refine WC.seq ?_
  refine WC.region ?_
  refine WL.u rfl rfl (Wt.plain rfl) (Ex.assign rfl) ?_
  refine WL.next ?_
  refine WC.seq ?_
  refine WC.seq ?_
  refine WC.region ?_
  refine WL.u rfl rfl (Wt.plain rfl) (Ex.move rfl) ?_
  refine WL.u rfl rfl (Wt.plain rfl) (Ex.lenSl Try.underlying35 rfl) ?_
  refine WL.call callable46 rfl (Wt.plain rfl) rfl rfl (iwithin _ _ _ _) ?_
  rintro _ _ ⟨rfl, hw⟩; obtain rfl := hw.symm
  refine WL.u rfl rfl (Wt.plain rfl) (Ex.not rfl) ?_
  refine WL.next ?_
  refine WC.cond rfl (fun hc1 => ?_) (fun hc1 => ?_)
  · have hc1' := hc1; try simp only [decide_eq_true_eq, decide_eq_false_iff_not, Bool.not_eq_true', Bool.not_eq_false', Bool.not_eq_true, Bool.not_eq_false] at hc1'
    refine WC.seq ?_
    refine WC.region ?_
    refine WL.u rfl rfl (Wt.plain rfl) (Ex.assign rfl) ?_
    refine WL.next ?_
    refine WC.ret ?_
    refine WN.retThen ?_
    refine WN.body1 rfl rfl ?_
    exact ⟨by rw [gridIn_false]; intro h; have := h.n1; have := h.n5; simp at hc1; omega, rfl⟩
  have hl : 1 ≤ g.length ∧ g.length ≤ 5 := by simp at hc1; omega
  obtain ⟨b, off, rfl⟩ := hg.addr (by omega)
  refine WC.skip ?_
  refine WN.next ?_
  refine WC.seq ?_
  refine WC.seq ?_
  refine WC.region ?_
  refine WL.u rfl rfl (Wt.plain rfl) (Ex.move rfl) ?_
  refine WL.u rfl rfl (Wt.plain rfl) (Ex.lenSl Try.underlying35 rfl) ?_
  refine WL.u rfl rfl (Wt.plain rfl) (Ex.move rfl) ?_
  refine WL.next ?_
  refine WC.block ?_
  refine WC.loop (ι := Nat) (fun i => [(0, .slice (some ⟨b, off, none⟩) g.length cap), (10, .slice (some ⟨b, off, none⟩) g.length cap), (11, vint g.length), (12, vint i)]) (fun i w2 => w = w2 ∧ i ≤ g.length ∧ (∀ j, j < i → (g.getD j []).length = (g.getD 0 []).length ∧ ∀ k, k < (g.getD j []).length → okL ((g.getD j []).getD k 0) = true)) (fun i => g.length - i) (0) (by exact ⟨rfl, rfl, rfl, rfl, trivial⟩) ?_ ?_
  · exact ⟨rfl, by omega, fun j hj => by omega⟩
  rintro i w2 ⟨rfl, hi, hI⟩
  intro mu0 hmu; try dsimp only at hmu
  refine WC.seq ?_
  refine WC.region ?_
  refine WL.u rfl rfl (Wt.plain rfl) (Ex.lss rfl rfl) ?_
  refine WL.next ?_
  refine WC.seq ?_
  refine WC.cond rfl (fun hc2 => ?_) (fun hc2 => ?_)
  · have hc2' := hc2; try simp only [decide_eq_true_eq, decide_eq_false_iff_not, Bool.not_eq_true', Bool.not_eq_false', Bool.not_eq_true, Bool.not_eq_false] at hc2'
    refine WC.skip ?_
    refine WN.next ?_
    refine WC.seq ?_
    refine WC.block ?_
    refine WC.seq ?_
    have hlt : i < g.length := by simpa using hc2
    refine WC.region ?_
    refine WL.u rfl rfl (Wt.plain rfl) (Ex.indexAddr Try.underlying35 ty9 rfl rfl (by omega)) ?_
    refine WL.u rfl rfl (Wt.plain rfl) (Ex.loadSl flat9 hg rfl rfl (getD_get g i [] (by omega))) ?_
    refine WL.u rfl rfl (Wt.plain rfl) (Ex.assign rfl) ?_
    refine WL.next ?_
    refine WC.seq ?_
    refine WC.seq ?_
    refine WC.region ?_
    refine WL.u rfl rfl (Wt.plain rfl) (Ex.move rfl) ?_
    refine WL.u rfl rfl (Wt.plain rfl) (Ex.lenStr Try.underlying9 rfl) ?_
    refine WL.u rfl rfl (Wt.plain rfl) (Ex.move rfl) ?_
    refine WL.u rfl rfl (Wt.plain rfl) (Ex.indexAddr Try.underlying35 ty9 rfl rfl (by omega)) ?_
    refine WL.u rfl rfl (Wt.plain rfl) (Ex.loadSl flat9 hg rfl rfl (getD_get g 0 [] (by omega))) ?_
    refine WL.u rfl rfl (Wt.plain rfl) (Ex.lenStr Try.underlying9 rfl) ?_
    refine WL.u rfl rfl (Wt.plain rfl) (Ex.neq rfl rfl) ?_
    refine WL.next ?_
    refine WC.cond rfl (fun hc3 => ?_) (fun hc3 => ?_)
    · have hne : (g.getD i []).length ≠ (g.getD 0 []).length := by have h0 := of_decide_eq_true hc3; intro h; exact h0 (congrArg _ h)
      refine WC.seq ?_
      refine WC.region ?_
      refine WL.u rfl rfl (Wt.plain rfl) (Ex.assign rfl) ?_
      refine WL.next ?_
      refine WC.ret ?_
      refine WN.retThen ?_
      refine WN.retBlock ?_
      refine WN.retThen ?_
      refine WN.retThen ?_
      refine WN.retBlock ?_
      refine WN.retThen ?_
      refine WN.body1 rfl rfl ?_
      exact ⟨by rw [gridIn_false]; intro h; exact hne (h.row i hlt), rfl⟩
    have he : (g.getD i []).length = (g.getD 0 []).length := by have h0 := of_decide_eq_false hc3; exact Int.ofNat.inj (Classical.not_not.1 h0)
    refine WC.skip ?_
    refine WN.next ?_
    refine WC.seq ?_
    refine WC.region ?_
    refine WL.u rfl rfl (Wt.plain rfl) (Ex.move rfl) ?_
    refine WL.u rfl rfl (Wt.plain rfl) (Ex.lenStr Try.underlying9 rfl) ?_
    refine WL.u rfl rfl (Wt.plain rfl) (Ex.move rfl) ?_
    refine WL.next ?_
    refine WC.block ?_
    refine WC.loop (ι := Nat) (fun k => [(0, .slice (some ⟨b, off, none⟩) g.length cap), (10, .slice (some ⟨b, off, none⟩) g.length cap), (11, vint g.length), (12, vint i), (4, vstr (g.getD i [])), (24, vint (g.getD i []).length), (25, vint k)]) (fun k w3 => w = w3 ∧ k ≤ (g.getD i []).length ∧ ∀ q, q < k → okL ((g.getD i []).getD q 0) = true) (fun k => (g.getD i []).length - k) (0) (by exact ⟨rfl, rfl, rfl, rfl, rfl, rfl, rfl, trivial⟩) ?_ ?_
    · exact ⟨rfl, by omega, fun j hj => by omega⟩
    rintro k w3 ⟨rfl, hk, hK⟩
    intro mu0 hmu; try dsimp only at hmu
    refine WC.seq ?_
    refine WC.region ?_
    refine WL.u rfl rfl (Wt.plain rfl) (Ex.lss rfl rfl) ?_
    refine WL.next ?_
    refine WC.seq ?_
    refine WC.cond rfl (fun hc4 => ?_) (fun hc4 => ?_)
    · have hc4' := hc4; try simp only [decide_eq_true_eq, decide_eq_false_iff_not, Bool.not_eq_true', Bool.not_eq_false', Bool.not_eq_true, Bool.not_eq_false] at hc4'
      refine WC.skip ?_
      refine WN.next ?_
      refine WC.seq ?_
      refine WC.block ?_
      refine WC.seq ?_
      have hsi := hs i
      have hklt : k < (g.getD i []).length := by simpa using hc4
      refine WC.region ?_
      refine WL.u rfl rfl (Wt.plain rfl) (Ex.move rfl) ?_
      refine WL.u rfl rfl (Wt.plain rfl) (Ex.assign rfl) ?_
      refine WL.next ?_
      refine WC.seq ?_
      refine WC.region ?_
      refine WL.u rfl rfl (Wt.plain rfl) (Ex.move rfl) ?_
      refine WL.u rfl rfl (Wt.plain rfl) (Ex.move rfl) ?_
      refine WL.u rfl rfl (Wt.plain rfl) (Ex.indexStr Try.underlying9 rfl rfl (by (try simp only [List.length_cons, List.length_nil]); omega)) ?_
      refine WL.call callable57 rfl (Wt.plain rfl) rfl rfl (iletterOk _ _) ?_
      rintro _ _ ⟨rfl, hw⟩; obtain rfl := hw.symm
      refine WL.u rfl rfl (Wt.plain rfl) (Ex.not rfl) ?_
      refine WL.next ?_
      refine WC.cond rfl (fun hc5 => ?_) (fun hc5 => ?_)
      · have hc5' := hc5; try simp only [decide_eq_true_eq, decide_eq_false_iff_not, Bool.not_eq_true', Bool.not_eq_false', Bool.not_eq_true, Bool.not_eq_false] at hc5'
        refine WC.seq ?_
        refine WC.region ?_
        refine WL.u rfl rfl (Wt.plain rfl) (Ex.assign rfl) ?_
        refine WL.next ?_
        refine WC.ret ?_
        refine WN.retBlock ?_
        refine WN.retThen ?_
        refine WN.retThen ?_
        refine WN.retBlock ?_
        refine WN.retBlock ?_
        refine WN.retThen ?_
        refine WN.retThen ?_
        refine WN.retBlock ?_
        refine WN.retThen ?_
        refine WN.body1 rfl rfl ?_
        exact ⟨by rw [gridIn_false]; intro h; have h1 := h.ok i hlt k (by omega); simp at hc5; simp [hc5] at h1, rfl⟩
      have hc5' := hc5; try simp only [decide_eq_true_eq, decide_eq_false_iff_not, Bool.not_eq_true', Bool.not_eq_false', Bool.not_eq_true, Bool.not_eq_false] at hc5'
      refine WC.skip ?_
      refine WN.normalBlock ?_
      refine WN.next ?_
      refine WC.region ?_
      refine WL.u rfl rfl (Wt.plain rfl) (Ex.add rfl rfl (by omega)) ?_
      refine WL.u rfl rfl (Wt.plain rfl) (Ex.move rfl) ?_
      refine WL.last ?_
      refine WN.round (k + 1) ⟨rfl, rfl, rfl, rfl, rfl, rfl, rfl, trivial⟩ ⟨rfl, by omega, fun q hq => ?_⟩ (by omega)
      rcases Nat.lt_succ_iff_lt_or_eq.1 hq with h | rfl
      · exact hK q h
      · simpa using hc5
    have hc4' := hc4; try simp only [decide_eq_true_eq, decide_eq_false_iff_not, Bool.not_eq_true', Bool.not_eq_false', Bool.not_eq_true, Bool.not_eq_false] at hc4'
    refine WC.exit ?_
    refine WN.exitThen ?_
    refine WN.exitThen ?_
    refine WN.exitHere ?_
    refine WN.normalBlock ?_
    refine WN.next ?_
    refine WC.region ?_
    refine WL.u rfl rfl (Wt.plain rfl) (Ex.add rfl rfl (by omega)) ?_
    refine WL.u rfl rfl (Wt.plain rfl) (Ex.move rfl) ?_
    refine WL.last ?_
    have hkeq : k = (g.getD i []).length := by have := hc4; simp at this; omega
    subst hkeq
    refine WN.round (i + 1) ⟨rfl, rfl, rfl, rfl, trivial⟩ ⟨rfl, by omega, fun j hj => ?_⟩ (by omega)
    rcases Nat.lt_succ_iff_lt_or_eq.1 hj with h | rfl
    · exact hI j h
    · exact ⟨he, hK⟩
  have hc2' := hc2; try simp only [decide_eq_true_eq, decide_eq_false_iff_not, Bool.not_eq_true', Bool.not_eq_false', Bool.not_eq_true, Bool.not_eq_false] at hc2'
  refine WC.exit ?_
  refine WN.exitThen ?_
  refine WN.exitThen ?_
  refine WN.exitHere ?_
  refine WN.next ?_
  refine WC.seq ?_
  have hieq : i = g.length := by have := hc2; simp at this; omega
  subst hieq
  refine WC.region ?_
  refine WL.u rfl rfl (Wt.plain rfl) (Ex.move rfl) ?_
  refine WL.u rfl rfl (Wt.plain rfl) (Ex.indexAddr Try.underlying35 ty9 rfl rfl (by omega)) ?_
  refine WL.u rfl rfl (Wt.plain rfl) (Ex.loadSl flat9 hg rfl rfl (getD_get g 0 [] (by omega))) ?_
  refine WL.u rfl rfl (Wt.plain rfl) (Ex.lenStr Try.underlying9 rfl) ?_
  refine WL.call callable46 rfl (Wt.plain rfl) rfl rfl (iwithin _ _ _ _) ?_
  rintro _ _ ⟨rfl, hw⟩; obtain rfl := hw.symm
  refine WL.u rfl rfl (Wt.plain rfl) (Ex.assign rfl) ?_
  refine WL.next ?_
  refine WC.ret ?_
  refine WN.body1 rfl rfl ?_
  refine ⟨congrArg Value.bool (gridIn_iff ?_), rfl⟩
  rw [decide_eq_true_eq]
  constructor
  · intro h
    exact ⟨by omega, by omega, by omega, by omega, fun j hj => (hI j hj).1, fun j hj k hk => (hI j hj).2 k (by rw [(hI j hj).1]; exact hk)⟩
  · intro h
    have := h.m1
    have := h.m5
    omega

end Go.Proofs.Ytmlkabddhdkpaaa

/- Beams: the first step, the next one, the whole way; ports. -/
namespace Go.Proofs.Ytmlkabddhdkpaaa
set_option maxRecDepth 100000
set_option linter.unusedSimpArgs false
set_option linter.unusedVariables false
open Go Go.RowKit

theorem mulB (x y : Int) (hx : -1000 ≤ x ∧ x ≤ 1000) (hy : -1000 ≤ y ∧ y ≤ 1000) : -1000000 ≤ x * y ∧ x * y ≤ 1000000 := by
  obtain ⟨a, b⟩ := hx
  obtain ⟨c, d⟩ := hy
  have h1 : x.natAbs ≤ 1000 := by omega
  have h2 : y.natAbs ≤ 1000 := by omega
  have h3 : (x * y).natAbs ≤ 1000 * 1000 := by rw [Int.natAbs_mul]; exact Nat.mul_le_mul h1 h2
  omega

theorem sl2Bend (c : UInt8) (d : Nat) (w : World) (hd : d < 4) : Fn Try.prog 43 [.int .u8 c.toNat, vint d] w (fun v w1 => v = vint (bend c d) ∧ w1 = w) := by
  refine Fn.enter (n := 15) Try.func43 rfl rfl rfl ?_
  show WC _ _ _ _ [(0, .int .u8 c.toNat), (1, vint d)] _
  refine WC.seq ?_
  refine WC.region ?_
  refine WL.u rfl rfl (Wt.plain rfl) (Ex.assign rfl) ?_
  refine WL.next ?_
  refine WC.seq ?_
  refine WC.seq ?_
  refine WC.region ?_
  refine WL.u rfl rfl (Wt.plain rfl) (Ex.move rfl) ?_
  refine WL.next ?_
  refine WC.block ?_
  refine WC.seq ?_
  refine WC.region ?_
  refine WL.u rfl rfl (Wt.plain rfl) (Ex.eql rfl rfl) ?_
  refine WL.u rfl rfl (Wt.plain rfl) (Ex.assign rfl) ?_
  refine WL.next ?_
  refine WC.cond rfl (fun hc1 => ?_) (fun hc1 => ?_)
  · have hc1' := hc1; try simp only [decide_eq_true_eq, decide_eq_false_iff_not, Bool.not_eq_true', Bool.not_eq_false', Bool.not_eq_true, Bool.not_eq_false] at hc1'
    have hc : c = 114 := (u8_114 c).1 (by omega)
    refine WC.seq ?_
    refine WC.region ?_
    refine WL.u rfl rfl (Wt.plain rfl) (Ex.move rfl) ?_
    refine WL.u rfl rfl (Wt.plain rfl) (Ex.xor1 hd rfl) ?_
    refine WL.u rfl rfl (Wt.plain rfl) (Ex.assign rfl) ?_
    refine WL.next ?_
    refine WC.ret ?_
    refine WN.retBlock ?_
    refine WN.retThen ?_
    refine WN.body1 rfl rfl ?_
    refine ⟨?_, rfl⟩
    obtain h | h | h | h : d = 0 ∨ d = 1 ∨ d = 2 ∨ d = 3 := by omega
    all_goals (subst h; simp [bend, hc])
  have hc1' := hc1; try simp only [decide_eq_true_eq, decide_eq_false_iff_not, Bool.not_eq_true', Bool.not_eq_false', Bool.not_eq_true, Bool.not_eq_false] at hc1'
  have hc : ¬ c = 114 := fun h => hc1' ((u8_114 c).2 h)
  refine WC.seq ?_
  refine WC.region ?_
  refine WL.u rfl rfl (Wt.plain rfl) (Ex.eql rfl rfl) ?_
  refine WL.u rfl rfl (Wt.plain rfl) (Ex.assign rfl) ?_
  refine WL.next ?_
  refine WC.cond rfl (fun hc2 => ?_) (fun hc2 => ?_)
  · have hc2' := hc2; try simp only [decide_eq_true_eq, decide_eq_false_iff_not, Bool.not_eq_true', Bool.not_eq_false', Bool.not_eq_true, Bool.not_eq_false] at hc2'
    have hc3 : c = 102 := (u8_102 c).1 (by omega)
    refine WC.seq ?_
    refine WC.region ?_
    refine WL.u rfl rfl (Wt.plain rfl) (Ex.move rfl) ?_
    refine WL.u rfl rfl (Wt.plain rfl) (Ex.sub rfl rfl (by omega)) ?_
    refine WL.u rfl rfl (Wt.plain rfl) (Ex.assign rfl) ?_
    refine WL.next ?_
    refine WC.ret ?_
    refine WN.retBlock ?_
    refine WN.retThen ?_
    refine WN.body1 rfl rfl ?_
    refine ⟨?_, rfl⟩
    obtain h | h | h | h : d = 0 ∨ d = 1 ∨ d = 2 ∨ d = 3 := by omega
    all_goals (subst h; simp [bend, hc, hc3])
  have hc2' := hc2; try simp only [decide_eq_true_eq, decide_eq_false_iff_not, Bool.not_eq_true', Bool.not_eq_false', Bool.not_eq_true, Bool.not_eq_false] at hc2'
  have hc3 : ¬ c = 102 := fun h => hc2' ((u8_102 c).2 h)
  refine WC.skip ?_
  refine WN.normalBlock ?_
  refine WN.next ?_
  refine WC.seq ?_
  refine WC.region ?_
  refine WL.u rfl rfl (Wt.plain rfl) (Ex.move rfl) ?_
  refine WL.u rfl rfl (Wt.plain rfl) (Ex.assign rfl) ?_
  refine WL.next ?_
  refine WC.ret ?_
  refine WN.body1 rfl rfl ?_
  refine ⟨?_, rfl⟩
  simp [bend, hc, hc3]

theorem iturned (c : UInt8) (d : Nat) (w : World) (hd : d < 4) : Fn Try.prog 60 [.int .u8 c.toNat, vint d] w (fun v w1 => v = vint (bend c d) ∧ Keep [] w w1) := by
  refine Fn.enter (n := 19) Try.func60 rfl rfl rfl ?_
  show WC _ _ _ _ [(0, .int .u8 c.toNat), (1, vint d)] _
  have hH := Hp.start [] w
  refine WC.seq ?_
  refine WC.region ?_
  refine WL.u rfl rfl (Wt.plain rfl) (Ex.assign rfl) ?_
  refine WL.next ?_
  refine WC.seq ?_
  refine WC.seq ?_
  refine WC.region ?_
  refine WL.u rfl rfl (Wt.plain rfl) (Ex.move rfl) ?_
  refine WL.next ?_
  refine WC.block ?_
  refine WC.seq ?_
  refine WC.region ?_
  refine WL.u rfl rfl (Wt.plain rfl) (Ex.eql rfl rfl) ?_
  refine WL.u rfl rfl (Wt.plain rfl) (Ex.assign rfl) ?_
  refine WL.next ?_
  refine WC.cond rfl (fun hc1 => ?_) (fun hc1 => ?_)
  · have hc1' := hc1; try simp only [decide_eq_true_eq, decide_eq_false_iff_not, Bool.not_eq_true', Bool.not_eq_false', Bool.not_eq_true, Bool.not_eq_false] at hc1'
    have hc : c = 114 := (u8_114 c).1 (by omega)
    refine WC.seq ?_
    refine WC.region ?_
    refine WL.lit Try.underlying22 ty3 rfl rfl rfl rfl rfl rfl rfl (Wt.plain rfl) hH (fun b8 wn hb8 hk8 hH => ?_)
    refine WL.u rfl rfl (Wt.plain rfl) (Ex.move rfl) ?_
    refine WL.u rfl rfl (Wt.plain rfl) (Ex.indexAddr Try.underlying22 ty3 rfl rfl (by omega)) ?_
    have hcs : (#[vint 1, vint 0, vint 3, vint 2] : Array Value)[0 + (d : Int).toNat * 1]? = some (vint (bend c d)) := by
      obtain h | h | h | h : d = 0 ∨ d = 1 ∨ d = 2 ∨ d = 3 := by omega
      all_goals (subst h; simp [bend, hc])
    refine WL.u rfl rfl (Wt.plain rfl) (Ex.loadHp flat3 rfl hH hcs) ?_
    refine WL.u rfl rfl (Wt.plain rfl) (Ex.assign rfl) ?_
    refine WL.next ?_
    refine WC.ret ?_
    refine WN.retBlock ?_
    refine WN.retThen ?_
    refine WN.body1 rfl rfl ?_
    exact ⟨rfl, hH.keep⟩
  have hc1' := hc1; try simp only [decide_eq_true_eq, decide_eq_false_iff_not, Bool.not_eq_true', Bool.not_eq_false', Bool.not_eq_true, Bool.not_eq_false] at hc1'
  have hc : ¬ c = 114 := fun h => hc1' ((u8_114 c).2 h)
  refine WC.seq ?_
  refine WC.region ?_
  refine WL.u rfl rfl (Wt.plain rfl) (Ex.eql rfl rfl) ?_
  refine WL.u rfl rfl (Wt.plain rfl) (Ex.assign rfl) ?_
  refine WL.next ?_
  refine WC.cond rfl (fun hc2 => ?_) (fun hc2 => ?_)
  · have hc2' := hc2; try simp only [decide_eq_true_eq, decide_eq_false_iff_not, Bool.not_eq_true', Bool.not_eq_false', Bool.not_eq_true, Bool.not_eq_false] at hc2'
    have hc3 : c = 102 := (u8_102 c).1 (by omega)
    refine WC.seq ?_
    refine WC.region ?_
    refine WL.lit Try.underlying22 ty3 rfl rfl rfl rfl rfl rfl rfl (Wt.plain rfl) hH (fun b14 wn hb14 hk14 hH => ?_)
    refine WL.u rfl rfl (Wt.plain rfl) (Ex.move rfl) ?_
    refine WL.u rfl rfl (Wt.plain rfl) (Ex.indexAddr Try.underlying22 ty3 rfl rfl (by omega)) ?_
    have hcs : (#[vint 3, vint 2, vint 1, vint 0] : Array Value)[0 + (d : Int).toNat * 1]? = some (vint (bend c d)) := by
      obtain h | h | h | h : d = 0 ∨ d = 1 ∨ d = 2 ∨ d = 3 := by omega
      all_goals (subst h; simp [bend, hc, hc3])
    refine WL.u rfl rfl (Wt.plain rfl) (Ex.loadHp flat3 rfl hH hcs) ?_
    refine WL.u rfl rfl (Wt.plain rfl) (Ex.assign rfl) ?_
    refine WL.next ?_
    refine WC.ret ?_
    refine WN.retBlock ?_
    refine WN.retThen ?_
    refine WN.body1 rfl rfl ?_
    exact ⟨rfl, hH.keep⟩
  have hc2' := hc2; try simp only [decide_eq_true_eq, decide_eq_false_iff_not, Bool.not_eq_true', Bool.not_eq_false', Bool.not_eq_true, Bool.not_eq_false] at hc2'
  have hc3 : ¬ c = 102 := fun h => hc2' ((u8_102 c).2 h)
  refine WC.skip ?_
  refine WN.normalBlock ?_
  refine WN.next ?_
  refine WC.seq ?_
  refine WC.region ?_
  refine WL.u rfl rfl (Wt.plain rfl) (Ex.move rfl) ?_
  refine WL.u rfl rfl (Wt.plain rfl) (Ex.assign rfl) ?_
  refine WL.next ?_
  refine WC.ret ?_
  refine WN.body1 rfl rfl ?_
  exact ⟨by simp [bend, hc, hc3], hH.keep⟩

theorem sl2Ports (n m : Nat) (w : World) (h1 : n ≤ 100) (h2 : m ≤ 100) : Fn Try.prog 28 [vint n, vint m] w (fun v w1 => v = vint (2 * (n + m)) ∧ w1 = w) := by
  refine Fn.enter (n := 9) Try.func28 rfl rfl rfl ?_
  show WC _ _ _ _ [(0, vint n), (1, vint m)] _
  refine WC.seq ?_
  refine WC.region ?_
  refine WL.u rfl rfl (Wt.plain rfl) (Ex.assign rfl) ?_
  refine WL.next ?_
  refine WC.seq ?_
  refine WC.region ?_
  refine WL.u rfl rfl (Wt.plain rfl) (Ex.move rfl) ?_
  refine WL.u rfl rfl (Wt.plain rfl) (Ex.move rfl) ?_
  refine WL.u rfl rfl (Wt.plain rfl) (Ex.add rfl rfl (by omega)) ?_
  refine WL.u rfl rfl (Wt.plain rfl) (Ex.mul rfl rfl (by omega)) ?_
  refine WL.u rfl rfl (Wt.plain rfl) (Ex.assign rfl) ?_
  refine WL.next ?_
  refine WC.ret ?_
  refine WN.body1 rfl rfl ?_
  exact ⟨rfl, rfl⟩

theorem iportMany (g : Grid) (a : Option Addr) (cap : Nat) (w : World) (hg : Sl rStr w a g) (hG : GridOk g) : Fn Try.prog 48 [.slice a g.length cap] w (fun v w1 => v = vint (ports g) ∧ w1 = w) := by
  refine Fn.enter (n := 12) Try.func48 rfl rfl rfl ?_
  show WC _ _ _ _ [(0, .slice a g.length cap)] _
  obtain ⟨h1, h2, h3, h4, h5, h6⟩ := hG
  obtain ⟨b, off, rfl⟩ := hg.addr (by omega)
  refine WC.seq ?_
  refine WC.region ?_
  refine WL.u rfl rfl (Wt.plain rfl) (Ex.assign rfl) ?_
  refine WL.next ?_
  refine WC.seq ?_
  refine WC.region ?_
  refine WL.u rfl rfl (Wt.plain rfl) (Ex.move rfl) ?_
  refine WL.u rfl rfl (Wt.plain rfl) (Ex.lenSl Try.underlying35 rfl) ?_
  refine WL.u rfl rfl (Wt.plain rfl) (Ex.mul rfl rfl (by omega)) ?_
  refine WL.u rfl rfl (Wt.plain rfl) (Ex.move rfl) ?_
  refine WL.u rfl rfl (Wt.plain rfl) (Ex.indexAddr Try.underlying35 ty9 rfl rfl (by omega)) ?_
  refine WL.u rfl rfl (Wt.plain rfl) (Ex.loadSl flat9 hg rfl rfl (getD_get g 0 [] (by omega))) ?_
  refine WL.u rfl rfl (Wt.plain rfl) (Ex.lenStr Try.underlying9 rfl) ?_
  refine WL.u rfl rfl (Wt.plain rfl) (Ex.mul rfl rfl (by omega)) ?_
  refine WL.u rfl rfl (Wt.plain rfl) (Ex.add rfl rfl (by omega)) ?_
  refine WL.u rfl rfl (Wt.plain rfl) (Ex.assign rfl) ?_
  refine WL.next ?_
  refine WC.ret ?_
  refine WN.body1 rfl rfl ?_
  exact ⟨rfl, rfl⟩


theorem enter_cast (n m p : Nat) (hn : 1 ≤ n) (hm : 1 ≤ m) (hp : p < 2 * n + 2 * m) :
    (p < m → enterN n m p = (p, 2)) ∧
    (m ≤ p → p < m + n → ((enterN n m p).1 : Int) = ((p : Int) - m) * m + m - 1 ∧ (enterN n m p).2 = 3) ∧
    (m + n ≤ p → p < 2 * m + n → ((enterN n m p).1 : Int) = ((n : Int) - 1) * m + m - 1 - ((p : Int) - m - n) ∧ (enterN n m p).2 = 0) ∧
    (2 * m + n ≤ p → ((enterN n m p).1 : Int) = ((n : Int) - 1 - ((p : Int) - 2 * m - n)) * m ∧ (enterN n m p).2 = 1) := by
  refine ⟨fun h => by simp [enterN, h], fun h1 h2 => ?_, fun h1 h2 => ?_, fun h1 => ?_⟩
  · have e : enterN n m p = ((p - m) * m + m - 1, 3) := by simp [enterN, Nat.not_lt.2 h1, h2]
    rw [e]
    refine ⟨?_, rfl⟩
    have h3 : (((p - m) * m : Nat) : Int) = ((p : Int) - m) * m := by rw [Int.natCast_mul, Int.natCast_sub h1]
    show (((p - m) * m + m - 1 : Nat) : Int) = _
    omega
  · have e : enterN n m p = ((n - 1) * m + m - 1 - (p - m - n), 0) := by simp [enterN, show ¬ p < m by omega, Nat.not_lt.2 h1, h2]
    rw [e]
    refine ⟨?_, rfl⟩
    have h3 : (((n - 1) * m : Nat) : Int) = ((n : Int) - 1) * m := by rw [Int.natCast_mul, Int.natCast_sub hn]; rfl
    show (((n - 1) * m + m - 1 - (p - m - n) : Nat) : Int) = _
    omega
  · have e : enterN n m p = ((n - 1 - (p - 2 * m - n)) * m, 1) := by simp [enterN, show ¬ p < m by omega, show ¬ p < m + n by omega, Nat.not_lt.2 h1]
    rw [e]
    refine ⟨?_, rfl⟩
    have h3 : (((n - 1 - (p - 2 * m - n)) * m : Nat) : Int) = ((n : Int) - 1 - ((p : Int) - 2 * m - n)) * m := by
      rw [Int.natCast_mul]; congr 1; omega
    exact h3

theorem ienter (g : Grid) (a : Option Addr) (cap p : Nat) (w : World) (hg : Sl rStr w a g) (hG : GridOk g) (hp : p < ports g) : Fn Try.prog 58 [.slice a g.length cap, vint p] w (fun v w1 => v = .agg #[vint (enterN (nR g) (nC g) p).1, vint (enterN (nR g) (nC g) p).2] ∧ Keep [] w w1) := by
  refine Fn.enter (n := 67) Try.func58 rfl rfl rfl ?_
  show WC _ _ _ _ [(0, .slice a g.length cap), (1, vint p)] _
  have hm := hg.1
  have hn1 := hG.n1
  have hn5 := hG.n5
  have hm1 := hG.m1
  have hm5 := hG.m5
  obtain ⟨b, off, rfl⟩ := hg.addr (by omega)
  have hp2 : p < 2 * g.length + 2 * (g.getD 0 []).length := hp
  have hE := enter_cast g.length (g.getD 0 []).length p hn1 hm1 hp2
  have hH := Hp.start [] w
  refine WC.seq ?_
  refine WC.region ?_
  refine WL.alloc ty86 rfl rfl (Wt.plain rfl) hH (fun b4 wn hb4 hk4 hH => ?_)
  refine WL.next ?_
  refine WC.seq ?_
  refine WC.quietK rfl (by kernel_rfl) ?_
  refine WQ.u rfl rfl (Wt.plain rfl) (fun w hC => Ex.move rfl) ?_
  refine WQ.u rfl rfl (Wt.plain rfl) (fun w hC => Ex.lenSl Try.underlying35 rfl) ?_
  refine WQ.u rfl rfl (Wt.plain rfl) (fun w hC => Ex.move rfl) ?_
  refine WQ.u rfl rfl (Wt.plain rfl) (fun w hC => Ex.indexAddr Try.underlying35 ty9 rfl rfl (by omega)) ?_
  refine WQ.u rfl rfl (Wt.plain rfl) (fun w hC => Ex.loadSl flat9 ((hg.kept hH.keep).kept hC) rfl rfl (getD_get g 0 [] (by omega))) ?_
  refine WQ.u rfl rfl (Wt.plain rfl) (fun w hC => Ex.lenStr Try.underlying9 rfl) ?_
  refine WQ.u rfl rfl (Wt.plain rfl) (fun w hC => Ex.assign rfl) ?_
  refine WQ.u rfl rfl (Wt.plain rfl) (fun w hC => Ex.assign rfl) ?_
  refine WQ.nil ?_
  intro wn hC; replace hH := hH.call hC; clear hC
  refine WN.next ?_
  refine WC.seq ?_
  refine WC.block ?_
  refine WC.seq ?_
  refine WC.region ?_
  refine WL.u rfl rfl (Wt.plain rfl) (Ex.move rfl) ?_
  refine WL.u rfl rfl (Wt.plain rfl) (Ex.move rfl) ?_
  refine WL.u rfl rfl (Wt.plain rfl) (Ex.lss rfl rfl) ?_
  refine WL.u rfl rfl (Wt.plain rfl) (Ex.assign rfl) ?_
  refine WL.next ?_
  refine WC.cond rfl (fun hc1 => ?_) (fun hc1 => ?_)
  · have hc1' := hc1; try simp only [decide_eq_true_eq, decide_eq_false_iff_not, Bool.not_eq_true', Bool.not_eq_false', Bool.not_eq_true, Bool.not_eq_false] at hc1'
    refine WC.seq ?_
    refine WC.region ?_
    refine WL.u rfl rfl (Wt.plain rfl) (Ex.move rfl) ?_
    refine WL.u rfl rfl (Wt.plain rfl) (Ex.buildS bd86 rfl rfl rfl rfl rfl) ?_
    refine WL.store2 ty86 rfl rfl rfl rfl (Wt.plain rfl) hH (fun wn hk hH => ?_)
    refine WL.next ?_
    refine WC.ret ?_
    refine WN.retBlock ?_
    refine WN.retThen ?_
    refine WN.cell1 rfl rfl Try.underlying86 ty86 hH ?_
    exact ⟨by rw [hE.1 (by omega)]; rfl, hH.keep⟩
  have hc1' := hc1; try simp only [decide_eq_true_eq, decide_eq_false_iff_not, Bool.not_eq_true', Bool.not_eq_false', Bool.not_eq_true, Bool.not_eq_false] at hc1'
  refine WC.seq ?_
  refine WC.region ?_
  refine WL.u rfl rfl (Wt.plain rfl) (Ex.move rfl) ?_
  refine WL.u rfl rfl (Wt.plain rfl) (Ex.move rfl) ?_
  refine WL.u rfl rfl (Wt.plain rfl) (Ex.move rfl) ?_
  refine WL.u rfl rfl (Wt.plain rfl) (Ex.add rfl rfl (by omega)) ?_
  refine WL.u rfl rfl (Wt.plain rfl) (Ex.lss rfl rfl) ?_
  refine WL.u rfl rfl (Wt.plain rfl) (Ex.assign rfl) ?_
  refine WL.next ?_
  refine WC.cond rfl (fun hc2 => ?_) (fun hc2 => ?_)
  · have hc2' := hc2; try simp only [decide_eq_true_eq, decide_eq_false_iff_not, Bool.not_eq_true', Bool.not_eq_false', Bool.not_eq_true, Bool.not_eq_false] at hc2'
    refine WC.seq ?_
    refine WC.region ?_
    refine WL.u rfl rfl (Wt.plain rfl) (Ex.move rfl) ?_
    refine WL.u rfl rfl (Wt.plain rfl) (Ex.move rfl) ?_
    refine WL.u rfl rfl (Wt.plain rfl) (Ex.sub rfl rfl (by omega)) ?_
    refine WL.u rfl rfl (Wt.plain rfl) (Ex.move rfl) ?_
    have hb := mulB ((p : Int) - ((g.getD 0 []).length : Int)) ((g.getD 0 []).length : Int) (by omega) (by omega)
    refine WL.u rfl rfl (Wt.plain rfl) (Ex.mul rfl rfl (by omega)) ?_
    refine WL.u rfl rfl (Wt.plain rfl) (Ex.move rfl) ?_
    refine WL.u rfl rfl (Wt.plain rfl) (Ex.add rfl rfl (by omega)) ?_
    refine WL.u rfl rfl (Wt.plain rfl) (Ex.sub rfl rfl (by omega)) ?_
    refine WL.u rfl rfl (Wt.plain rfl) (Ex.buildS bd86 rfl rfl rfl rfl rfl) ?_
    refine WL.store2 ty86 rfl rfl rfl rfl (Wt.plain rfl) hH (fun wn hk hH => ?_)
    refine WL.next ?_
    refine WC.ret ?_
    refine WN.retBlock ?_
    refine WN.retThen ?_
    refine WN.cell1 rfl rfl Try.underlying86 ty86 hH ?_
    have hx := hE.2.1 (by omega) (by omega)
    exact ⟨by rw [hx.1, hx.2]; rfl, hH.keep⟩
  have hc2' := hc2; try simp only [decide_eq_true_eq, decide_eq_false_iff_not, Bool.not_eq_true', Bool.not_eq_false', Bool.not_eq_true, Bool.not_eq_false] at hc2'
  refine WC.seq ?_
  refine WC.region ?_
  refine WL.u rfl rfl (Wt.plain rfl) (Ex.move rfl) ?_
  refine WL.u rfl rfl (Wt.plain rfl) (Ex.move rfl) ?_
  refine WL.u rfl rfl (Wt.plain rfl) (Ex.mul rfl rfl (by omega)) ?_
  refine WL.u rfl rfl (Wt.plain rfl) (Ex.move rfl) ?_
  refine WL.u rfl rfl (Wt.plain rfl) (Ex.add rfl rfl (by omega)) ?_
  refine WL.u rfl rfl (Wt.plain rfl) (Ex.lss rfl rfl) ?_
  refine WL.u rfl rfl (Wt.plain rfl) (Ex.assign rfl) ?_
  refine WL.next ?_
  refine WC.cond rfl (fun hc3 => ?_) (fun hc3 => ?_)
  · have hc3' := hc3; try simp only [decide_eq_true_eq, decide_eq_false_iff_not, Bool.not_eq_true', Bool.not_eq_false', Bool.not_eq_true, Bool.not_eq_false] at hc3'
    refine WC.seq ?_
    refine WC.region ?_
    refine WL.u rfl rfl (Wt.plain rfl) (Ex.move rfl) ?_
    refine WL.u rfl rfl (Wt.plain rfl) (Ex.sub rfl rfl (by omega)) ?_
    refine WL.u rfl rfl (Wt.plain rfl) (Ex.move rfl) ?_
    have hb := mulB ((g.length : Int) - 1) ((g.getD 0 []).length : Int) (by omega) (by omega)
    refine WL.u rfl rfl (Wt.plain rfl) (Ex.mul rfl rfl (by omega)) ?_
    refine WL.u rfl rfl (Wt.plain rfl) (Ex.move rfl) ?_
    refine WL.u rfl rfl (Wt.plain rfl) (Ex.add rfl rfl (by omega)) ?_
    refine WL.u rfl rfl (Wt.plain rfl) (Ex.sub rfl rfl (by omega)) ?_
    refine WL.u rfl rfl (Wt.plain rfl) (Ex.move rfl) ?_
    refine WL.u rfl rfl (Wt.plain rfl) (Ex.move rfl) ?_
    refine WL.u rfl rfl (Wt.plain rfl) (Ex.sub rfl rfl (by omega)) ?_
    refine WL.u rfl rfl (Wt.plain rfl) (Ex.move rfl) ?_
    refine WL.u rfl rfl (Wt.plain rfl) (Ex.sub rfl rfl (by omega)) ?_
    refine WL.u rfl rfl (Wt.plain rfl) (Ex.sub rfl rfl (by omega)) ?_
    refine WL.u rfl rfl (Wt.plain rfl) (Ex.buildS bd86 rfl rfl rfl rfl rfl) ?_
    refine WL.store2 ty86 rfl rfl rfl rfl (Wt.plain rfl) hH (fun wn hk hH => ?_)
    refine WL.next ?_
    refine WC.ret ?_
    refine WN.retBlock ?_
    refine WN.retThen ?_
    refine WN.cell1 rfl rfl Try.underlying86 ty86 hH ?_
    have hx := hE.2.2.1 (by omega) (by omega)
    exact ⟨by rw [hx.1, hx.2]; rfl, hH.keep⟩
  have hc3' := hc3; try simp only [decide_eq_true_eq, decide_eq_false_iff_not, Bool.not_eq_true', Bool.not_eq_false', Bool.not_eq_true, Bool.not_eq_false] at hc3'
  refine WC.skip ?_
  refine WN.normalBlock ?_
  refine WN.next ?_
  refine WC.seq ?_
  refine WC.region ?_
  refine WL.u rfl rfl (Wt.plain rfl) (Ex.move rfl) ?_
  refine WL.u rfl rfl (Wt.plain rfl) (Ex.sub rfl rfl (by omega)) ?_
  refine WL.u rfl rfl (Wt.plain rfl) (Ex.move rfl) ?_
  refine WL.u rfl rfl (Wt.plain rfl) (Ex.move rfl) ?_
  refine WL.u rfl rfl (Wt.plain rfl) (Ex.mul rfl rfl (by omega)) ?_
  refine WL.u rfl rfl (Wt.plain rfl) (Ex.sub rfl rfl (by omega)) ?_
  refine WL.u rfl rfl (Wt.plain rfl) (Ex.move rfl) ?_
  refine WL.u rfl rfl (Wt.plain rfl) (Ex.sub rfl rfl (by omega)) ?_
  refine WL.u rfl rfl (Wt.plain rfl) (Ex.sub rfl rfl (by omega)) ?_
  refine WL.u rfl rfl (Wt.plain rfl) (Ex.move rfl) ?_
  have hb := mulB ((g.length : Int) - 1 - ((p : Int) - 2 * ((g.getD 0 []).length : Int) - (g.length : Int))) ((g.getD 0 []).length : Int) (by omega) (by omega)
  refine WL.u rfl rfl (Wt.plain rfl) (Ex.mul rfl rfl (by omega)) ?_
  refine WL.u rfl rfl (Wt.plain rfl) (Ex.buildS bd86 rfl rfl rfl rfl rfl) ?_
  refine WL.store2 ty86 rfl rfl rfl rfl (Wt.plain rfl) hH (fun wn hk hH => ?_)
  refine WL.next ?_
  refine WC.ret ?_
  refine WN.cell1 rfl rfl Try.underlying86 ty86 hH ?_
  have hx := hE.2.2.2 (by omega)
  exact ⟨by rw [hx.1, hx.2]; rfl, hH.keep⟩


/-- what the program's 'after' hands back: the next step (the same one at an end), and the port or -1 -/
def nx (g : Grid) (s : Nat × Nat) : Nat × Nat := match afterN g s with
  | .inl _ => s
  | .inr s' => s'
def ex (g : Grid) (s : Nat × Nat) : Int := match afterN g s with
  | .inl p => p
  | .inr _ => -1
abbrev aftV (g : Grid) (s : Nat × Nat) : Value := .tuple #[.agg #[vint (nx g s).1, vint (nx g s).2], vint (ex g s)]
theorem tupEq {a a' b b' c c' : Int} (h1 : a = a') (h2 : b = b') (h3 : c = c') : Value.tuple #[.agg #[vint a, vint b], vint c] = Value.tuple #[.agg #[vint a', vint b'], vint c'] := by rw [h1, h2, h3]

theorem goN_0o (n m cell : Nat) (h : cell / m = 0) : goN n m cell 0 = .inl (cell % m) := by simp [goN, h]
theorem goN_0i (n m cell : Nat) (h : cell / m ≠ 0) : goN n m cell 0 = .inr (cell - m, 0) := by simp only [goN, if_true, if_neg h]
theorem goN_1o (n m cell : Nat) (h : cell % m + 1 = m) : goN n m cell 1 = .inl (m + cell / m) := by simp [goN, h]
theorem goN_1i (n m cell : Nat) (h : cell % m + 1 ≠ m) : goN n m cell 1 = .inr (cell + 1, 1) := by simp [goN, h]
theorem goN_2o (n m cell : Nat) (h : cell / m + 1 = n) : goN n m cell 2 = .inl (2 * m + n - 1 - cell % m) := by simp [goN, h]
theorem goN_2i (n m cell : Nat) (h : cell / m + 1 ≠ n) : goN n m cell 2 = .inr (cell + m, 2) := by simp [goN, h]
theorem goN_3o (n m cell : Nat) (h : cell % m = 0) : goN n m cell 3 = .inl (2 * m + 2 * n - 1 - cell / m) := by simp [goN, h]
theorem goN_3i (n m cell : Nat) (h : cell % m ≠ 0) : goN n m cell 3 = .inr (cell - 1, 3) := by simp [goN, h]
theorem aftV_o {g : Grid} {cell d b p : Nat} (hb : bend (letter g cell) d = b) (h : goN (nR g) (nC g) cell b = .inl p) : aftV g (cell, d) = .tuple #[.agg #[vint cell, vint d], vint p] := by
  simp only [aftV, nx, ex, afterN, hb, h]
theorem aftV_i {g : Grid} {cell d b : Nat} {s' : Nat × Nat} (hb : bend (letter g cell) d = b) (h : goN (nR g) (nC g) cell b = .inr s') : aftV g (cell, d) = .tuple #[.agg #[vint s'.1, vint s'.2], vint (-1)] := by
  simp only [aftV, nx, ex, afterN, hb, h]

set_option maxHeartbeats 400000 in
theorem iafter (g : Grid) (a : Option Addr) (cap cell d : Nat) (w : World) (hg : Sl rStr w a g) (hG : GridOk g) (hcell : cell < nR g * nC g) (hd : d < 4) : Fn Try.prog 59 [.slice a g.length cap, .agg #[vint cell, vint d]] w (fun v w1 => v = .tuple #[.agg #[vint (nx g (cell, d)).1, vint (nx g (cell, d)).2], vint (ex g (cell, d))] ∧ Keep [] w w1) := by
  refine Fn.enter (n := 103) Try.func59 rfl rfl rfl ?_
  show WC _ _ _ _ [(0, .slice a g.length cap), (1, .agg #[vint cell, vint d])] _
  have hm := hg.1
  have hn1 := hG.n1
  have hn5 := hG.n5
  have hm1 := hG.m1
  have hm5 := hG.m5
  obtain ⟨b, off, rfl⟩ := hg.addr (by omega)
  have hH := Hp.start [] w
  have hc25 : cell < 25 := Nat.lt_of_lt_of_le hcell (Nat.mul_le_mul hn5 hm5)
  have hdm : (cell : Int) / ((g.getD 0 []).length : Int) = ((cell / (g.getD 0 []).length : Nat) : Int) := rfl
  have hmm : (cell : Int) % ((g.getD 0 []).length : Int) = ((cell % (g.getD 0 []).length : Nat) : Int) := rfl
  have hrl : cell / (g.getD 0 []).length < g.length := Nat.div_lt_of_lt_mul (by rw [Nat.mul_comm]; exact hcell)
  have hcl : cell % (g.getD 0 []).length < (g.getD 0 []).length := Nat.mod_lt _ hm1
  have hrow := hG.row _ hrl
  have hdi : 0 ≤ (cell : Int) / ((g.getD 0 []).length : Int) ∧ (cell : Int) / ((g.getD 0 []).length : Int) < (g.length : Int) := ⟨Int.ediv_nonneg (by omega) (by omega), by rw [hdm]; exact Int.ofNat_lt.2 hrl⟩
  have hmi : 0 ≤ (cell : Int) % ((g.getD 0 []).length : Int) ∧ (cell : Int) % ((g.getD 0 []).length : Int) < ((g.getD 0 []).length : Int) := ⟨Int.emod_nonneg _ (by omega), by rw [hmm]; exact Int.ofNat_lt.2 hcl⟩
  have hb4 := bend_lt (letter g cell) d hd
  refine WC.seq ?_
  refine WC.region ?_
  refine WL.box rfl rfl rfl (Wt.plain rfl) hH (fun b3 wn hb3 hk3 hH => ?_)
  refine WL.alloc ty86 rfl rfl (Wt.plain rfl) hH (fun b4 wn hb4 hk4 hH => ?_)
  refine WL.u rfl rfl (Wt.plain rfl) (Ex.assign rfl) ?_
  refine WL.next ?_
  refine WC.seq ?_
  refine WC.quietK rfl (by kernel_rfl) ?_
  refine WQ.u rfl rfl (Wt.plain rfl) (fun w hC => Ex.move rfl) ?_
  refine WQ.u rfl rfl (Wt.plain rfl) (fun w hC => Ex.lenSl Try.underlying35 rfl) ?_
  refine WQ.u rfl rfl (Wt.plain rfl) (fun w hC => Ex.move rfl) ?_
  refine WQ.u rfl rfl (Wt.plain rfl) (fun w hC => Ex.indexAddr Try.underlying35 ty9 rfl rfl (by omega)) ?_
  refine WQ.u rfl rfl (Wt.plain rfl) (fun w hC => Ex.loadSl flat9 ((hg.kept hH.keep).kept hC) rfl rfl (getD_get g 0 [] (by omega))) ?_
  refine WQ.u rfl rfl (Wt.plain rfl) (fun w hC => Ex.lenStr Try.underlying9 rfl) ?_
  refine WQ.u rfl rfl (Wt.plain rfl) (fun w hC => Ex.assign rfl) ?_
  refine WQ.u rfl rfl (Wt.plain rfl) (fun w hC => Ex.assign rfl) ?_
  refine WQ.nil ?_
  intro wn hC; replace hH := hH.call hC; clear hC
  refine WN.next ?_
  refine WC.seq ?_
  refine WC.quietK rfl (by kernel_rfl) ?_
  refine WQ.u rfl rfl (Wt.plain rfl) (fun w hC => Ex.fieldAddr fd86_0 rfl) ?_
  replace hH := hH.f1
  refine WQ.u rfl rfl (Wt.plain rfl) (fun w hC => Ex.loadHp flat3 rfl (hH.call hC) rfl) ?_
  refine WQ.u rfl rfl (Wt.plain rfl) (fun w hC => Ex.move rfl) ?_
  refine WQ.u rfl rfl (Wt.plain rfl) (fun w hC => Ex.quo rfl rfl (by omega) (by omega)) ?_
  refine WQ.u rfl rfl (Wt.plain rfl) (fun w hC => Ex.fieldAddr fd86_0 rfl) ?_
  refine WQ.u rfl rfl (Wt.plain rfl) (fun w hC => Ex.loadHp flat3 rfl (hH.call hC) rfl) ?_
  refine WQ.u rfl rfl (Wt.plain rfl) (fun w hC => Ex.move rfl) ?_
  refine WQ.u rfl rfl (Wt.plain rfl) (fun w hC => Ex.rem rfl rfl (by omega) (by omega)) ?_
  refine WQ.u rfl rfl (Wt.plain rfl) (fun w hC => Ex.assign rfl) ?_
  refine WQ.u rfl rfl (Wt.plain rfl) (fun w hC => Ex.assign rfl) ?_
  refine WQ.nil ?_
  intro wn hC; replace hH := hH.call hC; clear hC
  refine WN.next ?_
  refine WC.seq ?_
  refine WC.quietK rfl (by kernel_rfl) ?_
  refine WQ.u rfl rfl (Wt.plain rfl) (fun w hC => Ex.move rfl) ?_
  refine WQ.u rfl rfl (Wt.plain rfl) (fun w hC => Ex.move rfl) ?_
  refine WQ.u rfl rfl (Wt.plain rfl) (fun w hC => Ex.indexAddr Try.underlying35 ty9 rfl rfl (by omega)) ?_
  refine WQ.u rfl rfl (Wt.plain rfl) (fun w hC => Ex.loadSl flat9 ((hg.kept hH.keep).kept hC) rfl rfl (getD_get g (cell / (g.getD 0 []).length) [] hrl)) ?_
  refine WQ.u rfl rfl (Wt.plain rfl) (fun w hC => Ex.move rfl) ?_
  refine WQ.u rfl rfl (Wt.plain rfl) (fun w hC => Ex.indexStr Try.underlying9 rfl rfl (by (try simp only [List.length_cons, List.length_nil]); omega)) ?_
  refine WQ.u rfl rfl (Wt.plain rfl) (fun w hC => Ex.fieldAddr fd86_1 rfl) ?_
  refine WQ.u rfl rfl (Wt.plain rfl) (fun w hC => Ex.loadHp flat3 rfl (hH.call hC) rfl) ?_
  refine WQ.call callable60 rfl (Wt.plain rfl) rfl rfl (fun w hC => Fn.k hC (iturned (letter g cell) d _ hd)) ?_
  refine WQ.u rfl rfl (Wt.plain rfl) (fun w hC => Ex.assign rfl) ?_
  refine WQ.nil ?_
  intro wn hC; replace hH := hH.call hC; clear hC
  refine WN.next ?_
  refine WC.seq ?_
  refine WC.block ?_
  refine WC.seq ?_
  refine WC.region ?_
  refine WL.u rfl rfl (Wt.plain rfl) (Ex.move rfl) ?_
  refine WL.u rfl rfl (Wt.plain rfl) (Ex.eql rfl rfl) ?_
  refine WL.u rfl rfl (Wt.plain rfl) (Ex.move rfl) ?_
  refine WL.split (t := 37) rfl (fun hg4_2 => ?_) (fun hg4_2 => ?_)
  · have hg4_2' := hg4_2; try simp only [decide_eq_true_eq, decide_eq_false_iff_not, Bool.not_eq_true', Bool.not_eq_false', Bool.not_eq_true, Bool.not_eq_false] at hg4_2'
    have hb : bend (letter g cell) d = 0 := by omega
    refine WL.u rfl rfl (Wt.guard' rfl rfl rfl hg4_2 rfl) (Ex.move rfl) ?_
    refine WL.u rfl rfl (Wt.guard' rfl rfl rfl hg4_2 rfl) (Ex.eql rfl rfl) ?_
    refine WL.u rfl rfl (Wt.plain rfl) (Ex.pickT rfl hg4_2 rfl) ?_
    refine WL.u rfl rfl (Wt.plain rfl) (Ex.assign rfl) ?_
    refine WL.next ?_
    refine WC.cond rfl (fun hc1 => ?_) (fun hc1 => ?_)
    · have hc1' := hc1; try simp only [decide_eq_true_eq, decide_eq_false_iff_not, Bool.not_eq_true', Bool.not_eq_false', Bool.not_eq_true, Bool.not_eq_false] at hc1'
      refine WC.seq ?_
      refine WC.region ?_
      refine WL.u rfl rfl (Wt.plain rfl) (Ex.loadHp2 Try.underlying86 ty86 rfl hH) ?_
      refine WL.u rfl rfl (Wt.plain rfl) (Ex.move rfl) ?_
      replace hH := hH.f1
      refine WL.store2 ty86 rfl rfl rfl rfl (Wt.plain rfl) hH (fun wn hk hH => ?_)
      refine WL.u rfl rfl (Wt.plain rfl) (Ex.assign rfl) ?_
      refine WL.next ?_
      refine WC.ret ?_
      refine WN.retBlock ?_
      refine WN.retThen ?_
      refine WN.cell2 rfl rfl rfl Try.underlying86 ty86 hH ?_
      have hq : cell / (g.getD 0 []).length = 0 := by omega
      exact ⟨(aftV_o hb (goN_0o _ _ _ hq)).symm, hH.keep⟩
    have hc1' := hc1; try simp only [decide_eq_true_eq, decide_eq_false_iff_not, Bool.not_eq_true', Bool.not_eq_false', Bool.not_eq_true, Bool.not_eq_false] at hc1'
    refine WC.seq ?_
    refine WC.region ?_
    refine WL.u rfl rfl (Wt.plain rfl) (Ex.move rfl) ?_
    refine WL.u rfl rfl (Wt.plain rfl) (Ex.eql rfl rfl) ?_
    refine WL.u rfl rfl (Wt.plain rfl) (Ex.move rfl) ?_
    refine WL.pass rfl rfl (Wt.guard' rfl rfl rfl (decide_eq_false (by omega)) rfl) ?_
    refine WL.pass rfl rfl (Wt.guard' rfl rfl rfl (decide_eq_false (by omega)) rfl) ?_
    refine WL.pass rfl rfl (Wt.guard' rfl rfl rfl (decide_eq_false (by omega)) rfl) ?_
    refine WL.pass rfl rfl (Wt.guard' rfl rfl rfl (decide_eq_false (by omega)) rfl) ?_
    refine WL.u rfl rfl (Wt.plain rfl) (Ex.pickF rfl (decide_eq_false (by omega)) rfl) ?_
    refine WL.u rfl rfl (Wt.plain rfl) (Ex.assign rfl) ?_
    refine WL.next ?_
    refine WC.condF rfl rfl ?_
    refine WC.seq ?_
    refine WC.region ?_
    refine WL.u rfl rfl (Wt.plain rfl) (Ex.move rfl) ?_
    refine WL.u rfl rfl (Wt.plain rfl) (Ex.eql rfl rfl) ?_
    refine WL.u rfl rfl (Wt.plain rfl) (Ex.move rfl) ?_
    refine WL.pass rfl rfl (Wt.guard' rfl rfl rfl (decide_eq_false (by omega)) rfl) ?_
    refine WL.pass rfl rfl (Wt.guard' rfl rfl rfl (decide_eq_false (by omega)) rfl) ?_
    refine WL.pass rfl rfl (Wt.guard' rfl rfl rfl (decide_eq_false (by omega)) rfl) ?_
    refine WL.pass rfl rfl (Wt.guard' rfl rfl rfl (decide_eq_false (by omega)) rfl) ?_
    refine WL.u rfl rfl (Wt.plain rfl) (Ex.pickF rfl (decide_eq_false (by omega)) rfl) ?_
    refine WL.u rfl rfl (Wt.plain rfl) (Ex.assign rfl) ?_
    refine WL.next ?_
    refine WC.condF rfl rfl ?_
    refine WC.seq ?_
    refine WC.region ?_
    refine WL.u rfl rfl (Wt.plain rfl) (Ex.move rfl) ?_
    refine WL.u rfl rfl (Wt.plain rfl) (Ex.eql rfl rfl) ?_
    refine WL.u rfl rfl (Wt.plain rfl) (Ex.move rfl) ?_
    refine WL.pass rfl rfl (Wt.guard' rfl rfl rfl (decide_eq_false (by omega)) rfl) ?_
    refine WL.pass rfl rfl (Wt.guard' rfl rfl rfl (decide_eq_false (by omega)) rfl) ?_
    refine WL.u rfl rfl (Wt.plain rfl) (Ex.pickF rfl (decide_eq_false (by omega)) rfl) ?_
    refine WL.u rfl rfl (Wt.plain rfl) (Ex.assign rfl) ?_
    refine WL.next ?_
    refine WC.condF rfl rfl ?_
    refine WC.skip ?_
    refine WN.normalBlock ?_
    refine WN.next ?_
    refine WC.seq ?_
    have hQ := hH
    refine WC.plan (Keep [b4] _) [(0, true), (1, true), (2, true), (3, true), (4, true), (6, true), (10, true), (5, false), (7, true), (8, false), (9, true), (11, true), (12, false), (13, true)] rfl (by kernel_rfl) (Keep.drew _ _) (fun hR => ?_)
    replace hH := hH.drew
    refine WPl.q rfl rfl rfl (Wt.plain rfl) (fun w hC => Ex.fieldAddr fd86_0 rfl) ?_
    refine WPl.q rfl rfl rfl (Wt.plain rfl) (fun w hC => Ex.loadK flat3 rfl (hQ.at 0 rfl) hC (hQ.nin 0 1 rfl rfl rfl) rfl) ?_
    refine WPl.q rfl rfl rfl (Wt.plain rfl) (fun w hC => Ex.move rfl) ?_
    refine WPl.q rfl rfl rfl (Wt.plain rfl) (fun w hC => Ex.neg rfl (by omega)) ?_
    refine WPl.q rfl rfl rfl (Wt.plain rfl) (fun w hC => Ex.move rfl) ?_
    refine WPl.q rfl rfl rfl (Wt.plain rfl) (fun w hC => Ex.move rfl) ?_
    refine WPl.q rfl rfl rfl (Wt.plain rfl) (fun w hC => Ex.move rfl) ?_
    refine WPl.f rfl ?_
    have hsR96 := hR.size
    refine WL.lit Try.underlying22 ty3 rfl rfl rfl rfl rfl rfl rfl (Wt.plain rfl) hH (fun b96 wn hb96 hk96 hH => ?_)
    replace hR := hR.trans (hk96.nil)
    refine WPl.b hR ?_
    refine WPl.q rfl rfl rfl (Wt.plain rfl) (fun w hC => Ex.indexAddr Try.underlying22 ty3 rfl rfl (by omega)) ?_
    refine WPl.f rfl ?_
    have hcs : (#[vint (-((g.getD 0 []).length : Int)), vint 1, vint ((g.getD 0 []).length : Int), vint (-1)] : Array Value)[0 + ((bend (letter g cell) d : Nat) : Int).toNat * 1]? = some (vint (-((g.getD 0 []).length : Int))) := by
      rw [Int.toNat_natCast, hb]; rfl
    refine WL.u rfl rfl (Wt.plain rfl) (Ex.loadHp flat3 rfl hH hcs) ?_
    refine WPl.b hR ?_
    refine WPl.q rfl rfl rfl (Wt.plain rfl) (fun w hC => Ex.add rfl rfl (by omega)) ?_
    refine WPl.q rfl rfl rfl (Wt.plain rfl) (fun w hC => Ex.buildS bd86 rfl rfl rfl rfl rfl) ?_
    refine WPl.f rfl ?_
    replace hH := hH.f2
    refine WL.store2 ty86 rfl rfl rfl rfl (Wt.plain rfl) hH (fun wn hk hH => ?_)
    replace hR := hR.trans (hk.mono (by simp))
    refine WPl.b hR ?_
    refine WPl.q rfl rfl rfl (Wt.plain rfl) (fun w hC => Ex.assign rfl) ?_
    refine WPl.nil (fun hC => ?_); clear hC
    refine WN.next ?_
    refine WC.ret ?_
    refine WN.cell2 rfl rfl rfl Try.underlying86 ty86 hH ?_
    have hq : cell / (g.getD 0 []).length ≠ 0 := by omega
    have hge : (g.getD 0 []).length ≤ cell := by apply Nat.le_of_not_lt; intro h; exact hq (Nat.div_eq_of_lt h)
    refine ⟨?_, hH.keep⟩
    exact (tupEq (by dsimp only [nR, nC]; omega) (by rw [hb]) rfl).trans (aftV_i hb (goN_0i _ _ _ hq)).symm
  have hg4_2' := hg4_2; try simp only [decide_eq_true_eq, decide_eq_false_iff_not, Bool.not_eq_true', Bool.not_eq_false', Bool.not_eq_true, Bool.not_eq_false] at hg4_2'
  refine WL.pass rfl rfl (Wt.guard' rfl rfl rfl hg4_2 rfl) ?_
  refine WL.pass rfl rfl (Wt.guard' rfl rfl rfl hg4_2 rfl) ?_
  refine WL.u rfl rfl (Wt.plain rfl) (Ex.pickF rfl hg4_2 rfl) ?_
  refine WL.u rfl rfl (Wt.plain rfl) (Ex.assign rfl) ?_
  refine WL.next ?_
  refine WC.condF rfl rfl ?_
  refine WC.seq ?_
  refine WC.region ?_
  refine WL.u rfl rfl (Wt.plain rfl) (Ex.move rfl) ?_
  refine WL.u rfl rfl (Wt.plain rfl) (Ex.eql rfl rfl) ?_
  refine WL.u rfl rfl (Wt.plain rfl) (Ex.move rfl) ?_
  refine WL.split (t := 46) rfl (fun hg6_2 => ?_) (fun hg6_2 => ?_)
  · have hg6_2' := hg6_2; try simp only [decide_eq_true_eq, decide_eq_false_iff_not, Bool.not_eq_true', Bool.not_eq_false', Bool.not_eq_true, Bool.not_eq_false] at hg6_2'
    have hb : bend (letter g cell) d = 1 := by omega
    refine WL.u rfl rfl (Wt.guard' rfl rfl rfl hg6_2 rfl) (Ex.move rfl) ?_
    refine WL.u rfl rfl (Wt.guard' rfl rfl rfl hg6_2 rfl) (Ex.move rfl) ?_
    refine WL.u rfl rfl (Wt.guard' rfl rfl rfl hg6_2 rfl) (Ex.sub rfl rfl (by omega)) ?_
    refine WL.u rfl rfl (Wt.guard' rfl rfl rfl hg6_2 rfl) (Ex.eql rfl rfl) ?_
    refine WL.u rfl rfl (Wt.plain rfl) (Ex.pickT rfl hg6_2 rfl) ?_
    refine WL.u rfl rfl (Wt.plain rfl) (Ex.assign rfl) ?_
    refine WL.next ?_
    refine WC.cond rfl (fun hc2 => ?_) (fun hc2 => ?_)
    · have hc2' := hc2; try simp only [decide_eq_true_eq, decide_eq_false_iff_not, Bool.not_eq_true', Bool.not_eq_false', Bool.not_eq_true, Bool.not_eq_false] at hc2'
      refine WC.seq ?_
      refine WC.region ?_
      refine WL.u rfl rfl (Wt.plain rfl) (Ex.loadHp2 Try.underlying86 ty86 rfl hH) ?_
      refine WL.u rfl rfl (Wt.plain rfl) (Ex.move rfl) ?_
      refine WL.u rfl rfl (Wt.plain rfl) (Ex.move rfl) ?_
      refine WL.u rfl rfl (Wt.plain rfl) (Ex.add rfl rfl (by omega)) ?_
      replace hH := hH.f1
      refine WL.store2 ty86 rfl rfl rfl rfl (Wt.plain rfl) hH (fun wn hk hH => ?_)
      refine WL.u rfl rfl (Wt.plain rfl) (Ex.assign rfl) ?_
      refine WL.next ?_
      refine WC.ret ?_
      refine WN.retBlock ?_
      refine WN.retThen ?_
      refine WN.cell2 rfl rfl rfl Try.underlying86 ty86 hH ?_
      have hq : cell % (g.getD 0 []).length + 1 = (g.getD 0 []).length := by omega
      exact ⟨(aftV_o hb (goN_1o _ _ _ hq)).symm, hH.keep⟩
    have hc2' := hc2; try simp only [decide_eq_true_eq, decide_eq_false_iff_not, Bool.not_eq_true', Bool.not_eq_false', Bool.not_eq_true, Bool.not_eq_false] at hc2'
    refine WC.seq ?_
    refine WC.region ?_
    refine WL.u rfl rfl (Wt.plain rfl) (Ex.move rfl) ?_
    refine WL.u rfl rfl (Wt.plain rfl) (Ex.eql rfl rfl) ?_
    refine WL.u rfl rfl (Wt.plain rfl) (Ex.move rfl) ?_
    refine WL.pass rfl rfl (Wt.guard' rfl rfl rfl (decide_eq_false (by omega)) rfl) ?_
    refine WL.pass rfl rfl (Wt.guard' rfl rfl rfl (decide_eq_false (by omega)) rfl) ?_
    refine WL.pass rfl rfl (Wt.guard' rfl rfl rfl (decide_eq_false (by omega)) rfl) ?_
    refine WL.pass rfl rfl (Wt.guard' rfl rfl rfl (decide_eq_false (by omega)) rfl) ?_
    refine WL.u rfl rfl (Wt.plain rfl) (Ex.pickF rfl (decide_eq_false (by omega)) rfl) ?_
    refine WL.u rfl rfl (Wt.plain rfl) (Ex.assign rfl) ?_
    refine WL.next ?_
    refine WC.condF rfl rfl ?_
    refine WC.seq ?_
    refine WC.region ?_
    refine WL.u rfl rfl (Wt.plain rfl) (Ex.move rfl) ?_
    refine WL.u rfl rfl (Wt.plain rfl) (Ex.eql rfl rfl) ?_
    refine WL.u rfl rfl (Wt.plain rfl) (Ex.move rfl) ?_
    refine WL.pass rfl rfl (Wt.guard' rfl rfl rfl (decide_eq_false (by omega)) rfl) ?_
    refine WL.pass rfl rfl (Wt.guard' rfl rfl rfl (decide_eq_false (by omega)) rfl) ?_
    refine WL.u rfl rfl (Wt.plain rfl) (Ex.pickF rfl (decide_eq_false (by omega)) rfl) ?_
    refine WL.u rfl rfl (Wt.plain rfl) (Ex.assign rfl) ?_
    refine WL.next ?_
    refine WC.condF rfl rfl ?_
    refine WC.skip ?_
    refine WN.normalBlock ?_
    refine WN.next ?_
    refine WC.seq ?_
    have hQ := hH
    refine WC.plan (Keep [b4] _) [(0, true), (1, true), (2, true), (3, true), (4, true), (6, true), (10, true), (5, false), (7, true), (8, false), (9, true), (11, true), (12, false), (13, true)] rfl (by kernel_rfl) (Keep.drew _ _) (fun hR => ?_)
    replace hH := hH.drew
    refine WPl.q rfl rfl rfl (Wt.plain rfl) (fun w hC => Ex.fieldAddr fd86_0 rfl) ?_
    refine WPl.q rfl rfl rfl (Wt.plain rfl) (fun w hC => Ex.loadK flat3 rfl (hQ.at 0 rfl) hC (hQ.nin 0 1 rfl rfl rfl) rfl) ?_
    refine WPl.q rfl rfl rfl (Wt.plain rfl) (fun w hC => Ex.move rfl) ?_
    refine WPl.q rfl rfl rfl (Wt.plain rfl) (fun w hC => Ex.neg rfl (by omega)) ?_
    refine WPl.q rfl rfl rfl (Wt.plain rfl) (fun w hC => Ex.move rfl) ?_
    refine WPl.q rfl rfl rfl (Wt.plain rfl) (fun w hC => Ex.move rfl) ?_
    refine WPl.q rfl rfl rfl (Wt.plain rfl) (fun w hC => Ex.move rfl) ?_
    refine WPl.f rfl ?_
    have hsR96 := hR.size
    refine WL.lit Try.underlying22 ty3 rfl rfl rfl rfl rfl rfl rfl (Wt.plain rfl) hH (fun b96 wn hb96 hk96 hH => ?_)
    replace hR := hR.trans (hk96.nil)
    refine WPl.b hR ?_
    refine WPl.q rfl rfl rfl (Wt.plain rfl) (fun w hC => Ex.indexAddr Try.underlying22 ty3 rfl rfl (by omega)) ?_
    refine WPl.f rfl ?_
    have hcs : (#[vint (-((g.getD 0 []).length : Int)), vint 1, vint ((g.getD 0 []).length : Int), vint (-1)] : Array Value)[0 + ((bend (letter g cell) d : Nat) : Int).toNat * 1]? = some (vint (1)) := by
      rw [Int.toNat_natCast, hb]; rfl
    refine WL.u rfl rfl (Wt.plain rfl) (Ex.loadHp flat3 rfl hH hcs) ?_
    refine WPl.b hR ?_
    refine WPl.q rfl rfl rfl (Wt.plain rfl) (fun w hC => Ex.add rfl rfl (by omega)) ?_
    refine WPl.q rfl rfl rfl (Wt.plain rfl) (fun w hC => Ex.buildS bd86 rfl rfl rfl rfl rfl) ?_
    refine WPl.f rfl ?_
    replace hH := hH.f2
    refine WL.store2 ty86 rfl rfl rfl rfl (Wt.plain rfl) hH (fun wn hk hH => ?_)
    replace hR := hR.trans (hk.mono (by simp))
    refine WPl.b hR ?_
    refine WPl.q rfl rfl rfl (Wt.plain rfl) (fun w hC => Ex.assign rfl) ?_
    refine WPl.nil (fun hC => ?_); clear hC
    refine WN.next ?_
    refine WC.ret ?_
    refine WN.cell2 rfl rfl rfl Try.underlying86 ty86 hH ?_
    have hq : cell % (g.getD 0 []).length + 1 ≠ (g.getD 0 []).length := by omega
    refine ⟨?_, hH.keep⟩
    exact (tupEq (by dsimp only [nR, nC]; omega) (by rw [hb]) rfl).trans (aftV_i hb (goN_1i _ _ _ hq)).symm
  have hg6_2' := hg6_2; try simp only [decide_eq_true_eq, decide_eq_false_iff_not, Bool.not_eq_true', Bool.not_eq_false', Bool.not_eq_true, Bool.not_eq_false] at hg6_2'
  refine WL.pass rfl rfl (Wt.guard' rfl rfl rfl hg6_2 rfl) ?_
  refine WL.pass rfl rfl (Wt.guard' rfl rfl rfl hg6_2 rfl) ?_
  refine WL.pass rfl rfl (Wt.guard' rfl rfl rfl hg6_2 rfl) ?_
  refine WL.pass rfl rfl (Wt.guard' rfl rfl rfl hg6_2 rfl) ?_
  refine WL.u rfl rfl (Wt.plain rfl) (Ex.pickF rfl hg6_2 rfl) ?_
  refine WL.u rfl rfl (Wt.plain rfl) (Ex.assign rfl) ?_
  refine WL.next ?_
  refine WC.condF rfl rfl ?_
  refine WC.seq ?_
  refine WC.region ?_
  refine WL.u rfl rfl (Wt.plain rfl) (Ex.move rfl) ?_
  refine WL.u rfl rfl (Wt.plain rfl) (Ex.eql rfl rfl) ?_
  refine WL.u rfl rfl (Wt.plain rfl) (Ex.move rfl) ?_
  refine WL.split (t := 59) rfl (fun hg8_2 => ?_) (fun hg8_2 => ?_)
  · have hg8_2' := hg8_2; try simp only [decide_eq_true_eq, decide_eq_false_iff_not, Bool.not_eq_true', Bool.not_eq_false', Bool.not_eq_true, Bool.not_eq_false] at hg8_2'
    have hb : bend (letter g cell) d = 2 := by omega
    refine WL.u rfl rfl (Wt.guard' rfl rfl rfl hg8_2 rfl) (Ex.move rfl) ?_
    refine WL.u rfl rfl (Wt.guard' rfl rfl rfl hg8_2 rfl) (Ex.move rfl) ?_
    refine WL.u rfl rfl (Wt.guard' rfl rfl rfl hg8_2 rfl) (Ex.sub rfl rfl (by omega)) ?_
    refine WL.u rfl rfl (Wt.guard' rfl rfl rfl hg8_2 rfl) (Ex.eql rfl rfl) ?_
    refine WL.u rfl rfl (Wt.plain rfl) (Ex.pickT rfl hg8_2 rfl) ?_
    refine WL.u rfl rfl (Wt.plain rfl) (Ex.assign rfl) ?_
    refine WL.next ?_
    refine WC.cond rfl (fun hc3 => ?_) (fun hc3 => ?_)
    · have hc3' := hc3; try simp only [decide_eq_true_eq, decide_eq_false_iff_not, Bool.not_eq_true', Bool.not_eq_false', Bool.not_eq_true, Bool.not_eq_false] at hc3'
      refine WC.seq ?_
      refine WC.region ?_
      refine WL.u rfl rfl (Wt.plain rfl) (Ex.loadHp2 Try.underlying86 ty86 rfl hH) ?_
      refine WL.u rfl rfl (Wt.plain rfl) (Ex.move rfl) ?_
      refine WL.u rfl rfl (Wt.plain rfl) (Ex.move rfl) ?_
      refine WL.u rfl rfl (Wt.plain rfl) (Ex.add rfl rfl (by omega)) ?_
      refine WL.u rfl rfl (Wt.plain rfl) (Ex.move rfl) ?_
      refine WL.u rfl rfl (Wt.plain rfl) (Ex.add rfl rfl (by omega)) ?_
      refine WL.u rfl rfl (Wt.plain rfl) (Ex.sub rfl rfl (by omega)) ?_
      refine WL.u rfl rfl (Wt.plain rfl) (Ex.move rfl) ?_
      refine WL.u rfl rfl (Wt.plain rfl) (Ex.sub rfl rfl (by omega)) ?_
      replace hH := hH.f1
      refine WL.store2 ty86 rfl rfl rfl rfl (Wt.plain rfl) hH (fun wn hk hH => ?_)
      refine WL.u rfl rfl (Wt.plain rfl) (Ex.assign rfl) ?_
      refine WL.next ?_
      refine WC.ret ?_
      refine WN.retBlock ?_
      refine WN.retThen ?_
      refine WN.cell2 rfl rfl rfl Try.underlying86 ty86 hH ?_
      have hq : cell / (g.getD 0 []).length + 1 = g.length := by omega
      refine ⟨?_, hH.keep⟩
      exact (tupEq rfl rfl (by dsimp only [nR, nC]; omega)).trans (aftV_o hb (goN_2o _ _ _ hq)).symm
    have hc3' := hc3; try simp only [decide_eq_true_eq, decide_eq_false_iff_not, Bool.not_eq_true', Bool.not_eq_false', Bool.not_eq_true, Bool.not_eq_false] at hc3'
    refine WC.seq ?_
    refine WC.region ?_
    refine WL.u rfl rfl (Wt.plain rfl) (Ex.move rfl) ?_
    refine WL.u rfl rfl (Wt.plain rfl) (Ex.eql rfl rfl) ?_
    refine WL.u rfl rfl (Wt.plain rfl) (Ex.move rfl) ?_
    refine WL.pass rfl rfl (Wt.guard' rfl rfl rfl (decide_eq_false (by omega)) rfl) ?_
    refine WL.pass rfl rfl (Wt.guard' rfl rfl rfl (decide_eq_false (by omega)) rfl) ?_
    refine WL.u rfl rfl (Wt.plain rfl) (Ex.pickF rfl (decide_eq_false (by omega)) rfl) ?_
    refine WL.u rfl rfl (Wt.plain rfl) (Ex.assign rfl) ?_
    refine WL.next ?_
    refine WC.condF rfl rfl ?_
    refine WC.skip ?_
    refine WN.normalBlock ?_
    refine WN.next ?_
    refine WC.seq ?_
    have hQ := hH
    refine WC.plan (Keep [b4] _) [(0, true), (1, true), (2, true), (3, true), (4, true), (6, true), (10, true), (5, false), (7, true), (8, false), (9, true), (11, true), (12, false), (13, true)] rfl (by kernel_rfl) (Keep.drew _ _) (fun hR => ?_)
    replace hH := hH.drew
    refine WPl.q rfl rfl rfl (Wt.plain rfl) (fun w hC => Ex.fieldAddr fd86_0 rfl) ?_
    refine WPl.q rfl rfl rfl (Wt.plain rfl) (fun w hC => Ex.loadK flat3 rfl (hQ.at 0 rfl) hC (hQ.nin 0 1 rfl rfl rfl) rfl) ?_
    refine WPl.q rfl rfl rfl (Wt.plain rfl) (fun w hC => Ex.move rfl) ?_
    refine WPl.q rfl rfl rfl (Wt.plain rfl) (fun w hC => Ex.neg rfl (by omega)) ?_
    refine WPl.q rfl rfl rfl (Wt.plain rfl) (fun w hC => Ex.move rfl) ?_
    refine WPl.q rfl rfl rfl (Wt.plain rfl) (fun w hC => Ex.move rfl) ?_
    refine WPl.q rfl rfl rfl (Wt.plain rfl) (fun w hC => Ex.move rfl) ?_
    refine WPl.f rfl ?_
    have hsR96 := hR.size
    refine WL.lit Try.underlying22 ty3 rfl rfl rfl rfl rfl rfl rfl (Wt.plain rfl) hH (fun b96 wn hb96 hk96 hH => ?_)
    replace hR := hR.trans (hk96.nil)
    refine WPl.b hR ?_
    refine WPl.q rfl rfl rfl (Wt.plain rfl) (fun w hC => Ex.indexAddr Try.underlying22 ty3 rfl rfl (by omega)) ?_
    refine WPl.f rfl ?_
    have hcs : (#[vint (-((g.getD 0 []).length : Int)), vint 1, vint ((g.getD 0 []).length : Int), vint (-1)] : Array Value)[0 + ((bend (letter g cell) d : Nat) : Int).toNat * 1]? = some (vint (((g.getD 0 []).length : Int))) := by
      rw [Int.toNat_natCast, hb]; rfl
    refine WL.u rfl rfl (Wt.plain rfl) (Ex.loadHp flat3 rfl hH hcs) ?_
    refine WPl.b hR ?_
    refine WPl.q rfl rfl rfl (Wt.plain rfl) (fun w hC => Ex.add rfl rfl (by omega)) ?_
    refine WPl.q rfl rfl rfl (Wt.plain rfl) (fun w hC => Ex.buildS bd86 rfl rfl rfl rfl rfl) ?_
    refine WPl.f rfl ?_
    replace hH := hH.f2
    refine WL.store2 ty86 rfl rfl rfl rfl (Wt.plain rfl) hH (fun wn hk hH => ?_)
    replace hR := hR.trans (hk.mono (by simp))
    refine WPl.b hR ?_
    refine WPl.q rfl rfl rfl (Wt.plain rfl) (fun w hC => Ex.assign rfl) ?_
    refine WPl.nil (fun hC => ?_); clear hC
    refine WN.next ?_
    refine WC.ret ?_
    refine WN.cell2 rfl rfl rfl Try.underlying86 ty86 hH ?_
    have hq : cell / (g.getD 0 []).length + 1 ≠ g.length := by omega
    refine ⟨?_, hH.keep⟩
    exact (tupEq (by dsimp only [nR, nC]; omega) (by rw [hb]) rfl).trans (aftV_i hb (goN_2i _ _ _ hq)).symm
  have hg8_2' := hg8_2; try simp only [decide_eq_true_eq, decide_eq_false_iff_not, Bool.not_eq_true', Bool.not_eq_false', Bool.not_eq_true, Bool.not_eq_false] at hg8_2'
  refine WL.pass rfl rfl (Wt.guard' rfl rfl rfl hg8_2 rfl) ?_
  refine WL.pass rfl rfl (Wt.guard' rfl rfl rfl hg8_2 rfl) ?_
  refine WL.pass rfl rfl (Wt.guard' rfl rfl rfl hg8_2 rfl) ?_
  refine WL.pass rfl rfl (Wt.guard' rfl rfl rfl hg8_2 rfl) ?_
  refine WL.u rfl rfl (Wt.plain rfl) (Ex.pickF rfl hg8_2 rfl) ?_
  refine WL.u rfl rfl (Wt.plain rfl) (Ex.assign rfl) ?_
  refine WL.next ?_
  refine WC.condF rfl rfl ?_
  refine WC.seq ?_
  refine WC.region ?_
  refine WL.u rfl rfl (Wt.plain rfl) (Ex.move rfl) ?_
  refine WL.u rfl rfl (Wt.plain rfl) (Ex.eql rfl rfl) ?_
  refine WL.u rfl rfl (Wt.plain rfl) (Ex.move rfl) ?_
  refine WL.split (t := 77) rfl (fun hg10_2 => ?_) (fun hg10_2 => ?_)
  · have hg10_2' := hg10_2; try simp only [decide_eq_true_eq, decide_eq_false_iff_not, Bool.not_eq_true', Bool.not_eq_false', Bool.not_eq_true, Bool.not_eq_false] at hg10_2'
    have hb : bend (letter g cell) d = 3 := by omega
    refine WL.u rfl rfl (Wt.guard' rfl rfl rfl hg10_2 rfl) (Ex.move rfl) ?_
    refine WL.u rfl rfl (Wt.guard' rfl rfl rfl hg10_2 rfl) (Ex.eql rfl rfl) ?_
    refine WL.u rfl rfl (Wt.plain rfl) (Ex.pickT rfl hg10_2 rfl) ?_
    refine WL.u rfl rfl (Wt.plain rfl) (Ex.assign rfl) ?_
    refine WL.next ?_
    refine WC.cond rfl (fun hc4 => ?_) (fun hc4 => ?_)
    · have hc4' := hc4; try simp only [decide_eq_true_eq, decide_eq_false_iff_not, Bool.not_eq_true', Bool.not_eq_false', Bool.not_eq_true, Bool.not_eq_false] at hc4'
      refine WC.seq ?_
      refine WC.region ?_
      refine WL.u rfl rfl (Wt.plain rfl) (Ex.loadHp2 Try.underlying86 ty86 rfl hH) ?_
      refine WL.u rfl rfl (Wt.plain rfl) (Ex.move rfl) ?_
      refine WL.u rfl rfl (Wt.plain rfl) (Ex.mul rfl rfl (by omega)) ?_
      refine WL.u rfl rfl (Wt.plain rfl) (Ex.move rfl) ?_
      refine WL.u rfl rfl (Wt.plain rfl) (Ex.add rfl rfl (by omega)) ?_
      refine WL.u rfl rfl (Wt.plain rfl) (Ex.move rfl) ?_
      refine WL.u rfl rfl (Wt.plain rfl) (Ex.add rfl rfl (by omega)) ?_
      refine WL.u rfl rfl (Wt.plain rfl) (Ex.sub rfl rfl (by omega)) ?_
      refine WL.u rfl rfl (Wt.plain rfl) (Ex.move rfl) ?_
      refine WL.u rfl rfl (Wt.plain rfl) (Ex.sub rfl rfl (by omega)) ?_
      replace hH := hH.f1
      refine WL.store2 ty86 rfl rfl rfl rfl (Wt.plain rfl) hH (fun wn hk hH => ?_)
      refine WL.u rfl rfl (Wt.plain rfl) (Ex.assign rfl) ?_
      refine WL.next ?_
      refine WC.ret ?_
      refine WN.retBlock ?_
      refine WN.retThen ?_
      refine WN.cell2 rfl rfl rfl Try.underlying86 ty86 hH ?_
      have hq : cell % (g.getD 0 []).length = 0 := by omega
      refine ⟨?_, hH.keep⟩
      exact (tupEq rfl rfl (by dsimp only [nR, nC]; omega)).trans (aftV_o hb (goN_3o _ _ _ hq)).symm
    have hc4' := hc4; try simp only [decide_eq_true_eq, decide_eq_false_iff_not, Bool.not_eq_true', Bool.not_eq_false', Bool.not_eq_true, Bool.not_eq_false] at hc4'
    refine WC.skip ?_
    refine WN.normalBlock ?_
    refine WN.next ?_
    refine WC.seq ?_
    have hQ := hH
    refine WC.plan (Keep [b4] _) [(0, true), (1, true), (2, true), (3, true), (4, true), (6, true), (10, true), (5, false), (7, true), (8, false), (9, true), (11, true), (12, false), (13, true)] rfl (by kernel_rfl) (Keep.drew _ _) (fun hR => ?_)
    replace hH := hH.drew
    refine WPl.q rfl rfl rfl (Wt.plain rfl) (fun w hC => Ex.fieldAddr fd86_0 rfl) ?_
    refine WPl.q rfl rfl rfl (Wt.plain rfl) (fun w hC => Ex.loadK flat3 rfl (hQ.at 0 rfl) hC (hQ.nin 0 1 rfl rfl rfl) rfl) ?_
    refine WPl.q rfl rfl rfl (Wt.plain rfl) (fun w hC => Ex.move rfl) ?_
    refine WPl.q rfl rfl rfl (Wt.plain rfl) (fun w hC => Ex.neg rfl (by omega)) ?_
    refine WPl.q rfl rfl rfl (Wt.plain rfl) (fun w hC => Ex.move rfl) ?_
    refine WPl.q rfl rfl rfl (Wt.plain rfl) (fun w hC => Ex.move rfl) ?_
    refine WPl.q rfl rfl rfl (Wt.plain rfl) (fun w hC => Ex.move rfl) ?_
    refine WPl.f rfl ?_
    have hsR96 := hR.size
    refine WL.lit Try.underlying22 ty3 rfl rfl rfl rfl rfl rfl rfl (Wt.plain rfl) hH (fun b96 wn hb96 hk96 hH => ?_)
    replace hR := hR.trans (hk96.nil)
    refine WPl.b hR ?_
    refine WPl.q rfl rfl rfl (Wt.plain rfl) (fun w hC => Ex.indexAddr Try.underlying22 ty3 rfl rfl (by omega)) ?_
    refine WPl.f rfl ?_
    have hcs : (#[vint (-((g.getD 0 []).length : Int)), vint 1, vint ((g.getD 0 []).length : Int), vint (-1)] : Array Value)[0 + ((bend (letter g cell) d : Nat) : Int).toNat * 1]? = some (vint (-1)) := by
      rw [Int.toNat_natCast, hb]; rfl
    refine WL.u rfl rfl (Wt.plain rfl) (Ex.loadHp flat3 rfl hH hcs) ?_
    refine WPl.b hR ?_
    refine WPl.q rfl rfl rfl (Wt.plain rfl) (fun w hC => Ex.add rfl rfl (by omega)) ?_
    refine WPl.q rfl rfl rfl (Wt.plain rfl) (fun w hC => Ex.buildS bd86 rfl rfl rfl rfl rfl) ?_
    refine WPl.f rfl ?_
    replace hH := hH.f2
    refine WL.store2 ty86 rfl rfl rfl rfl (Wt.plain rfl) hH (fun wn hk hH => ?_)
    replace hR := hR.trans (hk.mono (by simp))
    refine WPl.b hR ?_
    refine WPl.q rfl rfl rfl (Wt.plain rfl) (fun w hC => Ex.assign rfl) ?_
    refine WPl.nil (fun hC => ?_); clear hC
    refine WN.next ?_
    refine WC.ret ?_
    refine WN.cell2 rfl rfl rfl Try.underlying86 ty86 hH ?_
    have hq : cell % (g.getD 0 []).length ≠ 0 := by omega
    have hge : 1 ≤ cell := Nat.pos_of_ne_zero (fun h0 => hq (by rw [h0]; exact Nat.zero_mod _))
    refine ⟨?_, hH.keep⟩
    exact (tupEq (by dsimp only [nR, nC]; omega) (by rw [hb]) rfl).trans (aftV_i hb (goN_3i _ _ _ hq)).symm
  exfalso; simp only [decide_eq_true_eq, decide_eq_false_iff_not] at hg10_2; omega

end Go.Proofs.Ytmlkabddhdkpaaa

/- Whole beams: the program's and the reference's. -/
namespace Go.Proofs.Ytmlkabddhdkpaaa
set_option maxRecDepth 100000
set_option linter.unusedSimpArgs false
set_option linter.unusedVariables false
open Go Go.RowKit

theorem GridOk.sz {g : Grid} (h : GridOk g) : Sz g := ⟨h.n1, Nat.lt_succ_of_le h.n5, h.m1, Nat.lt_succ_of_le h.m5⟩
theorem cells_le {g : Grid} (h : GridOk g) : nR g * nC g ≤ 25 := Nat.mul_le_mul h.n5 h.m5
theorem ports_le {g : Grid} (h : GridOk g) : ports g ≤ 20 := by have := h.n5; have := h.m5; unfold ports; dsimp only [nR, nC]; omega
def nf (g : Grid) (s : Nat × Nat) (f : Nat) : Nat := match afterN g s with
  | .inl _ => 0
  | .inr _ => f - 1
/-- the beam's loop -/
def BI (g : Grid) (p : Nat) (l : List (Nat × Nat)) (s : Nat × Nat) (e : Int) (f : Nat) : Prop :=
  l.length + f ≤ 4 * (nR g * nC g) ∧ ((e = -1 ∧ leaves g f s = true ∧ Ok g s ∧ way g p = (l ++ (wayF g f s).1, (wayF g f s).2)) ∨ (f = 0 ∧ 0 ≤ e ∧ ((way g p).2 : Int) = e ∧ (way g p).1 = l))
theorem BI.start {g : Grid} (h : GridOk g) {p : Nat} (hp : p < ports g) : BI g p [] (enterN (nR g) (nC g) p) (-1) (4 * (nR g * nC g)) :=
  ⟨by simp, .inl ⟨rfl, way_leaves h.sz hp, enter_ok h.sz hp, rfl⟩⟩
theorem BI.step {g : Grid} (h : GridOk g) {p : Nat} {l : List (Nat × Nat)} {s : Nat × Nat} {e : Int} {f : Nat} (hB : BI g p l s e f) (he : e < 0) : BI g p (l ++ [s]) (nx g s) (ex g s) (nf g s f) ∧ nf g s f < f := by
  obtain ⟨h0, h1⟩ := hB
  rcases h1 with ⟨_, h2, h3, h4⟩ | ⟨_, h2, _⟩
  · cases f with
    | zero => cases h2
    | succ f =>
      unfold leaves at h2
      unfold wayF at h4
      cases ha : afterN g s with
      | inl q =>
        rw [ha] at h4
        refine ⟨⟨by simp [nf, ha]; omega, .inr ⟨by simp [nf, ha], by simp [ex, ha], by simp [h4, ex, ha], by simp [h4]⟩⟩, by simp [nf, ha]⟩
      | inr s' =>
        rw [ha] at h2 h4
        refine ⟨⟨by simp [nf, ha]; omega, .inl ⟨by simp [ex, ha], by simpa [nf, nx, ha] using h2, by simpa [nx, ha] using (after_r h.sz h3 ha).1, by simp [h4, nf, nx, ha]⟩⟩, by simp [nf, ha]⟩
  · omega
theorem BI.ok {g : Grid} {p : Nat} {l : List (Nat × Nat)} {s : Nat × Nat} {e : Int} {f : Nat} (hB : BI g p l s e f) (he : e < 0) : e = -1 ∧ leaves g f s = true ∧ Ok g s := by
  rcases hB.2 with ⟨h1, h2, h3, _⟩ | ⟨_, h2, _⟩
  · exact ⟨h1, h2, h3⟩
  · omega
theorem BI.done {g : Grid} {p : Nat} {l : List (Nat × Nat)} {s : Nat × Nat} {e : Int} {f : Nat} (hB : BI g p l s e f) (he : ¬ e < 0) : ((way g p).2 : Int) = e ∧ (way g p).1 = l := by
  rcases hB.2 with ⟨h1, _⟩ | ⟨_, _, h3, h4⟩
  · omega
  · exact ⟨h3, h4⟩
theorem BI.len {g : Grid} (h : GridOk g) {p : Nat} {l : List (Nat × Nat)} {s : Nat × Nat} {e : Int} {f : Nat} (hB : BI g p l s e f) : l.length ≤ 100 := by
  have := hB.1; have := cells_le h; omega
theorem Hp.base {w0 w : World} {L : List (Nat × Obj)} (h : Hp [] w0 w L) (i : Nat) {p : Nat × Obj} (hi : L[i]? = some p) : w0.heap.size ≤ p.1 := (h.own p (List.mem_of_getElem? hi)).resolve_right (by simp)
theorem Own.nil {α : Type} (r : Rep α) : Own r #[] 0 [] := ⟨by simp, by simp, by simp, by simp [Rw]⟩
theorem New.own {α : Type} {r : Rep α} {e : TypeId} {w0 w : World} {v : Value} {l : List α} (h : New r e w0 w v l) : ∃ b cap cur, v = vsl b l.length cap ∧ w0.heap.size ≤ b ∧ w.heap[b]? = some (.cells cur e (0, 0)) ∧ Own r cur cap l := by
  obtain ⟨b, cap, cur, h1, h2, h3, h4, h5, h6, h7⟩ := h
  exact ⟨b, cap, cur, h1, h2, h3, ⟨h4, h5, by simpa [maxLen] using h6, h7⟩⟩
theorem New.keep {α : Type} {r : Rep α} {e : TypeId} {w0 w w1 : World} {v : Value} {l : List α} (h : New r e w0 w v l) (k : Keep [] w w1) : New r e w0 w1 v l := by
  obtain ⟨b, cap, cur, h1, h2, h3, h4⟩ := h
  exact ⟨b, cap, cur, h1, h2, k.heap h3 (by simp), h4⟩
theorem Own.sl {α : Type} {r : Rep α} {S : List Nat} {w0 w : World} {L : List (Nat × Obj)} {b cap : Nat} {cur : Array Value} {e : TypeId} {l : List α} (o : Own r cur cap l) (h : Hp S w0 w ((b, .cells cur e (0, 0)) :: L)) : Sl r w (some ⟨b, 0, none⟩) l :=
  o.rw.sl (h.at 0 rfl) (by have := o.le; have := o.max; omega)

theorem ibeam (g : Grid) (a : Option Addr) (cap p : Nat) (w : World) (hg : Sl rStr w a g) (hG : GridOk g) (hp : p < ports g) : Fn Try.prog 49 [.slice a g.length cap, vint p] w (fun v w1 => ∃ x, v = .tuple #[x, vint (way g p).2] ∧ Keep [] w w1 ∧ New rStep 86 w w1 x (way g p).1) := by
  refine Fn.enter (n := 27) Try.func49 rfl rfl rfl ?_
  show WC _ _ _ _ [(0, .slice a g.length cap), (1, vint p)] _
  have hH := Hp.start [] w
  obtain ⟨b, off, rfl⟩ := hg.addr (show 0 < g.length from hG.n1)
  refine WC.seq ?_
  refine WC.region ?_
  refine WL.u rfl rfl (Wt.plain rfl) (Ex.assign rfl) ?_
  refine WL.u rfl rfl (Wt.plain rfl) (Ex.assign rfl) ?_
  refine WL.next ?_
  refine WC.seq ?_
  refine WC.region ?_
  refine WL.lit0 Try.underlying73 ty86 rfl (Wt.plain rfl) hH (fun b9 wn hb9 hk9 hH => ?_)
  have ho9 := Own.nil rStep
  refine WL.u rfl rfl (Wt.plain rfl) (Ex.assign rfl) ?_
  refine WL.next ?_
  refine WC.seq ?_
  refine WC.region ?_
  refine WL.u rfl rfl (Wt.plain rfl) (Ex.move rfl) ?_
  refine WL.u rfl rfl (Wt.plain rfl) (Ex.move rfl) ?_
  refine WL.call callable58 rfl (Wt.plain rfl) rfl rfl (ienter _ _ _ _ _ (hg.kept hH.keep) hG hp) ?_
  rintro _ wn ⟨rfl, hC⟩; replace hH := hH.call hC; clear hC
  refine WL.alloc ty86 rfl rfl (Wt.plain rfl) hH (fun b7 wn hb7 hk7 hH => ?_)
  refine WL.store2 ty86 rfl rfl rfl rfl (Wt.plain rfl) hH (fun wn hk hH => ?_)
  refine WL.u rfl rfl (Wt.plain rfl) (Ex.assign rfl) ?_
  refine WL.next ?_
  refine WC.seq ?_
  refine WC.block ?_
  replace hH := hH.f1
  refine WC.loop (ι := Nat × Nat × (Array Value) × (List (Nat × Nat)) × (Nat × Nat) × Int × Nat) (fun (b9, cap9, cur9, l, s, e, f) => [(0, .slice (some ⟨b, off, none⟩) g.length cap), (6, vsl b9 l.length cap9), (7, vptr b7 0), (8, vint e)]) (fun (b9, cap9, cur9, l, s, e, f) wn => Hp [] w wn [(b9, .cells cur9 86 (0, 0)), (b7, .cells #[vint s.1, vint s.2] 86 (0, 0))] ∧ Own rStep cur9 cap9 l ∧ BI g p l s e f) (fun (b9, cap9, cur9, l, s, e, f) => f) ((b9, 0, #[], [], enterN (nR g) (nC g) p, -1, 4 * (nR g * nC g))) (by exact ⟨rfl, rfl, rfl, rfl, trivial⟩) ?_ ?_
  · exact ⟨hH, ho9, BI.start hG hp⟩
  rintro ⟨b9, cap9, cur9, l, s, e, f⟩ wn ⟨hH, ho9, hB⟩
  intro mu0 hmu; try dsimp only at hmu
  show WC _ _ _ _ [(0, .slice (some ⟨b, off, none⟩) g.length cap), (6, vsl b9 l.length cap9), (7, vptr b7 0), (8, vint e)] _
  refine WC.seq ?_
  refine WC.seq ?_
  refine WC.region ?_
  refine WL.u rfl rfl (Wt.plain rfl) (Ex.move rfl) ?_
  refine WL.u rfl rfl (Wt.plain rfl) (Ex.lss rfl rfl) ?_
  refine WL.next ?_
  refine WC.cond rfl (fun hc1 => ?_) (fun hc1 => ?_)
  · have hc1' := hc1; try simp only [decide_eq_true_eq, decide_eq_false_iff_not, Bool.not_eq_true', Bool.not_eq_false', Bool.not_eq_true, Bool.not_eq_false] at hc1'
    have hlt : e < 0 := hc1'
    have hok := (hB.ok hlt).2.2
    have hl100 := hB.len hG
    refine WC.skip ?_
    refine WN.next ?_
    refine WC.block ?_
    refine WC.seq ?_
    refine WC.region ?_
    refine WL.u rfl rfl (Wt.plain rfl) (Ex.move rfl) ?_
    replace hH := hH.f1
    refine WL.u rfl rfl (Wt.plain rfl) (Ex.loadHp2 Try.underlying86 ty86 rfl hH) ?_
    replace hH := hH.f1
    refine WL.append1 (r := rStep) (u := s) Try.underlying73 ty86 rfl rfl (fun _ => rfl) (fun _ => rfl) rfl rfl (Wt.plain rfl) (fun _ => (Wt.plain rfl)) hH ho9 rfl (by omega) (by omega) (fun b9 cap9 cur9 wn x9 hb9 hk9 hH ho9 => ?_)
    refine WL.u rfl rfl (Wt.plain rfl) (Ex.assign rfl) ?_
    refine WL.next ?_
    refine WC.region ?_
    refine WL.u rfl rfl (Wt.plain rfl) (Ex.move rfl) ?_
    replace hH := hH.f1
    refine WL.u rfl rfl (Wt.plain rfl) (Ex.loadHp2 Try.underlying86 ty86 rfl hH) ?_
    refine WL.call callable59 rfl (Wt.plain rfl) rfl rfl (iafter _ _ _ s.1 s.2 _ (hg.kept hH.keep) hG hok.cell hok.d) ?_
    rintro _ wn ⟨rfl, hC⟩; replace hH := hH.call hC; clear hC
    refine WL.u rfl rfl (Wt.plain rfl) (Ex.move rfl) ?_
    refine WL.u rfl rfl (Wt.plain rfl) (Ex.extract rfl rfl) ?_
    refine WL.u rfl rfl (Wt.plain rfl) (Ex.extract rfl rfl) ?_
    refine WL.store2 ty86 rfl rfl rfl rfl (Wt.plain rfl) hH (fun wn hk hH => ?_)
    refine WL.u rfl rfl (Wt.plain rfl) (Ex.assign rfl) ?_
    refine WL.last ?_
    refine WN.normalBlock ?_
    replace hH := hH.f1
    refine WN.round (b9, cap9, cur9, l ++ [s], nx g s, ex g s, nf g s f) (by exact ⟨rfl, rfl, rfl, rfl, trivial⟩) ?_ ?_
    · exact ⟨hH, ho9, (hB.step hG hlt).1⟩
    · have := (hB.step hG hlt).2; dsimp only; omega
  have hc1' := hc1; try simp only [decide_eq_true_eq, decide_eq_false_iff_not, Bool.not_eq_true', Bool.not_eq_false', Bool.not_eq_true, Bool.not_eq_false] at hc1'
  have hd := hB.done hc1'
  refine WC.exit ?_
  refine WN.exitThen ?_
  refine WN.exitThen ?_
  refine WN.exitHere ?_
  refine WN.next ?_
  refine WC.seq ?_
  refine WC.region ?_
  refine WL.u rfl rfl (Wt.plain rfl) (Ex.move rfl) ?_
  refine WL.u rfl rfl (Wt.plain rfl) (Ex.move rfl) ?_
  refine WL.u rfl rfl (Wt.plain rfl) (Ex.assign rfl) ?_
  refine WL.u rfl rfl (Wt.plain rfl) (Ex.assign rfl) ?_
  refine WL.next ?_
  refine WC.ret ?_
  refine WN.body2 rfl rfl rfl ?_
  exact ⟨_, by rw [hd.1], hH.keep, by rw [hd.2]; exact New.of hH ho9 (hH.base 0 rfl)⟩


/-- the reference's words, in coordinates -/
def stepI (i k : Int) (d : Nat) : Int × Int := if d = 0 then (i - 1, k) else if d = 1 then (i, k + 1) else if d = 2 then (i + 1, k) else (i, k - 1)
def leaveI (n m : Nat) (i k : Int) : Int := if i < 0 then k else if k ≥ m then m + i else if i ≥ n then 2 * m + n - 1 - k else if k < 0 then 2 * (n + m) - 1 - i else -1
def chkI (n m cell e : Nat) : Bool :=
  let x := stepI ((cell / m : Nat) : Int) ((cell % m : Nat) : Int) e
  match goN n m cell e with
  | .inl p => decide (leaveI n m x.1 x.2 = p)
  | .inr s => decide (leaveI n m x.1 x.2 = -1) && decide (x.1 = ((s.1 / m : Nat) : Int)) && decide (x.2 = ((s.1 % m : Nat) : Int))
theorem allI : ∀ n < 6, ∀ m < 6, ∀ cell < n * m, ∀ e < 4, chkI n m cell e = true := by decide +kernel
theorem step_in {g : Grid} (z : Sz g) {s : Nat × Nat} (h : Ok g s) {x : Int × Int} (hx : x = stepI ((s.1 / nC g : Nat) : Int) ((s.1 % nC g : Nat) : Int) (bend (letter g s.1) s.2)) :
    leaveI (nR g) (nC g) x.1 x.2 = ex g s ∧ (ex g s < 0 → x.1 = (((nx g s).1 / nC g : Nat) : Int) ∧ x.2 = (((nx g s).1 % nC g : Nat) : Int) ∧ (nx g s).2 = bend (letter g s.1) s.2) := by
  have hb := bend_lt (letter g s.1) s.2 h.d
  have := allI _ z.n5 _ z.m5 s.1 h.cell _ hb
  have ha := allA _ z.n5 _ z.m5 s.1 h.cell _ hb
  simp only [chkI] at this
  unfold chkA at ha
  subst hx
  unfold ex nx afterN
  cases hg : goN (nR g) (nC g) s.1 (bend (letter g s.1) s.2) with
  | inl p =>
    rw [hg] at this
    simp only [decide_eq_true_eq] at this
    exact ⟨this, fun h => absurd h (by simp)⟩
  | inr t =>
    rw [hg] at this ha
    simp only [Bool.and_eq_true, decide_eq_true_eq] at this ha
    exact ⟨this.1.1, fun _ => ⟨this.1.2, this.2, ha.1.2⟩⟩


def chkE (n m p : Nat) : Bool :=
  let i := (((enterN n m p).1 / m : Nat) : Int)
  let k := (((enterN n m p).1 % m : Nat) : Int)
  let d := (enterN n m p).2
  if p < m then decide (i = 0 ∧ k = p ∧ d = 2) else if p < m + n then decide (i = (p : Int) - m ∧ k = (m : Int) - 1 ∧ d = 3)
  else if p < 2 * m + n then decide (i = (n : Int) - 1 ∧ k = 2 * (m : Int) + n - 1 - p ∧ d = 0) else decide (i = ((2 * (n + m) : Nat) : Int) - 1 - p ∧ k = 0 ∧ d = 1)
theorem allE : ∀ n < 6, ∀ m < 6, 0 < n → 0 < m → ∀ p < 2 * n + 2 * m, chkE n m p = true := by decide +kernel
theorem enterI (n m p : Nat) (hn1 : 0 < n) (hn : n < 6) (hm1 : 0 < m) (hm : m < 6) (hp : p < 2 * n + 2 * m) :
    (p < m → (((enterN n m p).1 / m : Nat) : Int) = 0 ∧ (((enterN n m p).1 % m : Nat) : Int) = p ∧ (enterN n m p).2 = 2) ∧
    (m ≤ p → p < m + n → (((enterN n m p).1 / m : Nat) : Int) = (p : Int) - m ∧ (((enterN n m p).1 % m : Nat) : Int) = (m : Int) - 1 ∧ (enterN n m p).2 = 3) ∧
    (m + n ≤ p → p < 2 * m + n → (((enterN n m p).1 / m : Nat) : Int) = (n : Int) - 1 ∧ (((enterN n m p).1 % m : Nat) : Int) = 2 * (m : Int) + n - 1 - p ∧ (enterN n m p).2 = 0) ∧
    (2 * m + n ≤ p → (((enterN n m p).1 / m : Nat) : Int) = ((2 * (n + m) : Nat) : Int) - 1 - p ∧ (((enterN n m p).1 % m : Nat) : Int) = 0 ∧ (enterN n m p).2 = 1) := by
  have := allE n hn m hm hn1 hm1 p hp
  simp only [chkE] at this
  refine ⟨fun h => ?_, fun h1 h2 => ?_, fun h1 h2 => ?_, fun h1 => ?_⟩
  · rw [if_pos h] at this; exact of_decide_eq_true this
  · rw [if_neg (by omega), if_pos h2] at this; exact of_decide_eq_true this
  · rw [if_neg (by omega), if_neg (by omega), if_pos h2] at this; exact of_decide_eq_true this
  · rw [if_neg (by omega), if_neg (by omega), if_neg (by omega)] at this; exact of_decide_eq_true this

theorem sl2Step (i k : Int) (d : Nat) (w : World) (hi : -100 ≤ i ∧ i ≤ 100) (hk : -100 ≤ k ∧ k ≤ 100) (hd : d < 4) : Fn Try.prog 44 [vint i, vint k, vint d] w (fun v w1 => v = .tuple #[vint (stepI i k d).1, vint (stepI i k d).2] ∧ w1 = w) := by
  refine Fn.enter (n := 27) Try.func44 rfl rfl rfl ?_
  show WC _ _ _ _ [(0, vint i), (1, vint k), (2, vint d)] _
  refine WC.seq ?_
  refine WC.region ?_
  refine WL.u rfl rfl (Wt.plain rfl) (Ex.assign rfl) ?_
  refine WL.u rfl rfl (Wt.plain rfl) (Ex.assign rfl) ?_
  refine WL.next ?_
  refine WC.seq ?_
  refine WC.seq ?_
  refine WC.region ?_
  refine WL.u rfl rfl (Wt.plain rfl) (Ex.move rfl) ?_
  refine WL.next ?_
  refine WC.block ?_
  refine WC.seq ?_
  refine WC.region ?_
  refine WL.u rfl rfl (Wt.plain rfl) (Ex.eql rfl rfl) ?_
  refine WL.u rfl rfl (Wt.plain rfl) (Ex.assign rfl) ?_
  refine WL.next ?_
  refine WC.cond rfl (fun hc1 => ?_) (fun hc1 => ?_)
  · have hc1' := hc1; try simp only [decide_eq_true_eq, decide_eq_false_iff_not, Bool.not_eq_true', Bool.not_eq_false', Bool.not_eq_true, Bool.not_eq_false] at hc1'
    refine WC.seq ?_
    refine WC.region ?_
    refine WL.u rfl rfl (Wt.plain rfl) (Ex.move rfl) ?_
    refine WL.u rfl rfl (Wt.plain rfl) (Ex.sub rfl rfl (by omega)) ?_
    refine WL.u rfl rfl (Wt.plain rfl) (Ex.move rfl) ?_
    refine WL.u rfl rfl (Wt.plain rfl) (Ex.assign rfl) ?_
    refine WL.u rfl rfl (Wt.plain rfl) (Ex.assign rfl) ?_
    refine WL.next ?_
    refine WC.ret ?_
    refine WN.retBlock ?_
    refine WN.retThen ?_
    refine WN.body2 rfl rfl rfl ?_
    have hq : d = 0 := by omega
    exact ⟨by simp [stepI, hq], rfl⟩
  have hc1' := hc1; try simp only [decide_eq_true_eq, decide_eq_false_iff_not, Bool.not_eq_true', Bool.not_eq_false', Bool.not_eq_true, Bool.not_eq_false] at hc1'
  refine WC.seq ?_
  refine WC.region ?_
  refine WL.u rfl rfl (Wt.plain rfl) (Ex.eql rfl rfl) ?_
  refine WL.u rfl rfl (Wt.plain rfl) (Ex.assign rfl) ?_
  refine WL.next ?_
  refine WC.cond rfl (fun hc2 => ?_) (fun hc2 => ?_)
  · have hc2' := hc2; try simp only [decide_eq_true_eq, decide_eq_false_iff_not, Bool.not_eq_true', Bool.not_eq_false', Bool.not_eq_true, Bool.not_eq_false] at hc2'
    refine WC.seq ?_
    refine WC.region ?_
    refine WL.u rfl rfl (Wt.plain rfl) (Ex.move rfl) ?_
    refine WL.u rfl rfl (Wt.plain rfl) (Ex.move rfl) ?_
    refine WL.u rfl rfl (Wt.plain rfl) (Ex.add rfl rfl (by omega)) ?_
    refine WL.u rfl rfl (Wt.plain rfl) (Ex.assign rfl) ?_
    refine WL.u rfl rfl (Wt.plain rfl) (Ex.assign rfl) ?_
    refine WL.next ?_
    refine WC.ret ?_
    refine WN.retBlock ?_
    refine WN.retThen ?_
    refine WN.body2 rfl rfl rfl ?_
    have hq : d = 1 := by omega
    exact ⟨by simp [stepI, hq], rfl⟩
  have hc2' := hc2; try simp only [decide_eq_true_eq, decide_eq_false_iff_not, Bool.not_eq_true', Bool.not_eq_false', Bool.not_eq_true, Bool.not_eq_false] at hc2'
  refine WC.seq ?_
  refine WC.region ?_
  refine WL.u rfl rfl (Wt.plain rfl) (Ex.eql rfl rfl) ?_
  refine WL.u rfl rfl (Wt.plain rfl) (Ex.assign rfl) ?_
  refine WL.next ?_
  refine WC.cond rfl (fun hc3 => ?_) (fun hc3 => ?_)
  · have hc3' := hc3; try simp only [decide_eq_true_eq, decide_eq_false_iff_not, Bool.not_eq_true', Bool.not_eq_false', Bool.not_eq_true, Bool.not_eq_false] at hc3'
    refine WC.seq ?_
    refine WC.region ?_
    refine WL.u rfl rfl (Wt.plain rfl) (Ex.move rfl) ?_
    refine WL.u rfl rfl (Wt.plain rfl) (Ex.add rfl rfl (by omega)) ?_
    refine WL.u rfl rfl (Wt.plain rfl) (Ex.move rfl) ?_
    refine WL.u rfl rfl (Wt.plain rfl) (Ex.assign rfl) ?_
    refine WL.u rfl rfl (Wt.plain rfl) (Ex.assign rfl) ?_
    refine WL.next ?_
    refine WC.ret ?_
    refine WN.retBlock ?_
    refine WN.retThen ?_
    refine WN.body2 rfl rfl rfl ?_
    have hq : d = 2 := by omega
    exact ⟨by simp [stepI, hq], rfl⟩
  have hc3' := hc3; try simp only [decide_eq_true_eq, decide_eq_false_iff_not, Bool.not_eq_true', Bool.not_eq_false', Bool.not_eq_true, Bool.not_eq_false] at hc3'
  refine WC.skip ?_
  refine WN.normalBlock ?_
  refine WN.next ?_
  refine WC.seq ?_
  refine WC.region ?_
  refine WL.u rfl rfl (Wt.plain rfl) (Ex.move rfl) ?_
  refine WL.u rfl rfl (Wt.plain rfl) (Ex.move rfl) ?_
  refine WL.u rfl rfl (Wt.plain rfl) (Ex.sub rfl rfl (by omega)) ?_
  refine WL.u rfl rfl (Wt.plain rfl) (Ex.assign rfl) ?_
  refine WL.u rfl rfl (Wt.plain rfl) (Ex.assign rfl) ?_
  refine WL.next ?_
  refine WC.ret ?_
  refine WN.body2 rfl rfl rfl ?_
  have hq : d = 3 := by omega
  exact ⟨by simp [stepI, hq], rfl⟩

theorem sl2Leave (n m : Nat) (i k : Int) (w : World) (hn : n ≤ 100) (hm : m ≤ 100) (hi : -100 ≤ i ∧ i ≤ 100) (hk : -100 ≤ k ∧ k ≤ 100) : Fn Try.prog 45 [vint n, vint m, vint i, vint k] w (fun v w1 => v = vint (leaveI n m i k) ∧ w1 = w) := by
  refine Fn.enter (n := 40) Try.func45 rfl rfl rfl ?_
  show WC _ _ _ _ [(0, vint n), (1, vint m), (2, vint i), (3, vint k)] _
  refine WC.seq ?_
  refine WC.region ?_
  refine WL.u rfl rfl (Wt.plain rfl) (Ex.assign rfl) ?_
  refine WL.next ?_
  refine WC.seq ?_
  refine WC.block ?_
  refine WC.seq ?_
  refine WC.region ?_
  refine WL.u rfl rfl (Wt.plain rfl) (Ex.move rfl) ?_
  refine WL.u rfl rfl (Wt.plain rfl) (Ex.lss rfl rfl) ?_
  refine WL.u rfl rfl (Wt.plain rfl) (Ex.assign rfl) ?_
  refine WL.next ?_
  refine WC.cond rfl (fun hc1 => ?_) (fun hc1 => ?_)
  · have hc1' := hc1; try simp only [decide_eq_true_eq, decide_eq_false_iff_not, Bool.not_eq_true', Bool.not_eq_false', Bool.not_eq_true, Bool.not_eq_false] at hc1'
    refine WC.seq ?_
    refine WC.region ?_
    refine WL.u rfl rfl (Wt.plain rfl) (Ex.move rfl) ?_
    refine WL.u rfl rfl (Wt.plain rfl) (Ex.assign rfl) ?_
    refine WL.next ?_
    refine WC.ret ?_
    refine WN.retBlock ?_
    refine WN.retThen ?_
    refine WN.body1 rfl rfl ?_
    refine ⟨?_, rfl⟩
    unfold leaveI
    simp_all <;> omega
  have hc1' := hc1; try simp only [decide_eq_true_eq, decide_eq_false_iff_not, Bool.not_eq_true', Bool.not_eq_false', Bool.not_eq_true, Bool.not_eq_false] at hc1'
  refine WC.seq ?_
  refine WC.region ?_
  refine WL.u rfl rfl (Wt.plain rfl) (Ex.move rfl) ?_
  refine WL.u rfl rfl (Wt.plain rfl) (Ex.move rfl) ?_
  refine WL.u rfl rfl (Wt.plain rfl) (Ex.geq rfl rfl) ?_
  refine WL.u rfl rfl (Wt.plain rfl) (Ex.assign rfl) ?_
  refine WL.next ?_
  refine WC.cond rfl (fun hc2 => ?_) (fun hc2 => ?_)
  · have hc2' := hc2; try simp only [decide_eq_true_eq, decide_eq_false_iff_not, Bool.not_eq_true', Bool.not_eq_false', Bool.not_eq_true, Bool.not_eq_false] at hc2'
    refine WC.seq ?_
    refine WC.region ?_
    refine WL.u rfl rfl (Wt.plain rfl) (Ex.move rfl) ?_
    refine WL.u rfl rfl (Wt.plain rfl) (Ex.move rfl) ?_
    refine WL.u rfl rfl (Wt.plain rfl) (Ex.add rfl rfl (by omega)) ?_
    refine WL.u rfl rfl (Wt.plain rfl) (Ex.assign rfl) ?_
    refine WL.next ?_
    refine WC.ret ?_
    refine WN.retBlock ?_
    refine WN.retThen ?_
    refine WN.body1 rfl rfl ?_
    refine ⟨?_, rfl⟩
    unfold leaveI
    simp_all <;> omega
  have hc2' := hc2; try simp only [decide_eq_true_eq, decide_eq_false_iff_not, Bool.not_eq_true', Bool.not_eq_false', Bool.not_eq_true, Bool.not_eq_false] at hc2'
  refine WC.seq ?_
  refine WC.region ?_
  refine WL.u rfl rfl (Wt.plain rfl) (Ex.move rfl) ?_
  refine WL.u rfl rfl (Wt.plain rfl) (Ex.move rfl) ?_
  refine WL.u rfl rfl (Wt.plain rfl) (Ex.geq rfl rfl) ?_
  refine WL.u rfl rfl (Wt.plain rfl) (Ex.assign rfl) ?_
  refine WL.next ?_
  refine WC.cond rfl (fun hc3 => ?_) (fun hc3 => ?_)
  · have hc3' := hc3; try simp only [decide_eq_true_eq, decide_eq_false_iff_not, Bool.not_eq_true', Bool.not_eq_false', Bool.not_eq_true, Bool.not_eq_false] at hc3'
    refine WC.seq ?_
    refine WC.region ?_
    refine WL.u rfl rfl (Wt.plain rfl) (Ex.move rfl) ?_
    refine WL.u rfl rfl (Wt.plain rfl) (Ex.mul rfl rfl (by omega)) ?_
    refine WL.u rfl rfl (Wt.plain rfl) (Ex.move rfl) ?_
    refine WL.u rfl rfl (Wt.plain rfl) (Ex.add rfl rfl (by omega)) ?_
    refine WL.u rfl rfl (Wt.plain rfl) (Ex.sub rfl rfl (by omega)) ?_
    refine WL.u rfl rfl (Wt.plain rfl) (Ex.move rfl) ?_
    refine WL.u rfl rfl (Wt.plain rfl) (Ex.sub rfl rfl (by omega)) ?_
    refine WL.u rfl rfl (Wt.plain rfl) (Ex.assign rfl) ?_
    refine WL.next ?_
    refine WC.ret ?_
    refine WN.retBlock ?_
    refine WN.retThen ?_
    refine WN.body1 rfl rfl ?_
    refine ⟨?_, rfl⟩
    unfold leaveI
    simp_all <;> omega
  have hc3' := hc3; try simp only [decide_eq_true_eq, decide_eq_false_iff_not, Bool.not_eq_true', Bool.not_eq_false', Bool.not_eq_true, Bool.not_eq_false] at hc3'
  refine WC.seq ?_
  refine WC.region ?_
  refine WL.u rfl rfl (Wt.plain rfl) (Ex.move rfl) ?_
  refine WL.u rfl rfl (Wt.plain rfl) (Ex.lss rfl rfl) ?_
  refine WL.u rfl rfl (Wt.plain rfl) (Ex.assign rfl) ?_
  refine WL.next ?_
  refine WC.cond rfl (fun hc4 => ?_) (fun hc4 => ?_)
  · have hc4' := hc4; try simp only [decide_eq_true_eq, decide_eq_false_iff_not, Bool.not_eq_true', Bool.not_eq_false', Bool.not_eq_true, Bool.not_eq_false] at hc4'
    refine WC.seq ?_
    refine WC.region ?_
    refine WL.u rfl rfl (Wt.plain rfl) (Ex.move rfl) ?_
    refine WL.u rfl rfl (Wt.plain rfl) (Ex.move rfl) ?_
    refine WL.call callable28 rfl (Wt.plain rfl) rfl rfl (sl2Ports _ _ _ (by first | assumption | omega) (by first | assumption | omega)) ?_
    rintro _ _ ⟨rfl, hw⟩; obtain rfl := hw.symm
    refine WL.u rfl rfl (Wt.plain rfl) (Ex.sub rfl rfl (by omega)) ?_
    refine WL.u rfl rfl (Wt.plain rfl) (Ex.move rfl) ?_
    refine WL.u rfl rfl (Wt.plain rfl) (Ex.sub rfl rfl (by omega)) ?_
    refine WL.u rfl rfl (Wt.plain rfl) (Ex.assign rfl) ?_
    refine WL.next ?_
    refine WC.ret ?_
    refine WN.retBlock ?_
    refine WN.retThen ?_
    refine WN.body1 rfl rfl ?_
    refine ⟨?_, rfl⟩
    unfold leaveI
    simp_all <;> omega
  have hc4' := hc4; try simp only [decide_eq_true_eq, decide_eq_false_iff_not, Bool.not_eq_true', Bool.not_eq_false', Bool.not_eq_true, Bool.not_eq_false] at hc4'
  refine WC.skip ?_
  refine WN.normalBlock ?_
  refine WN.next ?_
  refine WC.seq ?_
  refine WC.region ?_
  refine WL.u rfl rfl (Wt.plain rfl) (Ex.assign rfl) ?_
  refine WL.next ?_
  refine WC.ret ?_
  refine WN.body1 rfl rfl ?_
  refine ⟨?_, rfl⟩
  unfold leaveI
  simp_all <;> omega

theorem sl2Enter (n m p : Nat) (w : World) (hn1 : 0 < n) (hn : n < 6) (hm1 : 0 < m) (hm : m < 6) (hp : p < 2 * n + 2 * m) : Fn Try.prog 42 [vint n, vint m, vint p] w (fun v w1 => v = .tuple #[vint (((enterN n m p).1 / m : Nat) : Int), vint (((enterN n m p).1 % m : Nat) : Int), vint (enterN n m p).2] ∧ w1 = w) := by
  refine Fn.enter (n := 47) Try.func42 rfl rfl rfl ?_
  show WC _ _ _ _ [(0, vint n), (1, vint m), (2, vint p)] _
  have hE := enterI n m p hn1 hn hm1 hm hp
  refine WC.seq ?_
  refine WC.region ?_
  refine WL.u rfl rfl (Wt.plain rfl) (Ex.assign rfl) ?_
  refine WL.u rfl rfl (Wt.plain rfl) (Ex.assign rfl) ?_
  refine WL.u rfl rfl (Wt.plain rfl) (Ex.assign rfl) ?_
  refine WL.next ?_
  refine WC.seq ?_
  refine WC.block ?_
  refine WC.seq ?_
  refine WC.region ?_
  refine WL.u rfl rfl (Wt.plain rfl) (Ex.move rfl) ?_
  refine WL.u rfl rfl (Wt.plain rfl) (Ex.move rfl) ?_
  refine WL.u rfl rfl (Wt.plain rfl) (Ex.lss rfl rfl) ?_
  refine WL.u rfl rfl (Wt.plain rfl) (Ex.assign rfl) ?_
  refine WL.next ?_
  refine WC.cond rfl (fun hc1 => ?_) (fun hc1 => ?_)
  · have hc1' := hc1; try simp only [decide_eq_true_eq, decide_eq_false_iff_not, Bool.not_eq_true', Bool.not_eq_false', Bool.not_eq_true, Bool.not_eq_false] at hc1'
    refine WC.seq ?_
    refine WC.region ?_
    refine WL.u rfl rfl (Wt.plain rfl) (Ex.move rfl) ?_
    refine WL.u rfl rfl (Wt.plain rfl) (Ex.assign rfl) ?_
    refine WL.u rfl rfl (Wt.plain rfl) (Ex.assign rfl) ?_
    refine WL.u rfl rfl (Wt.plain rfl) (Ex.assign rfl) ?_
    refine WL.next ?_
    refine WC.ret ?_
    refine WN.retBlock ?_
    refine WN.retThen ?_
    refine WN.body3 rfl rfl rfl rfl ?_
    have hx := hE.1 (by omega)
    exact ⟨by rw [hx.1, hx.2.1, hx.2.2]; rfl, rfl⟩
  have hc1' := hc1; try simp only [decide_eq_true_eq, decide_eq_false_iff_not, Bool.not_eq_true', Bool.not_eq_false', Bool.not_eq_true, Bool.not_eq_false] at hc1'
  refine WC.seq ?_
  refine WC.region ?_
  refine WL.u rfl rfl (Wt.plain rfl) (Ex.move rfl) ?_
  refine WL.u rfl rfl (Wt.plain rfl) (Ex.move rfl) ?_
  refine WL.u rfl rfl (Wt.plain rfl) (Ex.move rfl) ?_
  refine WL.u rfl rfl (Wt.plain rfl) (Ex.add rfl rfl (by omega)) ?_
  refine WL.u rfl rfl (Wt.plain rfl) (Ex.lss rfl rfl) ?_
  refine WL.u rfl rfl (Wt.plain rfl) (Ex.assign rfl) ?_
  refine WL.next ?_
  refine WC.cond rfl (fun hc2 => ?_) (fun hc2 => ?_)
  · have hc2' := hc2; try simp only [decide_eq_true_eq, decide_eq_false_iff_not, Bool.not_eq_true', Bool.not_eq_false', Bool.not_eq_true, Bool.not_eq_false] at hc2'
    refine WC.seq ?_
    refine WC.region ?_
    refine WL.u rfl rfl (Wt.plain rfl) (Ex.move rfl) ?_
    refine WL.u rfl rfl (Wt.plain rfl) (Ex.move rfl) ?_
    refine WL.u rfl rfl (Wt.plain rfl) (Ex.sub rfl rfl (by omega)) ?_
    refine WL.u rfl rfl (Wt.plain rfl) (Ex.move rfl) ?_
    refine WL.u rfl rfl (Wt.plain rfl) (Ex.sub rfl rfl (by omega)) ?_
    refine WL.u rfl rfl (Wt.plain rfl) (Ex.assign rfl) ?_
    refine WL.u rfl rfl (Wt.plain rfl) (Ex.assign rfl) ?_
    refine WL.u rfl rfl (Wt.plain rfl) (Ex.assign rfl) ?_
    refine WL.next ?_
    refine WC.ret ?_
    refine WN.retBlock ?_
    refine WN.retThen ?_
    refine WN.body3 rfl rfl rfl rfl ?_
    have hx := hE.2.1 (by omega) (by omega)
    exact ⟨by rw [hx.1, hx.2.1, hx.2.2]; rfl, rfl⟩
  have hc2' := hc2; try simp only [decide_eq_true_eq, decide_eq_false_iff_not, Bool.not_eq_true', Bool.not_eq_false', Bool.not_eq_true, Bool.not_eq_false] at hc2'
  refine WC.seq ?_
  refine WC.region ?_
  refine WL.u rfl rfl (Wt.plain rfl) (Ex.move rfl) ?_
  refine WL.u rfl rfl (Wt.plain rfl) (Ex.move rfl) ?_
  refine WL.u rfl rfl (Wt.plain rfl) (Ex.mul rfl rfl (by omega)) ?_
  refine WL.u rfl rfl (Wt.plain rfl) (Ex.move rfl) ?_
  refine WL.u rfl rfl (Wt.plain rfl) (Ex.add rfl rfl (by omega)) ?_
  refine WL.u rfl rfl (Wt.plain rfl) (Ex.lss rfl rfl) ?_
  refine WL.u rfl rfl (Wt.plain rfl) (Ex.assign rfl) ?_
  refine WL.next ?_
  refine WC.cond rfl (fun hc3 => ?_) (fun hc3 => ?_)
  · have hc3' := hc3; try simp only [decide_eq_true_eq, decide_eq_false_iff_not, Bool.not_eq_true', Bool.not_eq_false', Bool.not_eq_true, Bool.not_eq_false] at hc3'
    refine WC.seq ?_
    refine WC.region ?_
    refine WL.u rfl rfl (Wt.plain rfl) (Ex.move rfl) ?_
    refine WL.u rfl rfl (Wt.plain rfl) (Ex.sub rfl rfl (by omega)) ?_
    refine WL.u rfl rfl (Wt.plain rfl) (Ex.move rfl) ?_
    refine WL.u rfl rfl (Wt.plain rfl) (Ex.mul rfl rfl (by omega)) ?_
    refine WL.u rfl rfl (Wt.plain rfl) (Ex.move rfl) ?_
    refine WL.u rfl rfl (Wt.plain rfl) (Ex.add rfl rfl (by omega)) ?_
    refine WL.u rfl rfl (Wt.plain rfl) (Ex.sub rfl rfl (by omega)) ?_
    refine WL.u rfl rfl (Wt.plain rfl) (Ex.move rfl) ?_
    refine WL.u rfl rfl (Wt.plain rfl) (Ex.sub rfl rfl (by omega)) ?_
    refine WL.u rfl rfl (Wt.plain rfl) (Ex.assign rfl) ?_
    refine WL.u rfl rfl (Wt.plain rfl) (Ex.assign rfl) ?_
    refine WL.u rfl rfl (Wt.plain rfl) (Ex.assign rfl) ?_
    refine WL.next ?_
    refine WC.ret ?_
    refine WN.retBlock ?_
    refine WN.retThen ?_
    refine WN.body3 rfl rfl rfl rfl ?_
    have hx := hE.2.2.1 (by omega) (by omega)
    exact ⟨by rw [hx.1, hx.2.1, hx.2.2]; rfl, rfl⟩
  have hc3' := hc3; try simp only [decide_eq_true_eq, decide_eq_false_iff_not, Bool.not_eq_true', Bool.not_eq_false', Bool.not_eq_true, Bool.not_eq_false] at hc3'
  refine WC.skip ?_
  refine WN.normalBlock ?_
  refine WN.next ?_
  refine WC.seq ?_
  refine WC.region ?_
  refine WL.u rfl rfl (Wt.plain rfl) (Ex.move rfl) ?_
  refine WL.u rfl rfl (Wt.plain rfl) (Ex.move rfl) ?_
  refine WL.call callable28 rfl (Wt.plain rfl) rfl rfl (sl2Ports _ _ _ (by first | assumption | omega) (by first | assumption | omega)) ?_
  rintro _ _ ⟨rfl, hw⟩; obtain rfl := hw.symm
  refine WL.u rfl rfl (Wt.plain rfl) (Ex.sub rfl rfl (by omega)) ?_
  refine WL.u rfl rfl (Wt.plain rfl) (Ex.move rfl) ?_
  refine WL.u rfl rfl (Wt.plain rfl) (Ex.sub rfl rfl (by omega)) ?_
  refine WL.u rfl rfl (Wt.plain rfl) (Ex.assign rfl) ?_
  refine WL.u rfl rfl (Wt.plain rfl) (Ex.assign rfl) ?_
  refine WL.u rfl rfl (Wt.plain rfl) (Ex.assign rfl) ?_
  refine WL.next ?_
  refine WC.ret ?_
  refine WN.body3 rfl rfl rfl rfl ?_
  have hx := hE.2.2.2 (by omega)
  exact ⟨by rw [hx.1, hx.2.1, hx.2.2]; rfl, rfl⟩


structure CellF (g : Grid) (c : Nat) : Prop where
  c25 : c < 25
  r : c / (g.getD 0 []).length < g.length
  cc : c % (g.getD 0 []).length < (g.getD 0 []).length
  row : (g.getD (c / (g.getD 0 []).length) []).length = (g.getD 0 []).length
  ri : 0 ≤ (c : Int) / ((g.getD 0 []).length : Int) ∧ (c : Int) / ((g.getD 0 []).length : Int) < (g.length : Int)
  ci : 0 ≤ (c : Int) % ((g.getD 0 []).length : Int) ∧ (c : Int) % ((g.getD 0 []).length : Int) < ((g.getD 0 []).length : Int)
theorem cellF {g : Grid} (hG : GridOk g) {c : Nat} (h : c < nR g * nC g) : CellF g c := by
  have hn5 := hG.n5
  have hm5 := hG.m5
  have hm1 := hG.m1
  have h1 : c / (g.getD 0 []).length < g.length := Nat.div_lt_of_lt_mul (by rw [Nat.mul_comm]; exact h)
  have h2 : c % (g.getD 0 []).length < (g.getD 0 []).length := Nat.mod_lt _ hm1
  exact ⟨Nat.lt_of_lt_of_le h (Nat.mul_le_mul hn5 hm5), h1, h2, hG.row _ h1, ⟨Int.ediv_nonneg (by omega) (by omega), Int.ofNat_lt.2 h1⟩, ⟨Int.emod_nonneg _ (by omega), Int.ofNat_lt.2 h2⟩⟩

theorem sl2Way (g : Grid) (a : Option Addr) (cap p : Nat) (w : World) (hg : Sl rStr w a g) (hG : GridOk g) (hp : p < ports g) : Fn Try.prog 29 [.slice a g.length cap, vint p] w (fun v w1 => ∃ x y, v = .tuple #[x, y, vint (way g p).2] ∧ Keep [] w w1 ∧ New rNat 3 w w1 x ((way g p).1.map (·.1)) ∧ New rNat 3 w w1 y ((way g p).1.map (·.2))) := by
  refine Fn.enter (n := 68) Try.func29 rfl rfl rfl ?_
  show WC _ _ _ _ [(0, .slice a g.length cap), (1, vint p)] _
  have hH := Hp.start [] w
  obtain ⟨b, off, rfl⟩ := hg.addr (show 0 < g.length from hG.n1)
  have hz := hG.sz
  have hn1 := hG.n1
  have hn5 := hG.n5
  have hm1 := hG.m1
  have hm5 := hG.m5
  refine WC.seq ?_
  refine WC.region ?_
  refine WL.u rfl rfl (Wt.plain rfl) (Ex.assign rfl) ?_
  refine WL.u rfl rfl (Wt.plain rfl) (Ex.assign rfl) ?_
  refine WL.u rfl rfl (Wt.plain rfl) (Ex.assign rfl) ?_
  refine WL.next ?_
  refine WC.seq ?_
  refine WC.region ?_
  refine WL.u rfl rfl (Wt.plain rfl) (Ex.move rfl) ?_
  refine WL.u rfl rfl (Wt.plain rfl) (Ex.lenSl Try.underlying35 rfl) ?_
  refine WL.u rfl rfl (Wt.plain rfl) (Ex.assign rfl) ?_
  refine WL.next ?_
  refine WC.seq ?_
  refine WC.region ?_
  refine WL.u rfl rfl (Wt.plain rfl) (Ex.move rfl) ?_
  refine WL.u rfl rfl (Wt.plain rfl) (Ex.indexAddr Try.underlying35 ty9 rfl rfl (by omega)) ?_
  refine WL.u rfl rfl (Wt.plain rfl) (Ex.loadSl flat9 (hg.kept hH.keep) rfl rfl (getD_get g 0 [] (by omega))) ?_
  refine WL.u rfl rfl (Wt.plain rfl) (Ex.lenStr Try.underlying9 rfl) ?_
  refine WL.u rfl rfl (Wt.plain rfl) (Ex.assign rfl) ?_
  refine WL.next ?_
  refine WC.seq ?_
  refine WC.region ?_
  refine WL.lit0 Try.underlying22 ty3 rfl (Wt.plain rfl) hH (fun b21 wn hb21 hk21 hH => ?_)
  have ho21 := Own.nil rNat
  refine WL.u rfl rfl (Wt.plain rfl) (Ex.assign rfl) ?_
  refine WL.next ?_
  refine WC.seq ?_
  refine WC.region ?_
  refine WL.lit0 Try.underlying22 ty3 rfl (Wt.plain rfl) hH (fun b22 wn hb22 hk22 hH => ?_)
  have ho22 := Own.nil rNat
  refine WL.u rfl rfl (Wt.plain rfl) (Ex.assign rfl) ?_
  refine WL.next ?_
  refine WC.seq ?_
  refine WC.region ?_
  refine WL.u rfl rfl (Wt.plain rfl) (Ex.move rfl) ?_
  refine WL.u rfl rfl (Wt.plain rfl) (Ex.move rfl) ?_
  refine WL.u rfl rfl (Wt.plain rfl) (Ex.move rfl) ?_
  refine WL.call callable42 rfl (Wt.plain rfl) rfl rfl (sl2Enter _ _ p _ hz.n1 hz.n5 hz.m1 hz.m5 hp) ?_
  rintro _ _ ⟨rfl, hw⟩; obtain rfl := hw.symm
  refine WL.u rfl rfl (Wt.plain rfl) (Ex.move rfl) ?_
  refine WL.u rfl rfl (Wt.plain rfl) (Ex.extract rfl rfl) ?_
  refine WL.u rfl rfl (Wt.plain rfl) (Ex.extract rfl rfl) ?_
  refine WL.u rfl rfl (Wt.plain rfl) (Ex.extract rfl rfl) ?_
  refine WL.u rfl rfl (Wt.plain rfl) (Ex.assign rfl) ?_
  refine WL.u rfl rfl (Wt.plain rfl) (Ex.assign rfl) ?_
  refine WL.u rfl rfl (Wt.plain rfl) (Ex.assign rfl) ?_
  refine WL.next ?_
  refine WC.block ?_
  replace hH := hH.f1
  refine WC.loop (ι := Nat × Nat × (Array Value) × Nat × Nat × (Array Value) × (List (Nat × Nat)) × (List Nat) × (List Nat) × (Nat × Nat) × Nat) (fun (b21, cap21, cur21, b22, cap22, cur22, l, c, ds, s, f) => [(0, .slice (some ⟨b, off, none⟩) g.length cap), (7, vint g.length), (8, vint (g.getD 0 []).length), (9, vsl b21 c.length cap21), (10, vsl b22 ds.length cap22), (11, vint ((s.1 / (g.getD 0 []).length : Nat) : Int)), (12, vint ((s.1 % (g.getD 0 []).length : Nat) : Int)), (13, vint s.2)]) (fun (b21, cap21, cur21, b22, cap22, cur22, l, c, ds, s, f) wn => Hp [] w wn [(b21, .cells cur21 3 (0, 0)), (b22, .cells cur22 3 (0, 0))] ∧ Own rNat cur21 cap21 c ∧ Own rNat cur22 cap22 ds ∧ c = l.map (·.1) ∧ ds = l.map (·.2) ∧ BI g p l s (-1) f) (fun (b21, cap21, cur21, b22, cap22, cur22, l, c, ds, s, f) => f) ((b21, 0, #[], b22, 0, #[], [], [], [], enterN (nR g) (nC g) p, 4 * (nR g * nC g))) (by exact ⟨rfl, rfl, rfl, rfl, rfl, rfl, rfl, rfl, trivial⟩) ?_ ?_
  · exact ⟨hH, ho21, ho22, rfl, rfl, BI.start hG hp⟩
  rintro ⟨b21, cap21, cur21, b22, cap22, cur22, l, c, ds, s, f⟩ wn ⟨hH, ho21, ho22, hc, hds, hB⟩
  have hok := (hB.ok (by omega)).2.2
  have hl100 := hB.len hG
  have hF := cellF hG hok.cell
  obtain ⟨hc25, hrl, hcl, hrow, hdi, hmi⟩ := hF
  have hcl1 : c.length = l.length := by rw [hc, List.length_map]
  have hdl1 : ds.length = l.length := by rw [hds, List.length_map]
  have hb4 := bend_lt (letter g s.1) s.2 hok.d
  have hst := step_in hz hok rfl
  dsimp only [nR, nC] at hst
  have hmd : ((s.1 / (g.getD 0 []).length : Nat) : Int) * ((g.getD 0 []).length : Int) + ((s.1 % (g.getD 0 []).length : Nat) : Int) = (s.1 : Int) := by
    have := Nat.div_add_mod s.1 (g.getD 0 []).length
    have h2 : ((s.1 / (g.getD 0 []).length * (g.getD 0 []).length + s.1 % (g.getD 0 []).length : Nat) : Int) = (s.1 : Int) := by rw [Nat.mul_comm]; rw [this]
    exact h2
  have hmb := mulB ((s.1 / (g.getD 0 []).length : Nat) : Int) ((g.getD 0 []).length : Int) (by omega) (by omega)
  have hnn : ((s.1 / (g.getD 0 []).length : Nat) : Int) < 5 ∧ 0 ≤ ((s.1 / (g.getD 0 []).length : Nat) : Int) ∧ ((s.1 % (g.getD 0 []).length : Nat) : Int) < 5 ∧ 0 ≤ ((s.1 % (g.getD 0 []).length : Nat) : Int) := by omega
  intro mu0 hmu; try dsimp only at hmu
  show WC _ _ _ _ [(0, .slice (some ⟨b, off, none⟩) g.length cap), (7, vint g.length), (8, vint (g.getD 0 []).length), (9, vsl b21 c.length cap21), (10, vsl b22 ds.length cap22), (11, vint ((s.1 / (g.getD 0 []).length : Nat) : Int)), (12, vint ((s.1 % (g.getD 0 []).length : Nat) : Int)), (13, vint s.2)] _
  refine WC.block ?_
  refine WC.seq ?_
  refine WC.region ?_
  refine WL.u rfl rfl (Wt.plain rfl) (Ex.move rfl) ?_
  refine WL.u rfl rfl (Wt.plain rfl) (Ex.move rfl) ?_
  refine WL.u rfl rfl (Wt.plain rfl) (Ex.move rfl) ?_
  refine WL.u rfl rfl (Wt.plain rfl) (Ex.mul rfl rfl (by omega)) ?_
  refine WL.u rfl rfl (Wt.plain rfl) (Ex.move rfl) ?_
  refine WL.u rfl rfl (Wt.plain rfl) ((Ex.add rfl rfl (by omega)).to (congrArg vint hmd)) ?_
  refine WL.append1 (r := rNat) (u := s.1) Try.underlying22 ty3 rfl rfl (fun _ => rfl) (fun _ => rfl) rfl rfl (Wt.plain rfl) (fun _ => (Wt.plain rfl)) hH ho21 rfl (by omega) (by omega) (fun b21 cap21 cur21 wn x21 hb21 hk21 hH ho21 => ?_)
  refine WL.u rfl rfl (Wt.plain rfl) (Ex.assign rfl) ?_
  refine WL.next ?_
  refine WC.seq ?_
  refine WC.region ?_
  refine WL.u rfl rfl (Wt.plain rfl) (Ex.move rfl) ?_
  refine WL.u rfl rfl (Wt.plain rfl) (Ex.move rfl) ?_
  replace hH := hH.f1
  refine WL.append1 (r := rNat) (u := s.2) Try.underlying22 ty3 rfl rfl (fun _ => rfl) (fun _ => rfl) rfl rfl (Wt.plain rfl) (fun _ => (Wt.plain rfl)) hH ho22 rfl (by omega) (by omega) (fun b22 cap22 cur22 wn x22 hb22 hk22 hH ho22 => ?_)
  refine WL.u rfl rfl (Wt.plain rfl) (Ex.assign rfl) ?_
  refine WL.next ?_
  refine WC.seq ?_
  refine WC.region ?_
  refine WL.u rfl rfl (Wt.plain rfl) (Ex.move rfl) ?_
  refine WL.u rfl rfl (Wt.plain rfl) (Ex.move rfl) ?_
  refine WL.u rfl rfl (Wt.plain rfl) (Ex.indexAddr Try.underlying35 ty9 rfl rfl (by omega)) ?_
  refine WL.u rfl rfl (Wt.plain rfl) (Ex.loadSl flat9 (hg.kept hH.keep) rfl rfl (getD_get g (s.1 / (g.getD 0 []).length) [] hrl)) ?_
  refine WL.u rfl rfl (Wt.plain rfl) (Ex.move rfl) ?_
  refine WL.u rfl rfl (Wt.plain rfl) (Ex.indexStr Try.underlying9 rfl rfl (by (try simp only [List.length_cons, List.length_nil]); omega)) ?_
  refine WL.u rfl rfl (Wt.plain rfl) (Ex.move rfl) ?_
  refine WL.call callable43 rfl (Wt.plain rfl) rfl rfl (sl2Bend (letter g s.1) s.2 _ hok.d) ?_
  rintro _ _ ⟨rfl, hw⟩; obtain rfl := hw.symm
  refine WL.u rfl rfl (Wt.plain rfl) (Ex.assign rfl) ?_
  refine WL.next ?_
  refine WC.seq ?_
  refine WC.region ?_
  refine WL.u rfl rfl (Wt.plain rfl) (Ex.move rfl) ?_
  refine WL.u rfl rfl (Wt.plain rfl) (Ex.move rfl) ?_
  refine WL.u rfl rfl (Wt.plain rfl) (Ex.move rfl) ?_
  refine WL.call callable44 rfl (Wt.plain rfl) rfl rfl (sl2Step ((s.1 / (g.getD 0 []).length : Nat) : Int) ((s.1 % (g.getD 0 []).length : Nat) : Int) (bend (letter g s.1) s.2) _ (by omega) (by omega) hb4) ?_
  rintro _ _ ⟨rfl, hw⟩; obtain rfl := hw.symm
  refine WL.u rfl rfl (Wt.plain rfl) (Ex.move rfl) ?_
  refine WL.u rfl rfl (Wt.plain rfl) (Ex.extract rfl rfl) ?_
  refine WL.u rfl rfl (Wt.plain rfl) (Ex.extract rfl rfl) ?_
  refine WL.u rfl rfl (Wt.plain rfl) (Ex.assign rfl) ?_
  refine WL.u rfl rfl (Wt.plain rfl) (Ex.assign rfl) ?_
  refine WL.next ?_
  refine WC.seq ?_
  have hsb : -100 ≤ (stepI ((s.1 / (g.getD 0 []).length : Nat) : Int) ((s.1 % (g.getD 0 []).length : Nat) : Int) (bend (letter g s.1) s.2)).1 ∧ (stepI ((s.1 / (g.getD 0 []).length : Nat) : Int) ((s.1 % (g.getD 0 []).length : Nat) : Int) (bend (letter g s.1) s.2)).1 ≤ 100 ∧ -100 ≤ (stepI ((s.1 / (g.getD 0 []).length : Nat) : Int) ((s.1 % (g.getD 0 []).length : Nat) : Int) (bend (letter g s.1) s.2)).2 ∧ (stepI ((s.1 / (g.getD 0 []).length : Nat) : Int) ((s.1 % (g.getD 0 []).length : Nat) : Int) (bend (letter g s.1) s.2)).2 ≤ 100 := by
    unfold stepI; split
    · exact ⟨by dsimp only; omega, by dsimp only; omega, by dsimp only; omega, by dsimp only; omega⟩
    · split
      · exact ⟨by dsimp only; omega, by dsimp only; omega, by dsimp only; omega, by dsimp only; omega⟩
      · split
        · exact ⟨by dsimp only; omega, by dsimp only; omega, by dsimp only; omega, by dsimp only; omega⟩
        · exact ⟨by dsimp only; omega, by dsimp only; omega, by dsimp only; omega, by dsimp only; omega⟩
  refine WC.region ?_
  refine WL.u rfl rfl (Wt.plain rfl) (Ex.move rfl) ?_
  refine WL.u rfl rfl (Wt.plain rfl) (Ex.move rfl) ?_
  refine WL.u rfl rfl (Wt.plain rfl) (Ex.move rfl) ?_
  refine WL.u rfl rfl (Wt.plain rfl) (Ex.move rfl) ?_
  refine WL.call callable45 rfl (Wt.plain rfl) rfl rfl (sl2Leave g.length (g.getD 0 []).length _ _ _ (by omega) (by omega) ⟨hsb.1, hsb.2.1⟩ ⟨hsb.2.2.1, hsb.2.2.2⟩) ?_
  rintro _ _ ⟨rfl, hw⟩; obtain rfl := hw.symm
  refine WL.u rfl rfl (Wt.plain rfl) (Ex.assign rfl) ?_
  refine WL.next ?_
  refine WC.seq ?_
  refine WC.region ?_
  refine WL.u rfl rfl (Wt.plain rfl) (Ex.move rfl) ?_
  refine WL.u rfl rfl (Wt.plain rfl) (Ex.geq rfl rfl) ?_
  refine WL.next ?_
  refine WC.cond rfl (fun hc1 => ?_) (fun hc1 => ?_)
  · have hc1' := hc1; try simp only [decide_eq_true_eq, decide_eq_false_iff_not, Bool.not_eq_true', Bool.not_eq_false', Bool.not_eq_true, Bool.not_eq_false] at hc1'
    have hex : 0 ≤ ex g s := by have := hst.1; omega
    refine WC.seq ?_
    refine WC.region ?_
    refine WL.u rfl rfl (Wt.plain rfl) (Ex.move rfl) ?_
    refine WL.u rfl rfl (Wt.plain rfl) (Ex.move rfl) ?_
    refine WL.u rfl rfl (Wt.plain rfl) (Ex.move rfl) ?_
    refine WL.u rfl rfl (Wt.plain rfl) (Ex.assign rfl) ?_
    refine WL.u rfl rfl (Wt.plain rfl) (Ex.assign rfl) ?_
    refine WL.u rfl rfl (Wt.plain rfl) (Ex.assign rfl) ?_
    refine WL.next ?_
    refine WC.ret ?_
    refine WN.retBlock ?_
    refine WN.retThen ?_
    refine WN.retBlock ?_
    refine WN.body3 rfl rfl rfl rfl ?_
    have hB2 := (hB.step hG (by omega)).1
    have hd := hB2.done (by omega)
    have e1 : (way g p).1.map (·.1) = c ++ [s.1] := by rw [hd.2, hc]; simp
    have e2 : (way g p).1.map (·.2) = ds ++ [s.2] := by rw [hd.2, hds]; simp
    exact ⟨_, _, by rw [hd.1, ← hst.1], hH.keep, by rw [e1]; exact New.of hH.f1 ho21 (hH.base 1 rfl), by rw [e2]; exact New.of hH ho22 (hH.base 0 rfl)⟩
  have hc1' := hc1; try simp only [decide_eq_true_eq, decide_eq_false_iff_not, Bool.not_eq_true', Bool.not_eq_false', Bool.not_eq_true, Bool.not_eq_false] at hc1'
  have hex : ex g s < 0 := by have := hst.1; omega
  have hst2 := hst.2 hex
  have hex1 : ex g s = -1 := by have hB2 := (hB.step hG (by omega)).1; exact (hB2.ok hex).1
  refine WC.skip ?_
  refine WN.normalBlock ?_
  replace hH := hH.f1
  refine WN.round (b21, cap21, cur21, b22, cap22, cur22, l ++ [s], c ++ [s.1], ds ++ [s.2], nx g s, nf g s f) (by exact ⟨rfl, rfl, rfl, rfl, rfl, congrArg (fun x => some (vint x)) hst2.1, congrArg (fun x => some (vint x)) hst2.2.1, congrArg (fun x : Nat => some (vint x)) hst2.2.2.symm, trivial⟩) ?_ ?_
  · have hB2 := (hB.step hG (by omega)).1
    rw [hex1] at hB2
    exact ⟨hH, ho21, ho22, by simp [hc], by simp [hds], hB2⟩
  · have := (hB.step hG (by omega)).2; dsimp only; omega

end Go.Proofs.Ytmlkabddhdkpaaa

/- What the laws' own helpers do with lists of strings. -/
namespace Go.Proofs.Ytmlkabddhdkpaaa
set_option maxRecDepth 100000
set_option linter.unusedSimpArgs false
set_option linter.unusedVariables false
open Go Go.RowKit

theorem Short.le {g : Grid} (h : ∀ i, (g.getD i []).length ≤ 1048576) : Short g := fun i => by have := h i; omega
theorem set_step {g l : Grid} {i : Nat} (hi : i < g.length) (hl : l.length = g.length) (h : ∀ j, j < i → l.getD j [] = g.getD j []) : ∀ j, j < i + 1 → (l.set i (g.getD i [])).getD j [] = g.getD j [] := fun j hj => by
  rw [List.getD_eq_getElem?_getD, List.getElem?_set]
  by_cases e : i = j
  · subst e; simp [hl, hi]
  · rw [if_neg e, ← List.getD_eq_getElem?_getD]; exact h j (by omega)
theorem ext_getD {g l : Grid} (hl : l.length = g.length) (h : ∀ j, j < g.length → l.getD j [] = g.getD j []) : l = g := by
  apply List.ext_getElem hl
  intro j h1 h2
  have := h j h2
  rw [List.getD_eq_getElem?_getD, List.getD_eq_getElem?_getD, List.getElem?_eq_getElem h1, List.getElem?_eq_getElem h2] at this
  simpa using this

end Go.Proofs.Ytmlkabddhdkpaaa
