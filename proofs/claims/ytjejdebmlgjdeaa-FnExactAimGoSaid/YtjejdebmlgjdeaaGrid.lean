/- Is it a grid: the program's word and the reference's. -/
import Derived.Test.YtjejdebmlgjdeaaPure
namespace Go.Proofs.Ytjejdebmlgjdeaa
set_option maxRecDepth 100000
set_option linter.unusedSimpArgs false
set_option linter.unusedVariables false
open Go Go.RowKit

theorem getD_get {α : Type} (l : List α) (i : Nat) (d : α) (h : i < l.length) : l[i]? = some (l.getD i d) := by
  simp [List.getD_eq_getElem?_getD, List.getElem?_eq_getElem h]

/-- every string is as long as strings may be -/
def Short (g : Grid) : Prop := ∀ i, ((g.getD i []).length : Int) ≤ 9223372036854775807
structure GridOk (g : Grid) : Prop where
  n1 : 1 ≤ g.length
  n5 : g.length ≤ 5
  m1 : 1 ≤ (g.getD 0 []).length
  m5 : (g.getD 0 []).length ≤ 5
  row : ∀ i, i < g.length → (g.getD i []).length = (g.getD 0 []).length
  ok : ∀ i, i < g.length → ∀ j, j < (g.getD 0 []).length → okL ((g.getD i []).getD j 0) = true

theorem rowOk_iff (m : Nat) (r : Str) : rowOk m r = true ↔ r.length = m ∧ ∀ j, j < r.length → okL (r.getD j 0) = true := by
  simp only [rowOk, Bool.and_eq_true, beq_iff_eq, List.all_eq_true]
  constructor
  · rintro ⟨h1, h2⟩
    exact ⟨h1, fun j hj => h2 _ (List.mem_of_getElem? (getD_get r j 0 hj))⟩
  · rintro ⟨h1, h2⟩
    refine ⟨h1, fun x hx => ?_⟩
    obtain ⟨j, hj, rfl⟩ := List.getElem_of_mem hx
    have := h2 j hj
    rwa [List.getD_eq_getElem?_getD, List.getElem?_eq_getElem hj, Option.getD_some] at this

theorem gridOk_iff (g : Grid) : gridIn g = true ↔ GridOk g := by
  simp only [gridIn, Bool.and_eq_true, decide_eq_true_eq, List.all_eq_true]
  constructor
  · rintro ⟨⟨⟨⟨h1, h2⟩, h3⟩, h4⟩, h5⟩
    have key : ∀ i, i < g.length → rowOk (g.getD 0 []).length (g.getD i []) = true := fun i hi => h5 _ (List.mem_of_getElem? (getD_get g i [] hi))
    refine ⟨h1, h2, h3, h4, fun i hi => ((rowOk_iff _ _).1 (key i hi)).1, fun i hi j hj => ?_⟩
    have := (rowOk_iff _ _).1 (key i hi)
    exact this.2 j (by omega)
  · rintro ⟨h1, h2, h3, h4, h5, h6⟩
    refine ⟨⟨⟨⟨h1, h2⟩, h3⟩, h4⟩, fun x hx => ?_⟩
    obtain ⟨j, hj, rfl⟩ := List.getElem_of_mem hx
    have e : g[j] = g.getD j [] := by rw [List.getD_eq_getElem?_getD, List.getElem?_eq_getElem hj, Option.getD_some]
    rw [e, rowOk_iff]
    exact ⟨h5 j hj, fun k hk => h6 j hj k (by rw [← h5 j hj]; exact hk)⟩

theorem gridIn_false {g : Grid} (h : ¬ GridOk g) : gridIn g = false := by
  cases e : gridIn g
  · rfl
  · exact absurd ((gridOk_iff g).1 e) h
theorem gridIn_true {g : Grid} (h : GridOk g) : gridIn g = true := (gridOk_iff g).2 h
theorem gridIn_iff {g : Grid} {b : Bool} (h : b = true ↔ GridOk g) : b = gridIn g := by
  rw [Bool.eq_iff_iff, h, gridOk_iff]

theorem iGridIn (g : Grid) (a : Option Addr) (cap : Nat) (w : World) (hg : Sl rStr w a g) (hs : Short g) : Fn Try.prog 76 [.slice a g.length cap] w (fun v w1 => v = .bool (gridIn g) ∧ w1 = w) := by
  refine Fn.enter (n := 40) Try.func76 rfl rfl rfl ?_
  show WC _ _ _ _ [(0, .slice a g.length cap)] _
  have hm := hg.1
  refine WC.seq ?_
  refine WC.region ?_
  refine WL.u rfl rfl (Wt.plain rfl) (Ex.assign rfl) ?_
  refine WL.next ?_
  refine WC.seq ?_
  refine WC.seq ?_
  refine WC.region ?_
  refine WL.u rfl rfl (Wt.plain rfl) (Ex.move rfl) ?_
  refine WL.u rfl rfl (Wt.plain rfl) (Ex.lenSl Try.underlying22 rfl) ?_
  refine WL.call callable91 rfl (Wt.plain rfl) rfl rfl (iwithin _ _ _ _) ?_
  rintro _ _ ⟨rfl, hw⟩; obtain rfl := hw.symm
  refine WL.u rfl rfl (Wt.plain rfl) (Ex.not rfl) ?_
  refine WL.next ?_
  refine WC.cond rfl (fun hc1 => ?_) (fun hc1 => ?_)
  · have hc1' := hc1; try simp only [decide_eq_true_eq, decide_eq_false_iff_not, Bool.not_eq_true', Bool.not_eq_false', Bool.not_eq_true, Bool.not_eq_false] at hc1'
    refine WC.seq ?_
    refine WC.region ?_
    refine WL.u rfl rfl (Wt.plain rfl) (Ex.assign rfl) ?_
    refine WL.next ?_
    refine WC.ret ?_
    refine WN.retThen ?_
    refine WN.body1 rfl rfl ?_
    exact ⟨by rw [gridIn_false]; intro h; have := h.n1; have := h.n5; simp at hc1; omega, rfl⟩
  have hl : 1 ≤ g.length ∧ g.length ≤ 5 := by simp at hc1; omega
  obtain ⟨b, off, rfl⟩ := hg.addr (by omega)
  refine WC.skip ?_
  refine WN.next ?_
  refine WC.seq ?_
  refine WC.seq ?_
  refine WC.region ?_
  refine WL.u rfl rfl (Wt.plain rfl) (Ex.move rfl) ?_
  refine WL.u rfl rfl (Wt.plain rfl) (Ex.lenSl Try.underlying22 rfl) ?_
  refine WL.u rfl rfl (Wt.plain rfl) (Ex.move rfl) ?_
  refine WL.next ?_
  refine WC.block ?_
  refine WC.loop (ι := Nat) (fun i => [(0, .slice (some ⟨b, off, none⟩) g.length cap), (10, .slice (some ⟨b, off, none⟩) g.length cap), (11, vint g.length), (12, vint i)]) (fun i w2 => w = w2 ∧ i ≤ g.length ∧ (∀ j, j < i → (g.getD j []).length = (g.getD 0 []).length ∧ ∀ k, k < (g.getD j []).length → okL ((g.getD j []).getD k 0) = true)) (fun i => g.length - i) (0) (by exact ⟨rfl, rfl, rfl, rfl, trivial⟩) ?_ ?_
  · exact ⟨rfl, by omega, fun j hj => by omega⟩
  rintro i w2 ⟨rfl, hi, hI⟩
  intro mu0 hmu; try dsimp only at hmu
  refine WC.seq ?_
  refine WC.region ?_
  refine WL.u rfl rfl (Wt.plain rfl) (Ex.lss rfl rfl) ?_
  refine WL.next ?_
  refine WC.seq ?_
  refine WC.cond rfl (fun hc2 => ?_) (fun hc2 => ?_)
  · have hc2' := hc2; try simp only [decide_eq_true_eq, decide_eq_false_iff_not, Bool.not_eq_true', Bool.not_eq_false', Bool.not_eq_true, Bool.not_eq_false] at hc2'
    refine WC.skip ?_
    refine WN.next ?_
    refine WC.seq ?_
    refine WC.block ?_
    refine WC.seq ?_
    have hlt : i < g.length := by simpa using hc2
    refine WC.region ?_
    refine WL.u rfl rfl (Wt.plain rfl) (Ex.indexAddr Try.underlying22 ty9 rfl rfl (by omega)) ?_
    refine WL.u rfl rfl (Wt.plain rfl) (Ex.loadSl flat9 hg rfl rfl (getD_get g i [] (by omega))) ?_
    refine WL.u rfl rfl (Wt.plain rfl) (Ex.assign rfl) ?_
    refine WL.next ?_
    refine WC.seq ?_
    refine WC.seq ?_
    refine WC.region ?_
    refine WL.u rfl rfl (Wt.plain rfl) (Ex.move rfl) ?_
    refine WL.u rfl rfl (Wt.plain rfl) (Ex.lenStr Try.underlying9 rfl) ?_
    refine WL.u rfl rfl (Wt.plain rfl) (Ex.move rfl) ?_
    refine WL.u rfl rfl (Wt.plain rfl) (Ex.indexAddr Try.underlying22 ty9 rfl rfl (by omega)) ?_
    refine WL.u rfl rfl (Wt.plain rfl) (Ex.loadSl flat9 hg rfl rfl (getD_get g 0 [] (by omega))) ?_
    refine WL.u rfl rfl (Wt.plain rfl) (Ex.lenStr Try.underlying9 rfl) ?_
    refine WL.u rfl rfl (Wt.plain rfl) (Ex.neq rfl rfl) ?_
    refine WL.next ?_
    refine WC.cond rfl (fun hc3 => ?_) (fun hc3 => ?_)
    · have hne : (g.getD i []).length ≠ (g.getD 0 []).length := by have h0 := of_decide_eq_true hc3; intro h; exact h0 (congrArg _ h)
      refine WC.seq ?_
      refine WC.region ?_
      refine WL.u rfl rfl (Wt.plain rfl) (Ex.assign rfl) ?_
      refine WL.next ?_
      refine WC.ret ?_
      refine WN.retThen ?_
      refine WN.retBlock ?_
      refine WN.retThen ?_
      refine WN.retThen ?_
      refine WN.retBlock ?_
      refine WN.retThen ?_
      refine WN.body1 rfl rfl ?_
      exact ⟨by rw [gridIn_false]; intro h; exact hne (h.row i hlt), rfl⟩
    have he : (g.getD i []).length = (g.getD 0 []).length := by have h0 := of_decide_eq_false hc3; exact Int.ofNat.inj (Classical.not_not.1 h0)
    refine WC.skip ?_
    refine WN.next ?_
    refine WC.seq ?_
    refine WC.region ?_
    refine WL.u rfl rfl (Wt.plain rfl) (Ex.move rfl) ?_
    refine WL.u rfl rfl (Wt.plain rfl) (Ex.lenStr Try.underlying9 rfl) ?_
    refine WL.u rfl rfl (Wt.plain rfl) (Ex.move rfl) ?_
    refine WL.next ?_
    refine WC.block ?_
    refine WC.loop (ι := Nat) (fun k => [(0, .slice (some ⟨b, off, none⟩) g.length cap), (10, .slice (some ⟨b, off, none⟩) g.length cap), (11, vint g.length), (12, vint i), (4, vstr (g.getD i [])), (24, vint (g.getD i []).length), (25, vint k)]) (fun k w3 => w = w3 ∧ k ≤ (g.getD i []).length ∧ ∀ q, q < k → okL ((g.getD i []).getD q 0) = true) (fun k => (g.getD i []).length - k) (0) (by exact ⟨rfl, rfl, rfl, rfl, rfl, rfl, rfl, trivial⟩) ?_ ?_
    · exact ⟨rfl, by omega, fun j hj => by omega⟩
    rintro k w3 ⟨rfl, hk, hK⟩
    intro mu0 hmu; try dsimp only at hmu
    refine WC.seq ?_
    refine WC.region ?_
    refine WL.u rfl rfl (Wt.plain rfl) (Ex.lss rfl rfl) ?_
    refine WL.next ?_
    refine WC.seq ?_
    refine WC.cond rfl (fun hc4 => ?_) (fun hc4 => ?_)
    · have hc4' := hc4; try simp only [decide_eq_true_eq, decide_eq_false_iff_not, Bool.not_eq_true', Bool.not_eq_false', Bool.not_eq_true, Bool.not_eq_false] at hc4'
      refine WC.skip ?_
      refine WN.next ?_
      refine WC.seq ?_
      refine WC.block ?_
      refine WC.seq ?_
      have hsi := hs i
      have hklt : k < (g.getD i []).length := by simpa using hc4
      refine WC.region ?_
      refine WL.u rfl rfl (Wt.plain rfl) (Ex.move rfl) ?_
      refine WL.u rfl rfl (Wt.plain rfl) (Ex.assign rfl) ?_
      refine WL.next ?_
      refine WC.seq ?_
      refine WC.region ?_
      refine WL.u rfl rfl (Wt.plain rfl) (Ex.move rfl) ?_
      refine WL.u rfl rfl (Wt.plain rfl) (Ex.move rfl) ?_
      refine WL.u rfl rfl (Wt.plain rfl) (Ex.indexStr Try.underlying9 rfl rfl (by (try simp only [List.length_cons, List.length_nil]); omega)) ?_
      refine WL.call callable107 rfl (Wt.plain rfl) rfl rfl (iletterOk _ _) ?_
      rintro _ _ ⟨rfl, hw⟩; obtain rfl := hw.symm
      refine WL.u rfl rfl (Wt.plain rfl) (Ex.not rfl) ?_
      refine WL.next ?_
      refine WC.cond rfl (fun hc5 => ?_) (fun hc5 => ?_)
      · have hc5' := hc5; try simp only [decide_eq_true_eq, decide_eq_false_iff_not, Bool.not_eq_true', Bool.not_eq_false', Bool.not_eq_true, Bool.not_eq_false] at hc5'
        refine WC.seq ?_
        refine WC.region ?_
        refine WL.u rfl rfl (Wt.plain rfl) (Ex.assign rfl) ?_
        refine WL.next ?_
        refine WC.ret ?_
        refine WN.retBlock ?_
        refine WN.retThen ?_
        refine WN.retThen ?_
        refine WN.retBlock ?_
        refine WN.retBlock ?_
        refine WN.retThen ?_
        refine WN.retThen ?_
        refine WN.retBlock ?_
        refine WN.retThen ?_
        refine WN.body1 rfl rfl ?_
        exact ⟨by rw [gridIn_false]; intro h; have h1 := h.ok i hlt k (by omega); simp at hc5; simp [hc5] at h1, rfl⟩
      have hc5' := hc5; try simp only [decide_eq_true_eq, decide_eq_false_iff_not, Bool.not_eq_true', Bool.not_eq_false', Bool.not_eq_true, Bool.not_eq_false] at hc5'
      refine WC.skip ?_
      refine WN.normalBlock ?_
      refine WN.next ?_
      refine WC.region ?_
      refine WL.u rfl rfl (Wt.plain rfl) (Ex.add rfl rfl (by omega)) ?_
      refine WL.u rfl rfl (Wt.plain rfl) (Ex.move rfl) ?_
      refine WL.last ?_
      refine WN.round (k + 1) ⟨rfl, rfl, rfl, rfl, rfl, rfl, rfl, trivial⟩ ⟨rfl, by omega, fun q hq => ?_⟩ (by omega)
      rcases Nat.lt_succ_iff_lt_or_eq.1 hq with h | rfl
      · exact hK q h
      · simpa using hc5
    have hc4' := hc4; try simp only [decide_eq_true_eq, decide_eq_false_iff_not, Bool.not_eq_true', Bool.not_eq_false', Bool.not_eq_true, Bool.not_eq_false] at hc4'
    refine WC.exit ?_
    refine WN.exitThen ?_
    refine WN.exitThen ?_
    refine WN.exitHere ?_
    refine WN.normalBlock ?_
    refine WN.next ?_
    refine WC.region ?_
    refine WL.u rfl rfl (Wt.plain rfl) (Ex.add rfl rfl (by omega)) ?_
    refine WL.u rfl rfl (Wt.plain rfl) (Ex.move rfl) ?_
    refine WL.last ?_
    have hkeq : k = (g.getD i []).length := by have := hc4; simp at this; omega
    subst hkeq
    refine WN.round (i + 1) ⟨rfl, rfl, rfl, rfl, trivial⟩ ⟨rfl, by omega, fun j hj => ?_⟩ (by omega)
    rcases Nat.lt_succ_iff_lt_or_eq.1 hj with h | rfl
    · exact hI j h
    · exact ⟨he, hK⟩
  have hc2' := hc2; try simp only [decide_eq_true_eq, decide_eq_false_iff_not, Bool.not_eq_true', Bool.not_eq_false', Bool.not_eq_true, Bool.not_eq_false] at hc2'
  refine WC.exit ?_
  refine WN.exitThen ?_
  refine WN.exitThen ?_
  refine WN.exitHere ?_
  refine WN.next ?_
  refine WC.seq ?_
  have hieq : i = g.length := by have := hc2; simp at this; omega
  subst hieq
  refine WC.region ?_
  refine WL.u rfl rfl (Wt.plain rfl) (Ex.move rfl) ?_
  refine WL.u rfl rfl (Wt.plain rfl) (Ex.indexAddr Try.underlying22 ty9 rfl rfl (by omega)) ?_
  refine WL.u rfl rfl (Wt.plain rfl) (Ex.loadSl flat9 hg rfl rfl (getD_get g 0 [] (by omega))) ?_
  refine WL.u rfl rfl (Wt.plain rfl) (Ex.lenStr Try.underlying9 rfl) ?_
  refine WL.call callable91 rfl (Wt.plain rfl) rfl rfl (iwithin _ _ _ _) ?_
  rintro _ _ ⟨rfl, hw⟩; obtain rfl := hw.symm
  refine WL.u rfl rfl (Wt.plain rfl) (Ex.assign rfl) ?_
  refine WL.next ?_
  refine WC.ret ?_
  refine WN.body1 rfl rfl ?_
  refine ⟨congrArg Value.bool (gridIn_iff ?_), rfl⟩
  rw [decide_eq_true_eq]
  constructor
  · intro h
    exact ⟨by omega, by omega, by omega, by omega, fun j hj => (hI j hj).1, fun j hj k hk => (hI j hj).2 k (by rw [(hI j hj).1]; exact hk)⟩
  · intro h
    have := h.m1
    have := h.m5
    omega

theorem sGridIn (g : Grid) (a : Option Addr) (cap : Nat) (w : World) (hg : Sl rStr w a g) (hs : Short g) : Fn Try.prog 113 [.slice a g.length cap] w (fun v w1 => v = .bool (gridIn g) ∧ Dr w w1) := by
  refine Fn.enter (n := 50) Try.func113 rfl rfl rfl ?_
  show WC _ _ _ _ [(0, .slice a g.length cap)] _
  have hm := hg.1
  have hD := Dr.refl w
  refine WC.seq ?_
  refine WC.region ?_
  refine WL.u rfl rfl (Wt.plain rfl) (Ex.assign rfl) ?_
  refine WL.next ?_
  refine WC.seq ?_
  refine WC.seq ?_
  refine WC.region ?_
  refine WL.u rfl rfl (Wt.plain rfl) (Ex.assign rfl) ?_
  refine WL.next ?_
  refine WC.block ?_
  refine WC.loop (ι := Nat) (fun i => [(0, .slice a g.length cap), (3, vint i)]) (fun i w2 => Dr w w2 ∧ i ≤ g.length ∧ (∀ j, j < i → (g.getD j []).length = (g.getD 0 []).length ∧ 1 ≤ (g.getD j []).length ∧ (g.getD j []).length ≤ 5 ∧ ∀ k, k < (g.getD j []).length → okL ((g.getD j []).getD k 0) = true)) (fun i => g.length - i) (0) (by exact ⟨rfl, rfl, trivial⟩) ?_ ?_
  · exact ⟨hD, by omega, fun j hj => by omega⟩
  rintro i w2 ⟨hD, hi, hI⟩
  intro mu0 hmu; try dsimp only at hmu
  refine WC.seq ?_
  refine WC.seq ?_
  refine WC.region ?_
  refine WL.u rfl rfl (Wt.plain rfl) (Ex.move rfl) ?_
  refine WL.u rfl rfl (Wt.plain rfl) (Ex.move rfl) ?_
  refine WL.u rfl rfl (Wt.plain rfl) (Ex.lenSl Try.underlying22 rfl) ?_
  refine WL.u rfl rfl (Wt.plain rfl) (Ex.lss rfl rfl) ?_
  refine WL.next ?_
  refine WC.cond rfl (fun hc1 => ?_) (fun hc1 => ?_)
  · have hlt : i < g.length := by simpa using hc1
    have hsi := hs i
    obtain ⟨b, off, rfl⟩ := hg.addr (by omega)
    refine WC.skip ?_
    refine WN.next ?_
    refine WC.seq ?_
    refine WC.block ?_
    refine WC.seq ?_
    refine WC.seq ?_
    refine WC.quiet rfl (by kernel_rfl) ?_
    refine WQ.u rfl rfl (Wt.plain rfl) (fun w hC => Ex.move rfl) ?_
    refine WQ.u rfl rfl (Wt.plain rfl) (fun w hC => Ex.move rfl) ?_
    refine WQ.u rfl rfl (Wt.plain rfl) (fun w hC => Ex.indexAddr Try.underlying22 ty9 rfl rfl (by omega)) ?_
    refine WQ.u rfl rfl (Wt.plain rfl) (fun w hC => Ex.loadSl flat9 (hg.dr (hD.trans hC)) rfl rfl (getD_get g i [] (by omega))) ?_
    refine WQ.u rfl rfl (Wt.plain rfl) (fun w hC => Ex.lenStr Try.underlying9 rfl) ?_
    refine WQ.u rfl rfl (Wt.plain rfl) (fun w hC => Ex.move rfl) ?_
    refine WQ.u rfl rfl (Wt.plain rfl) (fun w hC => Ex.indexAddr Try.underlying22 ty9 rfl rfl (by omega)) ?_
    refine WQ.u rfl rfl (Wt.plain rfl) (fun w hC => Ex.loadSl flat9 (hg.dr (hD.trans hC)) rfl rfl (getD_get g 0 [] (by omega))) ?_
    refine WQ.u rfl rfl (Wt.plain rfl) (fun w hC => Ex.lenStr Try.underlying9 rfl) ?_
    refine WQ.u rfl rfl (Wt.plain rfl) (fun w hC => Ex.neq rfl rfl) ?_
    refine WQ.u rfl rfl (Wt.plain rfl) (fun w hC => Ex.move rfl) ?_
    refine WQ.split (t := 21) rfl (fun hg4_10 => ?_) (fun hg4_10 => ?_)
    · have hne : (g.getD i []).length ≠ (g.getD 0 []).length := by have h0 := of_decide_eq_true hg4_10; intro h; exact h0 (congrArg _ h)
      refine WQ.pass rfl rfl (Wt.guard' rfl rfl rfl hg4_10 rfl) ?_
      refine WQ.pass rfl rfl (Wt.guard' rfl rfl rfl hg4_10 rfl) ?_
      refine WQ.pass rfl rfl (Wt.guard' rfl rfl rfl hg4_10 rfl) ?_
      refine WQ.pass rfl rfl (Wt.guard' rfl rfl rfl hg4_10 rfl) ?_
      refine WQ.pass rfl rfl (Wt.guard' rfl rfl rfl hg4_10 rfl) ?_
      refine WQ.pass rfl rfl (Wt.guard' rfl rfl rfl hg4_10 rfl) ?_
      refine WQ.pass rfl rfl (Wt.guard' rfl rfl rfl hg4_10 rfl) ?_
      refine WQ.u rfl rfl (Wt.plain rfl) (fun w hC => Ex.pickT rfl hg4_10 rfl) ?_
      refine WQ.nil ?_
      intro wn hC; replace hD := hD.trans hC; clear hC
      refine WN.next ?_
      refine WC.condT rfl rfl ?_
      refine WC.seq ?_
      refine WC.region ?_
      refine WL.u rfl rfl (Wt.plain rfl) (Ex.assign rfl) ?_
      refine WL.next ?_
      refine WC.ret ?_
      refine WN.retThen ?_
      refine WN.retBlock ?_
      refine WN.retThen ?_
      refine WN.retThen ?_
      refine WN.retBlock ?_
      refine WN.retThen ?_
      refine WN.body1 rfl rfl ?_
      exact ⟨by rw [gridIn_false]; intro h; first | exact hne (h.row i hlt) | (have h1 := h.row i hlt; have h2 := h.m1; have h3 := h.m5; omega), hD⟩
    have he : (g.getD i []).length = (g.getD 0 []).length := by have h0 := of_decide_eq_false hg4_10; exact Int.ofNat.inj (Classical.not_not.1 h0)
    refine WQ.u rfl rfl (Wt.guard' rfl rfl rfl hg4_10 rfl) (fun w hC => Ex.move rfl) ?_
    refine WQ.u rfl rfl (Wt.guard' rfl rfl rfl hg4_10 rfl) (fun w hC => Ex.move rfl) ?_
    refine WQ.u rfl rfl (Wt.guard' rfl rfl rfl hg4_10 rfl) (fun w hC => Ex.indexAddr Try.underlying22 ty9 rfl rfl (by omega)) ?_
    refine WQ.u rfl rfl (Wt.guard' rfl rfl rfl hg4_10 rfl) (fun w hC => Ex.loadSl flat9 (hg.dr (hD.trans hC)) rfl rfl (getD_get g i [] (by omega))) ?_
    refine WQ.u rfl rfl (Wt.guard' rfl rfl rfl hg4_10 rfl) (fun w hC => Ex.lenStr Try.underlying9 rfl) ?_
    refine WQ.call callable51 rfl (Wt.guard' rfl rfl rfl hg4_10 rfl) rfl rfl (fun w hC => Fn.e hC (sl6In _ _ _ _)) ?_
    refine WQ.u rfl rfl (Wt.guard' rfl rfl rfl hg4_10 rfl) (fun w hC => Ex.not rfl) ?_
    refine WQ.u rfl rfl (Wt.plain rfl) (fun w hC => Ex.pickF rfl hg4_10 rfl) ?_
    refine WQ.nil ?_
    intro wn hC; replace hD := hD.trans hC; clear hC
    refine WN.next ?_
    refine WC.cond rfl (fun hc2 => ?_) (fun hc2 => ?_)
    · have hc2' := hc2; try simp only [decide_eq_true_eq, decide_eq_false_iff_not, Bool.not_eq_true', Bool.not_eq_false', Bool.not_eq_true, Bool.not_eq_false] at hc2'
      refine WC.seq ?_
      refine WC.region ?_
      refine WL.u rfl rfl (Wt.plain rfl) (Ex.assign rfl) ?_
      refine WL.next ?_
      refine WC.ret ?_
      refine WN.retThen ?_
      refine WN.retBlock ?_
      refine WN.retThen ?_
      refine WN.retThen ?_
      refine WN.retBlock ?_
      refine WN.retThen ?_
      refine WN.body1 rfl rfl ?_
      exact ⟨by rw [gridIn_false]; intro h; first | exact hne (h.row i hlt) | (have h1 := h.row i hlt; have h2 := h.m1; have h3 := h.m5; omega), hD⟩
    have hc2' := hc2; try simp only [decide_eq_true_eq, decide_eq_false_iff_not, Bool.not_eq_true', Bool.not_eq_false', Bool.not_eq_true, Bool.not_eq_false] at hc2'
    have hri : 1 ≤ (g.getD i []).length ∧ (g.getD i []).length ≤ 5 := by omega
    refine WC.skip ?_
    refine WN.next ?_
    refine WC.seq ?_
    refine WC.region ?_
    refine WL.u rfl rfl (Wt.plain rfl) (Ex.assign rfl) ?_
    refine WL.next ?_
    refine WC.block ?_
    refine WC.loop (ι := Nat) (fun k => [(0, .slice (some ⟨b, off, none⟩) g.length cap), (3, vint i), (4, vint k)]) (fun k w3 => Dr w w3 ∧ k ≤ (g.getD i []).length ∧ ∀ q, q < k → okL ((g.getD i []).getD q 0) = true) (fun k => (g.getD i []).length - k) (0) (by exact ⟨rfl, rfl, rfl, trivial⟩) ?_ ?_
    · exact ⟨hD, by omega, fun j hj => by omega⟩
    rintro k w3 ⟨hD, hk, hK⟩
    intro mu0 hmu; try dsimp only at hmu
    refine WC.seq ?_
    refine WC.seq ?_
    refine WC.region ?_
    refine WL.u rfl rfl (Wt.plain rfl) (Ex.move rfl) ?_
    refine WL.u rfl rfl (Wt.plain rfl) (Ex.move rfl) ?_
    refine WL.u rfl rfl (Wt.plain rfl) (Ex.move rfl) ?_
    refine WL.u rfl rfl (Wt.plain rfl) (Ex.indexAddr Try.underlying22 ty9 rfl rfl (by omega)) ?_
    refine WL.u rfl rfl (Wt.plain rfl) (Ex.loadSl flat9 (hg.dr hD) rfl rfl (getD_get g i [] (by omega))) ?_
    refine WL.u rfl rfl (Wt.plain rfl) (Ex.lenStr Try.underlying9 rfl) ?_
    refine WL.u rfl rfl (Wt.plain rfl) (Ex.lss rfl rfl) ?_
    refine WL.next ?_
    refine WC.cond rfl (fun hc3 => ?_) (fun hc3 => ?_)
    · have hc3' := hc3; try simp only [decide_eq_true_eq, decide_eq_false_iff_not, Bool.not_eq_true', Bool.not_eq_false', Bool.not_eq_true, Bool.not_eq_false] at hc3'
      have hklt : k < (g.getD i []).length := by omega
      refine WC.skip ?_
      refine WN.next ?_
      refine WC.seq ?_
      refine WC.block ?_
      refine WC.seq ?_
      refine WC.region ?_
      refine WL.u rfl rfl (Wt.plain rfl) (Ex.move rfl) ?_
      refine WL.u rfl rfl (Wt.plain rfl) (Ex.move rfl) ?_
      refine WL.u rfl rfl (Wt.plain rfl) (Ex.indexAddr Try.underlying22 ty9 rfl rfl (by omega)) ?_
      refine WL.u rfl rfl (Wt.plain rfl) (Ex.loadSl flat9 (hg.dr hD) rfl rfl (getD_get g i [] (by omega))) ?_
      refine WL.u rfl rfl (Wt.plain rfl) (Ex.move rfl) ?_
      refine WL.u rfl rfl (Wt.plain rfl) (Ex.indexStr Try.underlying9 rfl rfl (by (try simp only [List.length_cons, List.length_nil]); omega)) ?_
      refine WL.call callable124 rfl (Wt.plain rfl) rfl rfl (sl1Letter _ _) ?_
      rintro _ _ ⟨rfl, hw⟩; obtain rfl := hw.symm
      refine WL.u rfl rfl (Wt.plain rfl) (Ex.not rfl) ?_
      refine WL.next ?_
      refine WC.cond rfl (fun hc4 => ?_) (fun hc4 => ?_)
      · have hc4' := hc4; try simp only [decide_eq_true_eq, decide_eq_false_iff_not, Bool.not_eq_true', Bool.not_eq_false', Bool.not_eq_true, Bool.not_eq_false] at hc4'
        refine WC.seq ?_
        refine WC.region ?_
        refine WL.u rfl rfl (Wt.plain rfl) (Ex.assign rfl) ?_
        refine WL.next ?_
        refine WC.ret ?_
        refine WN.retBlock ?_
        refine WN.retThen ?_
        refine WN.retThen ?_
        refine WN.retBlock ?_
        refine WN.retBlock ?_
        refine WN.retThen ?_
        refine WN.retThen ?_
        refine WN.retBlock ?_
        refine WN.retThen ?_
        refine WN.body1 rfl rfl ?_
        exact ⟨by rw [gridIn_false]; intro h; have h1 := h.ok i hlt k (by omega); simp at hc4; simp [hc4] at h1, hD⟩
      have hc4' := hc4; try simp only [decide_eq_true_eq, decide_eq_false_iff_not, Bool.not_eq_true', Bool.not_eq_false', Bool.not_eq_true, Bool.not_eq_false] at hc4'
      refine WC.skip ?_
      refine WN.normalBlock ?_
      refine WN.next ?_
      refine WC.region ?_
      refine WL.u rfl rfl (Wt.plain rfl) (Ex.move rfl) ?_
      refine WL.u rfl rfl (Wt.plain rfl) (Ex.add rfl rfl (by omega)) ?_
      refine WL.u rfl rfl (Wt.plain rfl) (Ex.assign rfl) ?_
      refine WL.last ?_
      refine WN.round (k + 1) ⟨rfl, rfl, rfl, trivial⟩ ⟨hD, by omega, fun q hq => ?_⟩ (by omega)
      rcases Nat.lt_succ_iff_lt_or_eq.1 hq with h | rfl
      · exact hK q h
      · simpa using hc4
    have hc3' := hc3; try simp only [decide_eq_true_eq, decide_eq_false_iff_not, Bool.not_eq_true', Bool.not_eq_false', Bool.not_eq_true, Bool.not_eq_false] at hc3'
    have hkeq : k = (g.getD i []).length := by omega
    subst hkeq
    refine WC.exit ?_
    refine WN.exitThen ?_
    refine WN.exitThen ?_
    refine WN.exitHere ?_
    refine WN.normalBlock ?_
    refine WN.next ?_
    refine WC.region ?_
    refine WL.u rfl rfl (Wt.plain rfl) (Ex.move rfl) ?_
    refine WL.u rfl rfl (Wt.plain rfl) (Ex.add rfl rfl (by omega)) ?_
    refine WL.u rfl rfl (Wt.plain rfl) (Ex.assign rfl) ?_
    refine WL.last ?_
    refine WN.round (i + 1) ⟨rfl, rfl, trivial⟩ ⟨hD, by omega, fun j hj => ?_⟩ (by omega)
    rcases Nat.lt_succ_iff_lt_or_eq.1 hj with h | rfl
    · exact hI j h
    · exact ⟨he, hri.1, hri.2, hK⟩
  have hieq : i = g.length := by have := hc1; simp at this; omega
  subst hieq
  refine WC.exit ?_
  refine WN.exitThen ?_
  refine WN.exitThen ?_
  refine WN.exitHere ?_
  refine WN.next ?_
  refine WC.seq ?_
  refine WC.region ?_
  refine WL.u rfl rfl (Wt.plain rfl) (Ex.move rfl) ?_
  refine WL.u rfl rfl (Wt.plain rfl) (Ex.lenSl Try.underlying22 rfl) ?_
  refine WL.call callable51 rfl (Wt.plain rfl) rfl rfl (sl6In _ _ _ _) ?_
  rintro _ _ ⟨rfl, hw⟩; obtain rfl := hw.symm
  refine WL.u rfl rfl (Wt.plain rfl) (Ex.assign rfl) ?_
  refine WL.next ?_
  refine WC.ret ?_
  refine WN.body1 rfl rfl ?_
  refine ⟨congrArg Value.bool (gridIn_iff ?_), hD⟩
  rw [decide_eq_true_eq]
  constructor
  · intro h
    have h0 := hI 0 (by omega)
    exact ⟨by omega, by omega, h0.2.1, h0.2.2.1, fun j hj => (hI j hj).1, fun j hj k hk => (hI j hj).2.2.2 k (by rw [(hI j hj).1]; exact hk)⟩
  · intro h
    have := h.n1
    have := h.n5
    omega

end Go.Proofs.Ytjejdebmlgjdeaa
