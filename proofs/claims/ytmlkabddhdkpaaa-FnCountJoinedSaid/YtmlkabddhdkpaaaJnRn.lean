/- The blocks of the rounds that have been found, and what they read. -/
import Derived.Test.YtmlkabddhdkpaaaHd
import Derived.Test.YtmlkabddhdkpaaaMapS
import Derived.Test.YtmlkabddhdkpaaaRndP
import Derived.Test.YtmlkabddhdkpaaaJnGi
namespace Go.Proofs.Ytmlkabddhdkpaaa
set_option maxRecDepth 100000
set_option linter.unusedSimpArgs false
set_option linter.unusedVariables false
open Go Go.RowKit
abbrev Rs := List (List (Nat × Nat))
abbrev Tl := List (Nat × Obj)
/-- T are the blocks of hs, newest first; they read rs -/
inductive TR : Tl → List Hd → Rs → Prop
  | nil : TR [] [] []
  | snoc {T : Tl} {hs : List Hd} {rs : Rs} {b cap : Nat} {cur : Array Value} {r : List (Nat × Nat)} : TR T hs rs → Own rStep cur cap r → TR ((b, .cells cur 86 (0, 0)) :: T) (hs ++ [((some ⟨b, 0, none⟩, r.length, cap) : Hd)]) (rs ++ [r])
/-- the heads hs read rs, in blocks from lo on -/
structure Reads (lo : Nat) (w : World) (hs : List Hd) (rs : Rs) : Prop where
  len : hs.length = rs.length
  get : ∀ (i : Nat) (h : Hd) (r : List (Nat × Nat)), hs[i]? = some h → rs[i]? = some r → h.2.1 = r.length ∧ Sl rStep w h.1 r ∧ ∀ q, h.1 = some q → lo ≤ q.block
theorem TR.len {T : Tl} {hs : List Hd} {rs : Rs} (h : TR T hs rs) : hs.length = rs.length := by
  induction h with
  | nil => rfl
  | snoc _ _ ih => simp [ih]
theorem TR.lens {T : Tl} {hs : List Hd} {rs : Rs} (h : TR T hs rs) : hs.map (fun h => h.2.1) = rs.map List.length := by
  induction h with
  | nil => rfl
  | snoc _ _ ih => simp [ih]
theorem TR.reads {w0 w : World} {T : Tl} {hs : List Hd} {rs : Rs} (h : TR T hs rs) (hH : Hp [] w0 w T) : Reads w0.heap.size w hs rs := by
  induction h with
  | nil => exact ⟨rfl, fun i h r h1 _ => by simp at h1⟩
  | @snoc T hs rs b cap cur r hT ho ih =>
    have h2 := ih hH.tail
    refine ⟨by simp [h2.len], fun i h' r' h1 h3 => ?_⟩
    rw [List.getElem?_append] at h1 h3
    by_cases hi : i < hs.length
    · rw [if_pos hi] at h1
      rw [if_pos (by rw [← h2.len]; exact hi)] at h3
      exact h2.get i h' r' h1 h3
    · rw [if_neg hi] at h1
      rw [if_neg (by rw [← h2.len]; exact hi)] at h3
      rw [List.getElem?_singleton] at h1 h3
      split at h1
      · split at h3
        · rw [← Option.some.inj h1, ← Option.some.inj h3]
          refine ⟨rfl, ho.slAt hH 0 rfl, fun q hq => ?_⟩
          cases hq
          exact hH.base 0 rfl
        · cases h3
      · cases h1
theorem Reads.ex {lo : Nat} {w : World} {hs : List Hd} {rs : Rs} (h : Reads lo w hs rs) {i : Nat} (hi : i < rs.length) : ∃ a c, rHd.val (hs.getD i hd0) = .slice a (rs.getD i []).length c ∧ Sl rStep w a (rs.getD i []) ∧ ∀ q, a = some q → lo ≤ q.block := by
  have h1 : hs[i]? = some (hs.getD i hd0) := getD_get hs i hd0 (by rw [h.len]; exact hi)
  have h2 : rs[i]? = some (rs.getD i []) := getD_get rs i [] hi
  have h3 := h.get i _ _ h1 h2
  exact ⟨(hs.getD i hd0).1, (hs.getD i hd0).2.2, by rw [← h3.1]; rfl, h3.2⟩
/-- the sweep so far: F tells the steps that are marked, R the rounds that have been found -/
structure SR (g : Grid) (x : Nat) (F : Nat × Nat → Bool) (M : Nat → Bool) (R : Rs) : Prop where
  f : ∀ s, Ok g s → F s = M (code s)
  b : ∀ y, OnBeam g (stepOf y) → M y = true
  r : R ++ sweep g (List.range' x (4 * (nR g * nC g) - x)) M = rounds g
  l : R.length ≤ x
theorem SR.start {g : Grid} (z : Sz g) {F : Nat × Nat → Bool} (hF : ∀ x, F x = beamF g (ports g) x) : SR g 0 F (beamMark g) [] :=
  ⟨fun s hs => by rw [hF, beamF_mark z hs], fun y hy => (beamMark_iff z).2 hy, by rw [List.nil_append, Nat.sub_zero, ← List.range_eq_range']; rfl, by simp⟩
theorem SR.skip {g : Grid} {x : Nat} {F : Nat × Nat → Bool} {M : Nat → Bool} {R : Rs} (h : SR g x F M R) (hx : x < 4 * (nR g * nC g)) (hm : M x = true) : SR g (x + 1) F M R := by
  refine ⟨h.f, h.b, ?_, by have := h.l; omega⟩
  have hr := h.r
  obtain ⟨k, hk⟩ : ∃ k, 4 * (nR g * nC g) - x = k + 1 := ⟨4 * (nR g * nC g) - x - 1, by omega⟩
  rw [hk, List.range'_succ, sweep, if_pos hm] at hr
  rw [show 4 * (nR g * nC g) - (x + 1) = k by omega]
  exact hr
theorem SR.next {g : Grid} {x : Nat} {F F' : Nat × Nat → Bool} {M : Nat → Bool} {R : Rs} (h : SR g x F M R) (hx : x < 4 * (nR g * nC g)) (hm : M x = false) (hF : ∀ s, Ok g s → F' s = markL g M (close g (stepOf x)).1 (code s)) : SR g (x + 1) F' (markL g M (close g (stepOf x)).1) (R ++ [(close g (stepOf x)).1]) := by
  refine ⟨hF, fun y hy => by simp [markL, h.b y hy], ?_, by have := h.l; simp; omega⟩
  have hr := h.r
  obtain ⟨k, hk⟩ : ∃ k, 4 * (nR g * nC g) - x = k + 1 := ⟨4 * (nR g * nC g) - x - 1, by omega⟩
  rw [hk, List.range'_succ, sweep, if_neg (by rw [hm]; decide)] at hr
  rw [show 4 * (nR g * nC g) - (x + 1) = k by omega, List.append_assoc]
  exact hr
theorem SR.done {g : Grid} {F : Nat × Nat → Bool} {M : Nat → Bool} {R : Rs} (h : SR g (4 * (nR g * nC g)) F M R) : R = rounds g := by
  have hr := h.r
  rw [Nat.sub_self] at hr
  simpa [sweep] using hr
theorem SR.off {g : Grid} {x : Nat} {F : Nat × Nat → Bool} {M : Nat → Bool} {R : Rs} (h : SR g x F M R) {y : Nat} (hm : M y = false) : ¬ OnBeam g (stepOf y) := fun hb => by rw [h.b y hb] at hm; cases hm
end Go.Proofs.Ytmlkabddhdkpaaa

/- The program's rounds: the way back, one round, all of them. -/
namespace Go.Proofs.Ytmlkabddhdkpaaa
set_option maxRecDepth 100000
set_option linter.unusedSimpArgs false
set_option linter.unusedVariables false
open Go Go.RowKit
theorem st86 : StepTy Try.prog 86 3 := ⟨⟨_, _, Try.underlying86, by decide, by decide, rfl, rfl, rfl, rfl⟩, by kernel_rfl, by kernel_rfl, Try.underlying3, flat3⟩
theorem mt63 : MapSTy Try.prog 63 86 3 3 := ⟨Try.underlying63, st86, ty3⟩
theorem Own.oneStep (s : Nat × Nat) : Own rStep #[vint s.1, vint s.2] 1 [s] := ⟨rfl, by simp, by decide, rfl⟩

theorem ireversed (g : Grid) (a : Option Addr) (cap : Nat) (s : Nat × Nat) (w : World) (hg : Sl rStr w a g) (hG : GridOk g) (hok : Ok g s) : Fn Try.prog 56 [.slice a g.length cap, .agg #[vint s.1, vint s.2]] w (fun v w1 => v = .agg #[vint (rev g s).1, vint (rev g s).2] ∧ Keep [] w w1) := by
  refine Fn.enter (n := 17) Try.func56 rfl rfl rfl ?_
  show WC _ _ _ _ [(0, .slice a g.length cap), (1, .agg #[vint s.1, vint s.2])] _
  have hH := Hp.start [] w
  have hb4 := bend_lt (letter g s.1) s.2 hok.d
  refine WC.seq ?_
  refine WC.region ?_
  refine WL.box rfl rfl rfl (Wt.plain rfl) hH (fun b3 wn hb3 hk3 hH => ?_)
  refine WL.alloc ty86 rfl rfl (Wt.plain rfl) hH (fun b4 wn hb4 hk4 hH => ?_)
  refine WL.next ?_
  refine WC.seq ?_
  have hQ := hH
  refine WC.plan (Keep [b4] _) [(0, true), (1, true), (2, true), (3, true), (4, true), (6, true), (7, true), (5, false), (8, false), (9, true), (10, true), (11, true), (12, false)] rfl (by kernel_rfl) (Keep.drew _ _) (fun hR => ?_)
  replace hH := hH.drew
  refine WPl.q rfl rfl rfl (Wt.plain rfl) (fun w hC => Ex.fieldAddr fd86_0 rfl) ?_
  refine WPl.q rfl rfl rfl (Wt.plain rfl) (fun w hC => Ex.loadK flat3 rfl (hQ.at 1 rfl) hC (hQ.nin 1 0 rfl rfl rfl) rfl) ?_
  refine WPl.q rfl rfl rfl (Wt.plain rfl) (fun w hC => Ex.move rfl) ?_
  refine WPl.q rfl rfl rfl (Wt.plain rfl) (fun w hC => Ex.fieldAddr fd86_0 rfl) ?_
  refine WPl.q rfl rfl rfl (Wt.plain rfl) (fun w hC => Ex.loadK flat3 rfl (hQ.at 1 rfl) hC (hQ.nin 1 0 rfl rfl rfl) rfl) ?_
  refine WPl.q rfl rfl rfl (Wt.plain rfl) (fun w hC => Ex.fieldAddr fd86_1 rfl) ?_
  refine WPl.q rfl rfl rfl (Wt.plain rfl) (fun w hC => Ex.loadK flat3 rfl (hQ.at 1 rfl) hC (hQ.nin 1 0 rfl rfl rfl) rfl) ?_
  refine WPl.f rfl ?_
  refine WL.call callable61 rfl (Wt.plain rfl) rfl rfl (iletterAt g _ _ s.1 _ (hg.kept hH.keep) hG hok.cell) ?_
  rintro _ wn ⟨rfl, hC⟩; replace hR := hR.trans (hC.keep _); replace hH := hH.dr hC; clear hC
  refine WPl.b hR ?_
  refine WPl.f rfl ?_
  refine WL.call callable60 rfl (Wt.plain rfl) rfl rfl (iturned (letter g s.1) s.2 _ hok.d) ?_
  rintro _ wn ⟨rfl, hC⟩; replace hR := hR.trans hC.nil; replace hH := hH.call hC; clear hC
  refine WPl.b hR ?_
  refine WPl.q rfl rfl rfl (Wt.plain rfl) (fun w hC => Ex.add rfl rfl (by omega)) ?_
  refine WPl.q rfl rfl rfl (Wt.plain rfl) (fun w hC => (Ex.rem rfl rfl (by omega) (by omega)).to (congrArg (Value.int IntKind.i64) (show _ = ((rv (bend (letter g s.1) s.2) : Nat) : Int) by unfold rv; omega))) ?_
  refine WPl.q rfl rfl rfl (Wt.plain rfl) (fun w hC => Ex.buildS bd86 rfl rfl rfl rfl rfl) ?_
  refine WPl.f rfl ?_
  refine WL.store2 ty86 rfl rfl rfl rfl (Wt.plain rfl) hH (fun wn hk hH => ?_)
  replace hR := hR.trans (hk.mono (by simp))
  refine WPl.b hR ?_
  refine WPl.nil (fun hC => ?_); clear hC
  refine WN.next ?_
  refine WC.ret ?_
  refine WN.cell1 rfl rfl Try.underlying86 ty86 hH ?_
  exact ⟨rfl, hH.keep⟩

theorem iroundFrom (g : Grid) (a : Option Addr) (cap : Nat) (s0 : Nat × Nat) (w : World) (hg : Sl rStr w a g) (hG : GridOk g) (hok0 : Ok g s0) (hnb0 : ¬ OnBeam g s0) : Fn Try.prog 55 [.slice a g.length cap, .agg #[vint s0.1, vint s0.2]] w (fun v w1 => Keep [] w w1 ∧ New rStep 86 w w1 v (close g s0).1) := by
  refine Fn.enter (n := 34) Try.func55 rfl rfl rfl ?_
  show WC _ _ _ _ [(0, .slice a g.length cap), (1, .agg #[vint s0.1, vint s0.2])] _
  have hH := Hp.start [] w
  have hz := hG.sz
  obtain ⟨f1, _, hR1, hex1⟩ := (CI.start hz hok0).next hz hnb0
  rw [List.nil_append] at hR1
  refine WC.seq ?_
  refine WC.region ?_
  refine WL.box rfl rfl rfl (Wt.plain rfl) hH (fun b3 wn hb3 hk3 hH => ?_)
  refine WL.u rfl rfl (Wt.plain rfl) (Ex.assign rfl) ?_
  refine WL.next ?_
  refine WC.seq ?_
  refine WC.region ?_
  refine WL.u rfl rfl (Wt.plain rfl) (Ex.loadHp2 Try.underlying86 ty86 rfl hH) ?_
  refine WL.buildSlice (pv := [(0, rStep.val s0)]) Try.underlying73 ty86 rfl rfl rfl (fill_rep rStep (by decide) s0) rfl (Wt.plain rfl) hH (fun b9 wn hb9 hk9 hH => ?_)
  have ho9 := Own.oneStep s0
  refine WL.u rfl rfl (Wt.plain rfl) (Ex.assign rfl) ?_
  refine WL.next ?_
  refine WC.seq ?_
  refine WC.region ?_
  refine WL.u rfl rfl (Wt.plain rfl) (Ex.move rfl) ?_
  replace hH := hH.f1
  refine WL.u rfl rfl (Wt.plain rfl) (Ex.loadHp2 Try.underlying86 ty86 rfl hH) ?_
  refine WL.call callable59 rfl (Wt.plain rfl) rfl rfl (iafter _ _ _ s0.1 s0.2 _ (hg.kept hH.keep) hG hok0.cell hok0.d) ?_
  rintro _ wn ⟨rfl, hC⟩; replace hH := hH.call hC; clear hC
  refine WL.u rfl rfl (Wt.plain rfl) (Ex.move rfl) ?_
  refine WL.u rfl rfl (Wt.plain rfl) (Ex.extract rfl rfl) ?_
  refine WL.u rfl rfl (Wt.plain rfl) (Ex.extract rfl rfl) ?_
  refine WL.alloc ty86 rfl rfl (Wt.plain rfl) hH (fun b6 wn hb6 hk6 hH => ?_)
  refine WL.store2 ty86 rfl rfl rfl rfl (Wt.plain rfl) hH (fun wn hk hH => ?_)
  refine WL.u rfl rfl (Wt.plain rfl) (Ex.assign rfl) ?_
  refine WL.next ?_
  refine WC.seq ?_
  refine WC.block ?_
  replace hH := hH.f1
  replace hH := hH.f1
  replace hH := hH.f2
  refine WC.loop (ι := Nat × Nat × (Array Value) × (List (Nat × Nat)) × (Nat × Nat) × Nat) (fun (b9, cap9, cur9, l, s, f) => [(0, .slice a g.length cap), (3, vptr b3 0), (5, vsl b9 l.length cap9), (6, vptr b6 0), (7, vint (-1))]) (fun (b9, cap9, cur9, l, s, f) wn => Hp [] w wn [(b9, .cells cur9 86 (0, 0)), (b6, .cells #[vint s.1, vint s.2] 86 (0, 0)), (b3, .cells #[vint s0.1, vint s0.2] 86 (0, 0))] ∧ Own rStep cur9 cap9 l ∧ RI g s0 l s f) (fun (b9, cap9, cur9, l, s, f) => f) ((b9, 1, #[vint s0.1, vint s0.2], [s0], nx g s0, f1)) (by exact ⟨rfl, rfl, rfl, rfl, congrArg (fun x => some (vint x)) hex1, trivial⟩) ?_ ?_
  · exact ⟨hH, ho9, hR1⟩
  rintro ⟨b9, cap9, cur9, l, s, f⟩ wn ⟨hH, ho9, hR⟩
  have hl100 : l.length ≤ 100 := by have := hR.1; have := cells_le hG; omega
  intro mu0 hmu; try dsimp only at hmu
  show WC _ _ _ _ [(0, .slice a g.length cap), (3, vptr b3 0), (5, vsl b9 l.length cap9), (6, vptr b6 0), (7, vint (-1))] _
  refine WC.seq ?_
  refine WC.seq ?_
  refine WC.region ?_
  replace hH := hH.f1
  refine WL.u rfl rfl (Wt.plain rfl) (Ex.loadHp2 Try.underlying86 ty86 rfl hH) ?_
  replace hH := hH.f2
  refine WL.u rfl rfl (Wt.plain rfl) (Ex.loadHp2 Try.underlying86 ty86 rfl hH) ?_
  refine WL.u rfl rfl (Wt.plain rfl) (Ex.neqStep st86 (s := s) (u := s0) rfl rfl) ?_
  refine WL.next ?_
  refine WC.cond rfl (fun hc1 => ?_) (fun hc1 => ?_)
  · have hc1' := hc1; try simp only [decide_eq_true_eq, decide_eq_false_iff_not, Bool.not_eq_true', Bool.not_eq_false', Bool.not_eq_true, Bool.not_eq_false] at hc1'
    have hne : s ≠ s0 := of_decide_eq_true hc1
    obtain ⟨hCI, hnb⟩ := hR.go hne
    have hok := hCI.1
    obtain ⟨f2, hf2, hR2, hex2⟩ := hCI.next hz hnb
    refine WC.skip ?_
    refine WN.next ?_
    refine WC.block ?_
    refine WC.seq ?_
    refine WC.seq ?_
    refine WC.region ?_
    refine WL.u rfl rfl (Wt.plain rfl) (Ex.move rfl) ?_
    refine WL.u rfl rfl (Wt.plain rfl) (Ex.geq rfl rfl) ?_
    refine WL.next ?_
    refine WC.condF rfl (decide_eq_false (by omega)) ?_
    refine WC.skip ?_
    refine WN.next ?_
    refine WC.seq ?_
    refine WC.region ?_
    refine WL.u rfl rfl (Wt.plain rfl) (Ex.move rfl) ?_
    replace hH := hH.f1
    refine WL.u rfl rfl (Wt.plain rfl) (Ex.loadHp2 Try.underlying86 ty86 rfl hH) ?_
    replace hH := hH.f2
    refine WL.append1 (r := rStep) (u := s) Try.underlying73 ty86 rfl rfl (fun _ => rfl) (fun _ => rfl) rfl rfl (Wt.plain rfl) (fun _ => (Wt.plain rfl)) hH ho9 rfl (by omega) (by omega) (fun b9 cap9 cur9 wn x9 hb9 hk9 hH ho9 => ?_)
    refine WL.u rfl rfl (Wt.plain rfl) (Ex.assign rfl) ?_
    refine WL.next ?_
    refine WC.region ?_
    refine WL.u rfl rfl (Wt.plain rfl) (Ex.move rfl) ?_
    replace hH := hH.f1
    refine WL.u rfl rfl (Wt.plain rfl) (Ex.loadHp2 Try.underlying86 ty86 rfl hH) ?_
    refine WL.call callable59 rfl (Wt.plain rfl) rfl rfl (iafter _ _ _ s.1 s.2 _ (hg.kept hH.keep) hG hok.cell hok.d) ?_
    rintro _ wn ⟨rfl, hC⟩; replace hH := hH.call hC; clear hC
    refine WL.u rfl rfl (Wt.plain rfl) (Ex.move rfl) ?_
    refine WL.u rfl rfl (Wt.plain rfl) (Ex.extract rfl rfl) ?_
    refine WL.u rfl rfl (Wt.plain rfl) (Ex.extract rfl rfl) ?_
    refine WL.store2 ty86 rfl rfl rfl rfl (Wt.plain rfl) hH (fun wn hk hH => ?_)
    refine WL.u rfl rfl (Wt.plain rfl) (Ex.assign rfl) ?_
    refine WL.last ?_
    refine WN.normalBlock ?_
    replace hH := hH.f2
    replace hH := hH.f1
    replace hH := hH.f2
    refine WN.round (b9, cap9, cur9, l ++ [s], nx g s, f2) (by exact ⟨rfl, rfl, rfl, rfl, congrArg (fun x => some (vint x)) hex2, trivial⟩) ?_ ?_
    · exact ⟨hH, ho9, hR2⟩
    · (try dsimp only); omega
  have hc1' := hc1; try simp only [decide_eq_true_eq, decide_eq_false_iff_not, Bool.not_eq_true', Bool.not_eq_false', Bool.not_eq_true, Bool.not_eq_false] at hc1'
  have he : s = s0 := Classical.not_not.1 (of_decide_eq_false hc1)
  have hd := hR.done he
  refine WC.exit ?_
  refine WN.exitThen ?_
  refine WN.exitThen ?_
  refine WN.exitHere ?_
  refine WN.next ?_
  refine WC.seq ?_
  refine WC.seq ?_
  refine WC.region ?_
  refine WL.u rfl rfl (Wt.plain rfl) (Ex.move rfl) ?_
  refine WL.u rfl rfl (Wt.plain rfl) (Ex.geq rfl rfl) ?_
  refine WL.next ?_
  refine WC.condF rfl (decide_eq_false (by omega)) ?_
  refine WC.skip ?_
  refine WN.next ?_
  refine WC.seq ?_
  refine WC.region ?_
  refine WL.u rfl rfl (Wt.plain rfl) (Ex.move rfl) ?_
  refine WL.u rfl rfl (Wt.plain rfl) (Ex.assign rfl) ?_
  refine WL.next ?_
  refine WC.ret ?_
  refine WN.body1 rfl rfl ?_
  exact ⟨hH.keep, by rw [hd]; exact New.of (hH.front 2 rfl) ho9 (hH.base 2 rfl)⟩

set_option maxHeartbeats 2000000 in
theorem iallPaths (g : Grid) (a : Option Addr) (cap : Nat) (w : World) (hg : Sl rStr w a g) (hG : GridOk g) : Fn Try.prog 41 [.slice a g.length cap] w (fun v w1 => ∃ x y, v = .tuple #[x, y] ∧ Keep [] w w1 ∧ ∃ hs : List Hd, New rHd 73 w w1 y hs ∧ hs.map (fun h => h.2.1) = (rounds g).map List.length  ∧ Reads w.heap.size w1 hs (rounds g)) := by
  refine Fn.enter (n := 97) Try.func41 rfl rfl rfl ?_
  show WC _ _ _ _ [(0, .slice a g.length cap)] _
  have hH := Hp.start [] w
  have hz := hG.sz
  have hpl := ports_le hG
  have hc25 := cells_le hG
  refine WC.seq ?_
  refine WC.region ?_
  refine WL.u rfl rfl (Wt.plain rfl) (Ex.assign rfl) ?_
  refine WL.u rfl rfl (Wt.plain rfl) (Ex.assign rfl) ?_
  refine WL.next ?_
  refine WC.seq ?_
  refine WC.region ?_
  refine WL.makeMap rfl (Wt.plain rfl) hH (fun b18 wn hb18 hk18 hH => ?_)
  have hM18 := KeysS.nil
  refine WL.u rfl rfl (Wt.plain rfl) (Ex.assign rfl) ?_
  refine WL.next ?_
  refine WC.seq ?_
  refine WC.seq ?_
  refine WC.region ?_
  refine WL.u rfl rfl (Wt.plain rfl) (Ex.move rfl) ?_
  refine WL.call callable48 rfl (Wt.plain rfl) rfl rfl (iportMany _ _ _ _ (hg.kept hH.keep) hG) ?_
  rintro _ _ ⟨rfl, hw⟩; obtain rfl := hw.symm
  refine WL.u rfl rfl (Wt.plain rfl) (Ex.move rfl) ?_
  refine WL.next ?_
  refine WC.block ?_
  refine WC.loop (ι := Nat × (Array MapEntry) × Nat × (Nat × Nat → Bool)) (fun (p, es18, ck18, F) => [(0, .slice a g.length cap), (4, .map (some b18)), (20, vint (ports g)), (21, vint p)]) (fun (p, es18, ck18, F) wn => Hp [] w wn [(b18, .map es18 ck18)] ∧ KeysS es18 F ∧ (∀ x, F x = beamF g p x) ∧ p ≤ ports g) (fun (p, es18, ck18, F) => ports g - p) ((0, #[], 0, fun _ => false)) (by exact ⟨rfl, rfl, rfl, rfl, trivial⟩) ?_ ?_
  · exact ⟨hH, hM18, fun x => rfl, Nat.zero_le _⟩
  rintro ⟨p, es18, ck18, F⟩ wn ⟨hH, hM18, hF, hp⟩
  intro mu0 hmu; try dsimp only at hmu
  show WC _ _ _ _ [(0, .slice a g.length cap), (4, .map (some b18)), (20, vint (ports g)), (21, vint p)] _
  refine WC.seq ?_
  refine WC.region ?_
  refine WL.u rfl rfl (Wt.plain rfl) (Ex.lss rfl rfl) ?_
  refine WL.next ?_
  refine WC.seq ?_
  refine WC.cond rfl (fun hc1 => ?_) (fun hc1 => ?_)
  · have hc1' := hc1; try simp only [decide_eq_true_eq, decide_eq_false_iff_not, Bool.not_eq_true', Bool.not_eq_false', Bool.not_eq_true, Bool.not_eq_false] at hc1'
    have hlt : p < ports g := by omega
    have hwl := way_len g p
    refine WC.skip ?_
    refine WN.next ?_
    refine WC.seq ?_
    refine WC.block ?_
    refine WC.seq ?_
    refine WC.region ?_
    refine WL.u rfl rfl (Wt.plain rfl) (Ex.move rfl) ?_
    refine WL.u rfl rfl (Wt.plain rfl) (Ex.assign rfl) ?_
    refine WL.next ?_
    refine WC.seq ?_
    refine WC.region ?_
    refine WL.u rfl rfl (Wt.plain rfl) (Ex.move rfl) ?_
    refine WL.u rfl rfl (Wt.plain rfl) (Ex.move rfl) ?_
    refine WL.call callable49 rfl (Wt.plain rfl) rfl rfl (ibeam g _ _ p _ (hg.kept hH.keep) hG hlt) ?_
    rintro _ wn ⟨x, rfl, hC, hN⟩; obtain ⟨b27, cap27, cur27, rfl, hge27, hbb27, ho27⟩ := hN.own; replace hH := hH.push hC hge27 hbb27; clear hC hN
    refine WL.u rfl rfl (Wt.plain rfl) (Ex.move rfl) ?_
    refine WL.u rfl rfl (Wt.plain rfl) (Ex.extract rfl rfl) ?_
    refine WL.u rfl rfl (Wt.plain rfl) (Ex.extract rfl rfl) ?_
    refine WL.u rfl rfl (Wt.plain rfl) (Ex.assign rfl) ?_
    refine WL.u rfl rfl (Wt.plain rfl) (Ex.assign rfl) ?_
    refine WL.next ?_
    refine WC.seq ?_
    refine WC.region ?_
    refine WL.u rfl rfl (Wt.plain rfl) (Ex.move rfl) ?_
    refine WL.u rfl rfl (Wt.plain rfl) (Ex.lenSl Try.underlying73 rfl) ?_
    refine WL.u rfl rfl (Wt.plain rfl) (Ex.move rfl) ?_
    refine WL.next ?_
    refine WC.block ?_
    replace hH := hH.f1
    refine WC.loop (ι := Nat × (Array MapEntry) × Nat × (Nat × Nat → Bool)) (fun (i, es18, ck18, F) => [(0, .slice a g.length cap), (4, .map (some b18)), (5, vint p), (7, vint (way g p).2), (20, vint (ports g)), (21, vint p), (30, vsl b27 (way g p).1.length cap27), (31, vint (way g p).1.length), (32, vint i)]) (fun (i, es18, ck18, F) wn => Hp [] w wn [(b18, .map es18 ck18), (b27, .cells cur27 86 (0, 0))] ∧ KeysS es18 F ∧ (∀ x, F x = (beamF g p x || decide (x ∈ (way g p).1.take i))) ∧ i ≤ (way g p).1.length) (fun (i, es18, ck18, F) => (way g p).1.length - i) ((0, es18, ck18, F)) (by exact ⟨rfl, rfl, rfl, rfl, rfl, rfl, rfl, rfl, rfl, trivial⟩) ?_ ?_
    · exact ⟨hH, hM18, fun x => by rw [hF x, List.take_zero]; simp, Nat.zero_le _⟩
    rintro ⟨i, es18, ck18, F⟩ wn ⟨hH, hM18, hF2, hi⟩
    intro mu0 hmu; try dsimp only at hmu
    show WC _ _ _ _ [(0, .slice a g.length cap), (4, .map (some b18)), (5, vint p), (7, vint (way g p).2), (20, vint (ports g)), (21, vint p), (30, vsl b27 (way g p).1.length cap27), (31, vint (way g p).1.length), (32, vint i)] _
    refine WC.seq ?_
    refine WC.region ?_
    refine WL.u rfl rfl (Wt.plain rfl) (Ex.lss rfl rfl) ?_
    refine WL.next ?_
    refine WC.seq ?_
    refine WC.cond rfl (fun hc2 => ?_) (fun hc2 => ?_)
    · have hc2' := hc2; try simp only [decide_eq_true_eq, decide_eq_false_iff_not, Bool.not_eq_true', Bool.not_eq_false', Bool.not_eq_true, Bool.not_eq_false] at hc2'
      have hil : i < (way g p).1.length := by omega
      have hget := getD_get (way g p).1 i (0, 0) hil
      refine WC.skip ?_
      refine WN.next ?_
      refine WC.seq ?_
      refine WC.block ?_
      refine WC.seq ?_
      refine WC.region ?_
      refine WL.u rfl rfl (Wt.plain rfl) (Ex.indexAddr Try.underlying73 ty86 rfl rfl (by omega)) ?_
      refine WL.u rfl rfl (Wt.plain rfl) (Ex.loadSlS Try.underlying86 ty86 (ho27.slAt hH 1 rfl) rfl hget rfl) ?_
      refine WL.alloc ty86 rfl rfl (Wt.plain rfl) hH (fun b9 wn hb9 hk9 hH => ?_)
      refine WL.store2 ty86 rfl rfl rfl rfl (Wt.plain rfl) hH (fun wn hk hH => ?_)
      refine WL.next ?_
      refine WC.region ?_
      refine WL.u rfl rfl (Wt.plain rfl) (Ex.move rfl) ?_
      refine WL.u rfl rfl (Wt.plain rfl) (Ex.loadHp2 Try.underlying86 ty86 rfl hH) ?_
      refine WL.u rfl rfl (Wt.plain rfl) (Ex.move rfl) ?_
      refine WL.u rfl rfl (Wt.plain rfl) (Ex.move rfl) ?_
      refine WL.u rfl rfl (Wt.plain rfl) (Ex.min rfl rfl) ?_
      replace hH := hH.f1
      refine WL.mapSetS ((way g p).1.getD i (0, 0)) mt63 hM18 rfl rfl rfl (Wt.plain rfl) hH (fun es18 ck18 wn hk hH hM18 => ?_)
      refine WL.last ?_
      refine WN.normalBlock ?_
      refine WN.next ?_
      refine WC.region ?_
      refine WL.u rfl rfl (Wt.plain rfl) (Ex.add rfl rfl (by omega)) ?_
      refine WL.u rfl rfl (Wt.plain rfl) (Ex.move rfl) ?_
      refine WL.last ?_
      replace hH := hH.f2
      replace hH := hH.f1
      replace hH := hH.first2
      refine WN.round (i + 1, es18, ck18, fun x => F x || x == (way g p).1.getD i (0, 0)) (by exact ⟨rfl, rfl, rfl, rfl, rfl, rfl, rfl, rfl, rfl, trivial⟩) ?_ ?_
      · exact ⟨hH, hM18, fun x => by show (F x || x == (way g p).1.getD i (0, 0)) = _; rw [hF2 x, take_snoc hget]; exact mark_snoc _ _ _ _, by omega⟩
      · (try dsimp only); omega
    have hc2' := hc2; try simp only [decide_eq_true_eq, decide_eq_false_iff_not, Bool.not_eq_true', Bool.not_eq_false', Bool.not_eq_true, Bool.not_eq_false] at hc2'
    have hil : i = (way g p).1.length := by omega
    refine WC.exit ?_
    refine WN.exitThen ?_
    refine WN.exitThen ?_
    refine WN.exitHere ?_
    refine WN.normalBlock ?_
    refine WN.next ?_
    refine WC.region ?_
    refine WL.u rfl rfl (Wt.plain rfl) (Ex.add rfl rfl (by omega)) ?_
    refine WL.u rfl rfl (Wt.plain rfl) (Ex.move rfl) ?_
    refine WL.last ?_
    replace hH := hH.first1
    refine WN.round (p + 1, es18, ck18, F) (by exact ⟨rfl, rfl, rfl, rfl, trivial⟩) ?_ ?_
    · exact ⟨hH, hM18, fun x => by rw [hF2 x, hil, List.take_length, beamF_succ], by omega⟩
    · (try dsimp only); omega
  have hc1' := hc1; try simp only [decide_eq_true_eq, decide_eq_false_iff_not, Bool.not_eq_true', Bool.not_eq_false', Bool.not_eq_true, Bool.not_eq_false] at hc1'
  obtain rfl : p = ports g := by omega
  have hS := SR.start hz hF
  clear hF
  refine WC.exit ?_
  refine WN.exitThen ?_
  refine WN.exitThen ?_
  refine WN.exitHere ?_
  refine WN.next ?_
  refine WC.seq ?_
  refine WC.region ?_
  refine WL.lit0 Try.underlying64 ty73 rfl (Wt.plain rfl) hH (fun b43 wn hb43 hk43 hH => ?_)
  have ho43 := Own.nil rHd
  refine WL.u rfl rfl (Wt.plain rfl) (Ex.assign rfl) ?_
  refine WL.next ?_
  refine WC.seq ?_
  refine WC.seq ?_
  refine WC.region ?_
  refine WL.u rfl rfl (Wt.plain rfl) (Ex.move rfl) ?_
  refine WL.call callable54 rfl (Wt.plain rfl) rfl rfl (icells _ _ _ _ (hg.kept hH.keep) hG) ?_
  rintro _ _ ⟨rfl, hw⟩; obtain rfl := hw.symm
  refine WL.u rfl rfl (Wt.plain rfl) (Ex.move rfl) ?_
  refine WL.next ?_
  refine WC.block ?_
  replace hH := hH.f1
  refine WC.loop (ι := Nat × (Array MapEntry) × Nat × (Nat × Nat → Bool) × (Nat → Bool) × Nat × Nat × (Array Value) × (List Hd) × Tl × Rs) (fun (c, es18, ck18, F, M, b43, cap43, cur43, hs, T, rs) => [(0, .slice a g.length cap), (4, .map (some b18)), (10, vsl b43 hs.length cap43), (45, vint (nR g * nC g : Nat)), (46, vint c)]) (fun (c, es18, ck18, F, M, b43, cap43, cur43, hs, T, rs) wn => Hp [] w wn ((b18, .map es18 ck18) :: (b43, .cells cur43 73 (0, 0)) :: T) ∧ KeysS es18 F ∧ Own rHd cur43 cap43 hs ∧ TR T hs rs ∧ SR g (4 * c) F M rs ∧ c ≤ nR g * nC g) (fun (c, es18, ck18, F, M, b43, cap43, cur43, hs, T, rs) => nR g * nC g - c) ((0, es18, ck18, F, beamMark g, b43, 0, #[], [], [], [])) (by exact ⟨rfl, rfl, rfl, rfl, rfl, trivial⟩) ?_ ?_
  · exact ⟨hH, hM18, ho43, TR.nil, hS, Nat.zero_le _⟩
  rintro ⟨c, es18, ck18, F, M, b43, cap43, cur43, hs, T, rs⟩ wn ⟨hH, hM18, ho43, hT, hS, hc⟩
  intro mu0 hmu; try dsimp only at hmu
  show WC _ _ _ _ [(0, .slice a g.length cap), (4, .map (some b18)), (10, vsl b43 hs.length cap43), (45, vint (nR g * nC g : Nat)), (46, vint c)] _
  refine WC.seq ?_
  refine WC.region ?_
  refine WL.u rfl rfl (Wt.plain rfl) (Ex.lss rfl rfl) ?_
  refine WL.next ?_
  refine WC.seq ?_
  refine WC.cond rfl (fun hc3 => ?_) (fun hc3 => ?_)
  · have hc3' := hc3; try simp only [decide_eq_true_eq, decide_eq_false_iff_not, Bool.not_eq_true', Bool.not_eq_false', Bool.not_eq_true, Bool.not_eq_false] at hc3'
    have hlc : c < nR g * nC g := by omega
    refine WC.skip ?_
    refine WN.next ?_
    refine WC.seq ?_
    refine WC.block ?_
    refine WC.seq ?_
    refine WC.region ?_
    refine WL.u rfl rfl (Wt.plain rfl) (Ex.move rfl) ?_
    refine WL.u rfl rfl (Wt.plain rfl) (Ex.assign rfl) ?_
    refine WL.next ?_
    refine WC.seq ?_
    refine WC.region ?_
    refine WL.u rfl rfl (Wt.plain rfl) (Ex.move rfl) ?_
    refine WL.next ?_
    refine WC.block ?_
    replace hH := hH.f1
    replace hH := hH.f1
    refine WC.loop (ι := Nat × (Array MapEntry) × Nat × (Nat × Nat → Bool) × (Nat → Bool) × Nat × Nat × (Array Value) × (List Hd) × Tl × Rs) (fun (d, es18, ck18, F, M, b43, cap43, cur43, hs, T, rs) => [(0, .slice a g.length cap), (4, .map (some b18)), (10, vsl b43 hs.length cap43), (11, vint c), (45, vint (nR g * nC g : Nat)), (46, vint c), (49, vint d)]) (fun (d, es18, ck18, F, M, b43, cap43, cur43, hs, T, rs) wn => Hp [] w wn ((b18, .map es18 ck18) :: (b43, .cells cur43 73 (0, 0)) :: T) ∧ KeysS es18 F ∧ Own rHd cur43 cap43 hs ∧ TR T hs rs ∧ SR g (4 * c + d) F M rs ∧ d ≤ 4) (fun (d, es18, ck18, F, M, b43, cap43, cur43, hs, T, rs) => 4 - d) ((0, es18, ck18, F, M, b43, cap43, cur43, hs, T, rs)) (by exact ⟨rfl, rfl, rfl, rfl, rfl, rfl, rfl, trivial⟩) ?_ ?_
    · exact ⟨hH, hM18, ho43, hT, hS, by omega⟩
    rintro ⟨d, es18, ck18, F, M, b43, cap43, cur43, hs, T, rs⟩ wn ⟨hH, hM18, ho43, hT, hS, hd⟩
    intro mu0 hmu; try dsimp only at hmu
    show WC _ _ _ _ [(0, .slice a g.length cap), (4, .map (some b18)), (10, vsl b43 hs.length cap43), (11, vint c), (45, vint (nR g * nC g : Nat)), (46, vint c), (49, vint d)] _
    refine WC.seq ?_
    refine WC.region ?_
    refine WL.u rfl rfl (Wt.plain rfl) (Ex.lss rfl rfl) ?_
    refine WL.next ?_
    refine WC.seq ?_
    refine WC.cond rfl (fun hc4 => ?_) (fun hc4 => ?_)
    · have hc4' := hc4; try simp only [decide_eq_true_eq, decide_eq_false_iff_not, Bool.not_eq_true', Bool.not_eq_false', Bool.not_eq_true, Bool.not_eq_false] at hc4'
      have hld : d < 4 := by omega
      have hok : Ok g (c, d) := ⟨hlc, hld⟩
      have hxx : 4 * c + d < 4 * (nR g * nC g) := by omega
      have hso : stepOf (4 * c + d) = (c, d) := stepOf_code (s := (c, d)) hld
      have hFM := hS.f (c, d) hok
      have hls : hs.length ≤ 100 := by have := hS.l; rw [← hT.len] at this; omega
      refine WC.skip ?_
      refine WN.next ?_
      refine WC.seq ?_
      refine WC.block ?_
      refine WC.seq ?_
      refine WC.region ?_
      refine WL.u rfl rfl (Wt.plain rfl) (Ex.move rfl) ?_
      refine WL.u rfl rfl (Wt.plain rfl) (Ex.assign rfl) ?_
      refine WL.next ?_
      refine WC.seq ?_
      refine WC.seq ?_
      refine WC.region ?_
      refine WL.u rfl rfl (Wt.plain rfl) (Ex.move rfl) ?_
      refine WL.u rfl rfl (Wt.plain rfl) (Ex.move rfl) ?_
      refine WL.u rfl rfl (Wt.plain rfl) (Ex.move rfl) ?_
      refine WL.u rfl rfl (Wt.plain rfl) (Ex.buildS bd86 rfl rfl rfl rfl rfl) ?_
      refine WL.lookupS ((c, d)) mt63 hM18 rfl rfl rfl (Wt.plain rfl) (hH.at 0 rfl) (fun u57 => ?_)
      refine WL.u rfl rfl (Wt.plain rfl) (Ex.move rfl) ?_
      refine WL.u rfl rfl (Wt.plain rfl) (Ex.extract rfl rfl) ?_
      refine WL.u rfl rfl (Wt.plain rfl) (Ex.extract rfl rfl) ?_
      refine WL.u rfl rfl (Wt.plain rfl) (Ex.assign rfl) ?_
      refine WL.u rfl rfl (Wt.plain rfl) (Ex.assign rfl) ?_
      refine WL.next ?_
      refine WC.seq ?_
      refine WC.region ?_
      refine WL.u rfl rfl (Wt.plain rfl) (Ex.move rfl) ?_
      refine WL.next ?_
      refine WC.cond rfl (fun hc5 => ?_) (fun hc5 => ?_)
      · have hc5' := hc5; try simp only [decide_eq_true_eq, decide_eq_false_iff_not, Bool.not_eq_true', Bool.not_eq_false', Bool.not_eq_true, Bool.not_eq_false] at hc5'
        rw [hFM] at hc5
        refine WC.exit ?_
        refine WN.exitThen ?_
        refine WN.exitHere ?_
        refine WN.next ?_
        refine WC.region ?_
        refine WL.u rfl rfl (Wt.plain rfl) (Ex.add rfl rfl (by omega)) ?_
        refine WL.u rfl rfl (Wt.plain rfl) (Ex.move rfl) ?_
        refine WL.last ?_
        replace hH := hH.f1
        replace hH := hH.f1
        refine WN.round (d + 1, es18, ck18, F, M, b43, cap43, cur43, hs, T, rs) (by exact ⟨rfl, rfl, rfl, rfl, rfl, rfl, rfl, trivial⟩) ?_ ?_
        · exact ⟨hH, hM18, ho43, hT, hS.skip hxx hc5, by omega⟩
        · (try dsimp only); omega
      have hc5' := hc5; try simp only [decide_eq_true_eq, decide_eq_false_iff_not, Bool.not_eq_true', Bool.not_eq_false', Bool.not_eq_true, Bool.not_eq_false] at hc5'
      rw [hFM] at hc5
      have hnb : ¬ OnBeam g (c, d) := by rw [← hso]; exact hS.off hc5
      have hcl := close_len g (c, d)
      have hcok := close_ok hz hok
      refine WC.skip ?_
      refine WN.next ?_
      refine WC.seq ?_
      refine WC.region ?_
      refine WL.u rfl rfl (Wt.plain rfl) (Ex.move rfl) ?_
      refine WL.u rfl rfl (Wt.plain rfl) (Ex.move rfl) ?_
      refine WL.u rfl rfl (Wt.plain rfl) (Ex.move rfl) ?_
      refine WL.u rfl rfl (Wt.plain rfl) (Ex.buildS bd86 rfl rfl rfl rfl rfl) ?_
      refine WL.call callable55 rfl (Wt.plain rfl) rfl rfl (iroundFrom g _ _ (c, d) _ (hg.kept hH.keep) hG hok hnb) ?_
      rintro _ wn ⟨hC, hN⟩; obtain ⟨b65, cap65, cur65, rfl, hge65, hbb65, ho65⟩ := hN.own; replace hH := hH.push hC hge65 hbb65; clear hC hN
      refine WL.u rfl rfl (Wt.plain rfl) (Ex.assign rfl) ?_
      refine WL.next ?_
      refine WC.seq ?_
      refine WC.seq ?_
      refine WC.region ?_
      refine WL.u rfl rfl (Wt.plain rfl) (Ex.move rfl) ?_
      refine WL.u rfl rfl (Wt.plain rfl) (Ex.lenSl Try.underlying73 rfl) ?_
      refine WL.u rfl rfl (Wt.plain rfl) (Ex.move rfl) ?_
      refine WL.next ?_
      refine WC.block ?_
      replace hH := hH.f2
      replace hH := hH.f2
      refine WC.loop (ι := Nat × (Array MapEntry) × Nat × (Nat × Nat → Bool)) (fun (i, es18, ck18, F) => [(0, .slice a g.length cap), (4, .map (some b18)), (10, vsl b43 hs.length cap43), (11, vint c), (12, vint d), (15, vsl b65 (close g (c, d)).1.length cap65), (45, vint (nR g * nC g : Nat)), (46, vint c), (49, vint d), (66, vsl b65 (close g (c, d)).1.length cap65), (67, vint (close g (c, d)).1.length), (68, vint i)]) (fun (i, es18, ck18, F) wn => Hp [] w wn ((b18, .map es18 ck18) :: (b43, .cells cur43 73 (0, 0)) :: (b65, .cells cur65 86 (0, 0)) :: T) ∧ KeysS es18 F ∧ (∀ s, Ok g s → F s = (M (code s) || decide (s ∈ (close g (c, d)).1.take i) || decide (s ∈ ((close g (c, d)).1.take i).map (rev g)))) ∧ i ≤ (close g (c, d)).1.length) (fun (i, es18, ck18, F) => (close g (c, d)).1.length - i) ((0, es18, ck18, F)) (by exact ⟨rfl, rfl, rfl, rfl, rfl, rfl, rfl, rfl, rfl, rfl, rfl, rfl, trivial⟩) ?_ ?_
      · exact ⟨hH, hM18, fun s hs => by rw [hS.f s hs, List.take_zero]; simp, Nat.zero_le _⟩
      rintro ⟨i, es18, ck18, F⟩ wn ⟨hH, hM18, hF2, hi⟩
      intro mu0 hmu; try dsimp only at hmu
      show WC _ _ _ _ [(0, .slice a g.length cap), (4, .map (some b18)), (10, vsl b43 hs.length cap43), (11, vint c), (12, vint d), (15, vsl b65 (close g (c, d)).1.length cap65), (45, vint (nR g * nC g : Nat)), (46, vint c), (49, vint d), (66, vsl b65 (close g (c, d)).1.length cap65), (67, vint (close g (c, d)).1.length), (68, vint i)] _
      refine WC.seq ?_
      refine WC.region ?_
      refine WL.u rfl rfl (Wt.plain rfl) (Ex.lss rfl rfl) ?_
      refine WL.next ?_
      refine WC.seq ?_
      refine WC.cond rfl (fun hc6 => ?_) (fun hc6 => ?_)
      · have hc6' := hc6; try simp only [decide_eq_true_eq, decide_eq_false_iff_not, Bool.not_eq_true', Bool.not_eq_false', Bool.not_eq_true, Bool.not_eq_false] at hc6'
        have hil : i < (close g (c, d)).1.length := by omega
        have hget := getD_get (close g (c, d)).1 i (0, 0) hil
        have hoki := hcok _ (List.mem_of_getElem? hget)
        refine WC.skip ?_
        refine WN.next ?_
        refine WC.seq ?_
        refine WC.block ?_
        refine WC.seq ?_
        refine WC.region ?_
        refine WL.u rfl rfl (Wt.plain rfl) (Ex.indexAddr Try.underlying73 ty86 rfl rfl (by omega)) ?_
        refine WL.u rfl rfl (Wt.plain rfl) (Ex.loadSlS Try.underlying86 ty86 (ho65.slAt hH 2 rfl) rfl hget rfl) ?_
        refine WL.alloc ty86 rfl rfl (Wt.plain rfl) hH (fun b17 wn hb17 hk17 hH => ?_)
        refine WL.store2 ty86 rfl rfl rfl rfl (Wt.plain rfl) hH (fun wn hk hH => ?_)
        refine WL.next ?_
        refine WC.seq ?_
        refine WC.tail 7 rfl (by kernel_rfl) ?_
        replace hH := hH.drew
        refine WS.u rfl rfl (Wt.plain rfl) (Ex.move rfl) ?_
        refine WS.u rfl rfl (Wt.plain rfl) (Ex.loadHp2 Try.underlying86 ty86 rfl hH) ?_
        refine WS.u rfl rfl (Wt.plain rfl) (Ex.move rfl) ?_
        refine WS.call callable48 rfl (Wt.plain rfl) rfl rfl (iportMany _ _ _ _ (hg.kept hH.keep) hG) ?_
        refine WS.u rfl rfl (Wt.plain rfl) (Ex.move rfl) ?_
        refine WS.u rfl rfl (Wt.plain rfl) (Ex.lenSl Try.underlying64 rfl) ?_
        refine WS.u rfl rfl (Wt.plain rfl) (Ex.add rfl rfl (by omega)) ?_
        refine WS.nil ?_
        replace hH := hH.f1
        refine WL.mapSetS ((close g (c, d)).1.getD i (0, 0)) mt63 hM18 rfl rfl rfl (Wt.plain rfl) hH (fun es18 ck18 wn hk hH hM18 => ?_)
        refine WL.next ?_
        refine WC.region ?_
        refine WL.u rfl rfl (Wt.plain rfl) (Ex.move rfl) ?_
        refine WL.u rfl rfl (Wt.plain rfl) (Ex.move rfl) ?_
        replace hH := hH.f1
        refine WL.u rfl rfl (Wt.plain rfl) (Ex.loadHp2 Try.underlying86 ty86 rfl hH) ?_
        refine WL.call callable56 rfl (Wt.plain rfl) rfl rfl (ireversed g _ _ ((close g (c, d)).1.getD i (0, 0)) _ (hg.kept hH.keep) hG hoki) ?_
        rintro _ wn ⟨rfl, hC⟩; replace hH := hH.call hC; clear hC
        refine WL.u rfl rfl (Wt.plain rfl) (Ex.move rfl) ?_
        refine WL.call callable48 rfl (Wt.plain rfl) rfl rfl (iportMany _ _ _ _ (hg.kept hH.keep) hG) ?_
        rintro _ _ ⟨rfl, hw⟩; obtain rfl := hw.symm
        refine WL.u rfl rfl (Wt.plain rfl) (Ex.move rfl) ?_
        refine WL.u rfl rfl (Wt.plain rfl) (Ex.lenSl Try.underlying64 rfl) ?_
        refine WL.u rfl rfl (Wt.plain rfl) (Ex.add rfl rfl (by omega)) ?_
        replace hH := hH.f1
        refine WL.mapSetS (rev g ((close g (c, d)).1.getD i (0, 0))) mt63 hM18 rfl rfl rfl (Wt.plain rfl) hH (fun es18 ck18 wn hk hH hM18 => ?_)
        refine WL.last ?_
        refine WN.normalBlock ?_
        refine WN.next ?_
        refine WC.region ?_
        refine WL.u rfl rfl (Wt.plain rfl) (Ex.add rfl rfl (by omega)) ?_
        refine WL.u rfl rfl (Wt.plain rfl) (Ex.move rfl) ?_
        refine WL.last ?_
        replace hH := hH.f3
        replace hH := hH.f3
        replace hH := hH.f2
        refine WN.round (i + 1, es18, ck18, fun x => (F x || x == (close g (c, d)).1.getD i (0, 0)) || x == rev g ((close g (c, d)).1.getD i (0, 0))) (by exact ⟨rfl, rfl, rfl, rfl, rfl, rfl, rfl, rfl, rfl, rfl, rfl, rfl, trivial⟩) ?_ ?_
        · exact ⟨hH.drop 3, hM18, fun x hx => by show (F x || x == (close g (c, d)).1.getD i (0, 0) || x == rev g ((close g (c, d)).1.getD i (0, 0))) = _; rw [hF2 x hx, take_snoc hget]; exact mark2_snoc g _ _ _ _, by omega⟩
        · (try dsimp only); omega
      have hc6' := hc6; try simp only [decide_eq_true_eq, decide_eq_false_iff_not, Bool.not_eq_true', Bool.not_eq_false', Bool.not_eq_true, Bool.not_eq_false] at hc6'
      have hil : i = (close g (c, d)).1.length := by omega
      have hS2 := hS.next hxx hc5 (F' := F) (fun s hs => by rw [hF2 s hs, hil, List.take_length, hso]; unfold markL; rw [inL_mem (fun s hs => (hcok s hs).d) hs.d, inL_mem (rev_d g _) hs.d])
      rw [hso] at hS2
      refine WC.exit ?_
      refine WN.exitThen ?_
      refine WN.exitThen ?_
      refine WN.exitHere ?_
      refine WN.next ?_
      refine WC.region ?_
      refine WL.u rfl rfl (Wt.plain rfl) (Ex.move rfl) ?_
      refine WL.u rfl rfl (Wt.plain rfl) (Ex.move rfl) ?_
      replace hH := hH.f1
      refine WL.append1 (r := rHd) (u := ((some ⟨b65, 0, none⟩, (close g (c, d)).1.length, cap65) : Hd)) Try.underlying64 ty73 rfl rfl (fun _ => rfl) (fun _ => rfl) rfl rfl (Wt.plain rfl) (fun _ => (Wt.plain rfl)) hH ho43 rfl (by omega) (by omega) (fun b43 cap43 cur43 wn x43 hb43 hk43 hH ho43 => ?_)
      refine WL.u rfl rfl (Wt.plain rfl) (Ex.assign rfl) ?_
      refine WL.last ?_
      refine WN.normalBlock ?_
      refine WN.next ?_
      refine WC.region ?_
      refine WL.u rfl rfl (Wt.plain rfl) (Ex.add rfl rfl (by omega)) ?_
      refine WL.u rfl rfl (Wt.plain rfl) (Ex.move rfl) ?_
      refine WL.last ?_
      replace hH := hH.f1
      refine WN.round (d + 1, es18, ck18, F, markL g M (close g (c, d)).1, b43, cap43, cur43, hs ++ [((some ⟨b65, 0, none⟩, (close g (c, d)).1.length, cap65) : Hd)], (b65, .cells cur65 86 (0, 0)) :: T, rs ++ [(close g (c, d)).1]) (by exact ⟨rfl, rfl, rfl, rfl, rfl, rfl, rfl, trivial⟩) ?_ ?_
      · exact ⟨hH, hM18, ho43, hT.snoc ho65, hS2, by omega⟩
      · (try dsimp only); omega
    have hc4' := hc4; try simp only [decide_eq_true_eq, decide_eq_false_iff_not, Bool.not_eq_true', Bool.not_eq_false', Bool.not_eq_true, Bool.not_eq_false] at hc4'
    obtain rfl : d = 4 := by omega
    refine WC.exit ?_
    refine WN.exitThen ?_
    refine WN.exitThen ?_
    refine WN.exitHere ?_
    refine WN.normalBlock ?_
    refine WN.next ?_
    refine WC.region ?_
    refine WL.u rfl rfl (Wt.plain rfl) (Ex.add rfl rfl (by omega)) ?_
    refine WL.u rfl rfl (Wt.plain rfl) (Ex.move rfl) ?_
    refine WL.last ?_
    replace hH := hH.f1
    replace hH := hH.f1
    refine WN.round (c + 1, es18, ck18, F, M, b43, cap43, cur43, hs, T, rs) (by exact ⟨rfl, rfl, rfl, rfl, rfl, trivial⟩) ?_ ?_
    · exact ⟨hH, hM18, ho43, hT, by rw [Nat.mul_add, Nat.mul_one]; exact hS, by omega⟩
    · (try dsimp only); omega
  have hc3' := hc3; try simp only [decide_eq_true_eq, decide_eq_false_iff_not, Bool.not_eq_true', Bool.not_eq_false', Bool.not_eq_true, Bool.not_eq_false] at hc3'
  obtain rfl : c = nR g * nC g := by omega
  have hd := hS.done
  refine WC.exit ?_
  refine WN.exitThen ?_
  refine WN.exitThen ?_
  refine WN.exitHere ?_
  refine WN.next ?_
  refine WC.seq ?_
  refine WC.region ?_
  refine WL.u rfl rfl (Wt.plain rfl) (Ex.move rfl) ?_
  refine WL.u rfl rfl (Wt.plain rfl) (Ex.move rfl) ?_
  refine WL.u rfl rfl (Wt.plain rfl) (Ex.assign rfl) ?_
  refine WL.u rfl rfl (Wt.plain rfl) (Ex.assign rfl) ?_
  refine WL.next ?_
  refine WC.ret ?_
  refine WN.body2 rfl rfl rfl ?_
  exact ⟨_, _, rfl, hH.keep, hs, New.of (hH.front 1 rfl) ho43 (hH.base 1 rfl), by rw [hT.lens, hd], hd ▸ hT.reads hH.tail.tail⟩

theorem iroundMany (g : Grid) (a : Option Addr) (cap : Nat) (w : World) (hg : Sl rStr w a g) (hG : GridOk g) : Fn Try.prog 26 [.slice a g.length cap] w (fun v w1 => v = vint (rounds g).length ∧ Keep [] w w1) := by
  refine Fn.enter (n := 12) Try.func26 rfl rfl rfl ?_
  show WC _ _ _ _ [(0, .slice a g.length cap)] _
  have hH := Hp.start [] w
  refine WC.seq ?_
  refine WC.region ?_
  refine WL.u rfl rfl (Wt.plain rfl) (Ex.assign rfl) ?_
  refine WL.next ?_
  refine WC.seq ?_
  refine WC.region ?_
  refine WL.u rfl rfl (Wt.plain rfl) (Ex.move rfl) ?_
  refine WL.call callable41 rfl (Wt.plain rfl) rfl rfl (iallPaths _ _ _ _ (hg.kept hH.keep) hG) ?_
  rintro _ wn ⟨x, y, rfl, hC, hs, hN, hl, _⟩; obtain ⟨b7, cap7, cur7, rfl, hge7, hbb7, ho7⟩ := hN.own; have hl2 := congrArg List.length hl; rw [List.length_map, List.length_map] at hl2; replace hH := hH.call hC
  refine WL.u rfl rfl (Wt.plain rfl) (Ex.move rfl) ?_
  refine WL.u rfl rfl (Wt.plain rfl) (Ex.extract rfl rfl) ?_
  refine WL.u rfl rfl (Wt.plain rfl) (Ex.extract rfl rfl) ?_
  refine WL.u rfl rfl (Wt.plain rfl) (Ex.assign rfl) ?_
  refine WL.u rfl rfl (Wt.plain rfl) (Ex.assign rfl) ?_
  refine WL.next ?_
  refine WC.seq ?_
  refine WC.region ?_
  refine WL.u rfl rfl (Wt.plain rfl) (Ex.move rfl) ?_
  refine WL.u rfl rfl (Wt.plain rfl) (Ex.lenSl Try.underlying64 rfl) ?_
  refine WL.u rfl rfl (Wt.plain rfl) (Ex.assign rfl) ?_
  refine WL.next ?_
  refine WC.ret ?_
  refine WN.body1 rfl rfl ?_
  exact ⟨by rw [hl2], hH.keep⟩

end Go.Proofs.Ytmlkabddhdkpaaa
