/- The blocks of the rounds that have been found, and what they read. -/
import Derived.Test.YtmhmdlgcdeodmaaDoorHd
import Derived.Test.YtmhmdlgcdeodmaaDoorMapS
import Derived.Test.YtmhmdlgcdeodmaaDoorRndP
import Derived.Test.YtmhmdlgcdeodmaaDoorDoGi
import Derived.Test.YtmhmdlgcdeodmaaDoorCP
import Derived.Test.YtmhmdlgcdeodmaaDoorDoTb
namespace Go.Proofs.YtmhmdlgcdeodmaaDoor
set_option maxRecDepth 100000
set_option linter.unusedSimpArgs false
set_option linter.unusedVariables false
open Go Go.RowKit
abbrev Rs := List (List (Nat × Nat))
abbrev Tl := List (Nat × Obj)
/-- T are the blocks of hs, newest first; they read rs -/
inductive TR : Tl → List Hd → Rs → Prop
  | nil : TR [] [] []
  | snoc {T : Tl} {hs : List Hd} {rs : Rs} {b cap : Nat} {cur : Array Value} {r : List (Nat × Nat)} : TR T hs rs → Own rStep cur cap r → TR ((b, .cells cur 48 (0, 0)) :: T) (hs ++ [((some ⟨b, 0, none⟩, r.length, cap) : Hd)]) (rs ++ [r])
/-- the heads hs read rs, in blocks from lo on -/
structure Reads (lo : Nat) (w : World) (hs : List Hd) (rs : Rs) : Prop where
  len : hs.length = rs.length
  get : ∀ (i : Nat) (h : Hd) (r : List (Nat × Nat)), hs[i]? = some h → rs[i]? = some r → h.2.1 = r.length ∧ Sl rStep w h.1 r ∧ ∀ q, h.1 = some q → lo ≤ q.block
theorem TR.len {T : Tl} {hs : List Hd} {rs : Rs} (h : TR T hs rs) : hs.length = rs.length := by
  induction h with
  | nil => rfl
  | snoc _ _ ih => simp [ih]
theorem TR.lens {T : Tl} {hs : List Hd} {rs : Rs} (h : TR T hs rs) : hs.map (fun h => h.2.1) = rs.map List.length := by
  induction h with
  | nil => rfl
  | snoc _ _ ih => simp [ih]
theorem TR.reads {w0 w : World} {T : Tl} {hs : List Hd} {rs : Rs} (h : TR T hs rs) (hH : Hp [] w0 w T) : Reads w0.heap.size w hs rs := by
  induction h with
  | nil => exact ⟨rfl, fun i h r h1 _ => by simp at h1⟩
  | @snoc T hs rs b cap cur r hT ho ih =>
    have h2 := ih hH.tail
    refine ⟨by simp [h2.len], fun i h' r' h1 h3 => ?_⟩
    rw [List.getElem?_append] at h1 h3
    by_cases hi : i < hs.length
    · rw [if_pos hi] at h1
      rw [if_pos (by rw [← h2.len]; exact hi)] at h3
      exact h2.get i h' r' h1 h3
    · rw [if_neg hi] at h1
      rw [if_neg (by rw [← h2.len]; exact hi)] at h3
      rw [List.getElem?_singleton] at h1 h3
      split at h1
      · split at h3
        · rw [← Option.some.inj h1, ← Option.some.inj h3]
          refine ⟨rfl, ho.slAt hH 0 rfl, fun q hq => ?_⟩
          cases hq
          exact hH.base 0 rfl
        · cases h3
      · cases h1
theorem Reads.ex {lo : Nat} {w : World} {hs : List Hd} {rs : Rs} (h : Reads lo w hs rs) {i : Nat} (hi : i < rs.length) : ∃ a c, rHd.val (hs.getD i hd0) = .slice a (rs.getD i []).length c ∧ Sl rStep w a (rs.getD i []) ∧ ∀ q, a = some q → lo ≤ q.block := by
  have h1 : hs[i]? = some (hs.getD i hd0) := getD_get hs i hd0 (by rw [h.len]; exact hi)
  have h2 : rs[i]? = some (rs.getD i []) := getD_get rs i [] hi
  have h3 := h.get i _ _ h1 h2
  exact ⟨(hs.getD i hd0).1, (hs.getD i hd0).2.2, by rw [← h3.1]; rfl, h3.2⟩
/-- the sweep so far: F tells the steps that are marked, R the rounds that have been found -/
structure SR (g : Grid) (x : Nat) (F : Nat × Nat → Bool) (M : Nat → Bool) (R : Rs) : Prop where
  f : ∀ s, Ok g s → F s = M (code s)
  b : ∀ y, OnBeam g (stepOf y) → M y = true
  r : R ++ sweep g (List.range' x (4 * (nR g * nC g) - x)) M = rounds g
  l : R.length ≤ x
theorem SR.start {g : Grid} (z : Sz g) {F : Nat × Nat → Bool} (hF : ∀ x, F x = beamF g (ports g) x) : SR g 0 F (beamMark g) [] :=
  ⟨fun s hs => by rw [hF, beamF_mark z hs], fun y hy => (beamMark_iff z).2 hy, by rw [List.nil_append, Nat.sub_zero, ← List.range_eq_range']; rfl, by simp⟩
theorem SR.skip {g : Grid} {x : Nat} {F : Nat × Nat → Bool} {M : Nat → Bool} {R : Rs} (h : SR g x F M R) (hx : x < 4 * (nR g * nC g)) (hm : M x = true) : SR g (x + 1) F M R := by
  refine ⟨h.f, h.b, ?_, by have := h.l; omega⟩
  have hr := h.r
  obtain ⟨k, hk⟩ : ∃ k, 4 * (nR g * nC g) - x = k + 1 := ⟨4 * (nR g * nC g) - x - 1, by omega⟩
  rw [hk, List.range'_succ, sweep, if_pos hm] at hr
  rw [show 4 * (nR g * nC g) - (x + 1) = k by omega]
  exact hr
theorem SR.next {g : Grid} {x : Nat} {F F' : Nat × Nat → Bool} {M : Nat → Bool} {R : Rs} (h : SR g x F M R) (hx : x < 4 * (nR g * nC g)) (hm : M x = false) (hF : ∀ s, Ok g s → F' s = markL g M (close g (stepOf x)).1 (code s)) : SR g (x + 1) F' (markL g M (close g (stepOf x)).1) (R ++ [(close g (stepOf x)).1]) := by
  refine ⟨hF, fun y hy => by simp [markL, h.b y hy], ?_, by have := h.l; simp; omega⟩
  have hr := h.r
  obtain ⟨k, hk⟩ : ∃ k, 4 * (nR g * nC g) - x = k + 1 := ⟨4 * (nR g * nC g) - x - 1, by omega⟩
  rw [hk, List.range'_succ, sweep, if_neg (by rw [hm]; decide)] at hr
  rw [show 4 * (nR g * nC g) - (x + 1) = k by omega, List.append_assoc]
  exact hr
theorem SR.done {g : Grid} {F : Nat × Nat → Bool} {M : Nat → Bool} {R : Rs} (h : SR g (4 * (nR g * nC g)) F M R) : R = rounds g := by
  have hr := h.r
  rw [Nat.sub_self] at hr
  simpa [sweep] using hr
theorem SR.off {g : Grid} {x : Nat} {F : Nat × Nat → Bool} {M : Nat → Bool} {R : Rs} (h : SR g x F M R) {y : Nat} (hm : M y = false) : ¬ OnBeam g (stepOf y) := fun hb => by rw [h.b y hb] at hm; cases hm
end Go.Proofs.YtmhmdlgcdeodmaaDoor

/- The program's rounds: the way back, one round, all of them. -/
namespace Go.Proofs.YtmhmdlgcdeodmaaDoor
set_option maxRecDepth 100000
set_option linter.unusedSimpArgs false
set_option linter.unusedVariables false
open Go Go.RowKit
theorem st48 : StepTy Tryd.prog 48 3 := ⟨⟨_, _, Tryd.underlying48, by decide, by decide, rfl, rfl, rfl, rfl⟩, by kernel_rfl, by kernel_rfl, Tryd.underlying3, flat3⟩
theorem mt63 : MapSTy Tryd.prog 63 48 3 3 := ⟨Tryd.underlying63, st48, ty3⟩
theorem Own.oneStep (s : Nat × Nat) : Own rStep #[vint s.1, vint s.2] 1 [s] := ⟨rfl, by simp, by decide, rfl⟩

theorem ireversed (g : Grid) (a : Option Addr) (cap : Nat) (s : Nat × Nat) (w : World) (hg : Sl rStr w a g) (hG : GridOk g) (hok : Ok g s) : Fn Tryd.prog 77 [.slice a g.length cap, .agg #[vint s.1, vint s.2]] w (fun v w1 => v = .agg #[vint (rev g s).1, vint (rev g s).2] ∧ Keep [] w w1) := by
  refine Fn.enter (n := 17) Tryd.func77 rfl rfl rfl ?_
  show WC _ _ _ _ [(0, .slice a g.length cap), (1, .agg #[vint s.1, vint s.2])] _
  have hH := Hp.start [] w
  have hb4 := bend_lt (letter g s.1) s.2 hok.d
  refine WC.seq ?_
  refine WC.region ?_
  refine WL.box rfl rfl rfl (Wt.plain rfl) hH (fun b3 wn hb3 hk3 hH => ?_)
  refine WL.alloc ty48 rfl rfl (Wt.plain rfl) hH (fun b4 wn hb4 hk4 hH => ?_)
  refine WL.next ?_
  refine WC.seq ?_
  have hQ := hH
  refine WC.plan (Keep [b4] _) [(0, true), (1, true), (2, true), (3, true), (4, true), (6, true), (7, true), (5, false), (8, false), (9, true), (10, true), (11, true), (12, false)] rfl (by kernel_rfl) (Keep.drew _ _) (fun hR => ?_)
  replace hH := hH.drew
  refine WPl.q rfl rfl rfl (Wt.plain rfl) (fun w hC => Ex.fieldAddr fd48_0 rfl) ?_
  refine WPl.q rfl rfl rfl (Wt.plain rfl) (fun w hC => Ex.loadK flat3 rfl (hQ.at 1 rfl) hC (hQ.nin 1 0 rfl rfl rfl) rfl) ?_
  refine WPl.q rfl rfl rfl (Wt.plain rfl) (fun w hC => Ex.move rfl) ?_
  refine WPl.q rfl rfl rfl (Wt.plain rfl) (fun w hC => Ex.fieldAddr fd48_0 rfl) ?_
  refine WPl.q rfl rfl rfl (Wt.plain rfl) (fun w hC => Ex.loadK flat3 rfl (hQ.at 1 rfl) hC (hQ.nin 1 0 rfl rfl rfl) rfl) ?_
  refine WPl.q rfl rfl rfl (Wt.plain rfl) (fun w hC => Ex.fieldAddr fd48_1 rfl) ?_
  refine WPl.q rfl rfl rfl (Wt.plain rfl) (fun w hC => Ex.loadK flat3 rfl (hQ.at 1 rfl) hC (hQ.nin 1 0 rfl rfl rfl) rfl) ?_
  refine WPl.f rfl ?_
  refine WL.call callable88 rfl (Wt.plain rfl) rfl rfl (iletterAt g _ _ s.1 _ (hg.kept hH.keep) hG hok.cell) ?_
  rintro _ wn ⟨rfl, hC⟩; replace hR := hR.trans (hC.keep _); replace hH := hH.dr hC; clear hC
  refine WPl.b hR ?_
  refine WPl.f rfl ?_
  refine WL.call callable87 rfl (Wt.plain rfl) rfl rfl (iturned (letter g s.1) s.2 _ hok.d) ?_
  rintro _ wn ⟨rfl, hC⟩; replace hR := hR.trans hC.nil; replace hH := hH.call hC; clear hC
  refine WPl.b hR ?_
  refine WPl.q rfl rfl rfl (Wt.plain rfl) (fun w hC => Ex.add rfl rfl (by omega)) ?_
  refine WPl.q rfl rfl rfl (Wt.plain rfl) (fun w hC => (Ex.rem rfl rfl (by omega) (by omega)).to (congrArg (Value.int IntKind.i64) (show _ = ((rv (bend (letter g s.1) s.2) : Nat) : Int) by unfold rv; omega))) ?_
  refine WPl.q rfl rfl rfl (Wt.plain rfl) (fun w hC => Ex.buildS bd48 rfl rfl rfl rfl rfl) ?_
  refine WPl.f rfl ?_
  refine WL.store2 ty48 rfl rfl rfl rfl (Wt.plain rfl) hH (fun wn hk hH => ?_)
  replace hR := hR.trans (hk.mono (by simp))
  refine WPl.b hR ?_
  refine WPl.nil (fun hC => ?_); clear hC
  refine WN.next ?_
  refine WC.ret ?_
  refine WN.cell1 rfl rfl Tryd.underlying48 ty48 hH ?_
  exact ⟨rfl, hH.keep⟩

theorem iroundFrom (g : Grid) (a : Option Addr) (cap : Nat) (s0 : Nat × Nat) (w : World) (hg : Sl rStr w a g) (hG : GridOk g) (hok0 : Ok g s0) (hnb0 : ¬ OnBeam g s0) : Fn Tryd.prog 51 [.slice a g.length cap, .agg #[vint s0.1, vint s0.2]] w (fun v w1 => Keep [] w w1 ∧ New rStep 48 w w1 v (close g s0).1) := by
  refine Fn.enter (n := 34) Tryd.func51 rfl rfl rfl ?_
  show WC _ _ _ _ [(0, .slice a g.length cap), (1, .agg #[vint s0.1, vint s0.2])] _
  have hH := Hp.start [] w
  have hz := hG.sz
  obtain ⟨f1, _, hR1, hex1⟩ := (CI.start hz hok0).next hz hnb0
  rw [List.nil_append] at hR1
  refine WC.seq ?_
  refine WC.region ?_
  refine WL.box rfl rfl rfl (Wt.plain rfl) hH (fun b3 wn hb3 hk3 hH => ?_)
  refine WL.u rfl rfl (Wt.plain rfl) (Ex.assign rfl) ?_
  refine WL.next ?_
  refine WC.seq ?_
  refine WC.region ?_
  refine WL.u rfl rfl (Wt.plain rfl) (Ex.loadHp2 Tryd.underlying48 ty48 rfl hH) ?_
  refine WL.buildSlice (pv := [(0, rStep.val s0)]) Tryd.underlying61 ty48 rfl rfl rfl (fill_rep rStep (by decide) s0) rfl (Wt.plain rfl) hH (fun b9 wn hb9 hk9 hH => ?_)
  have ho9 := Own.oneStep s0
  refine WL.u rfl rfl (Wt.plain rfl) (Ex.assign rfl) ?_
  refine WL.next ?_
  refine WC.seq ?_
  refine WC.region ?_
  refine WL.u rfl rfl (Wt.plain rfl) (Ex.move rfl) ?_
  replace hH := hH.f1
  refine WL.u rfl rfl (Wt.plain rfl) (Ex.loadHp2 Tryd.underlying48 ty48 rfl hH) ?_
  refine WL.call callable76 rfl (Wt.plain rfl) rfl rfl (iafter _ _ _ s0.1 s0.2 _ (hg.kept hH.keep) hG hok0.cell hok0.d) ?_
  rintro _ wn ⟨rfl, hC⟩; replace hH := hH.call hC; clear hC
  refine WL.u rfl rfl (Wt.plain rfl) (Ex.move rfl) ?_
  refine WL.u rfl rfl (Wt.plain rfl) (Ex.extract rfl rfl) ?_
  refine WL.u rfl rfl (Wt.plain rfl) (Ex.extract rfl rfl) ?_
  refine WL.alloc ty48 rfl rfl (Wt.plain rfl) hH (fun b6 wn hb6 hk6 hH => ?_)
  refine WL.store2 ty48 rfl rfl rfl rfl (Wt.plain rfl) hH (fun wn hk hH => ?_)
  refine WL.u rfl rfl (Wt.plain rfl) (Ex.assign rfl) ?_
  refine WL.next ?_
  refine WC.seq ?_
  refine WC.block ?_
  replace hH := hH.f1
  replace hH := hH.f1
  replace hH := hH.f2
  refine WC.loop (ι := Nat × Nat × (Array Value) × (List (Nat × Nat)) × (Nat × Nat) × Nat) (fun (b9, cap9, cur9, l, s, f) => [(0, .slice a g.length cap), (3, vptr b3 0), (5, vsl b9 l.length cap9), (6, vptr b6 0), (7, vint (-1))]) (fun (b9, cap9, cur9, l, s, f) wn => Hp [] w wn [(b9, .cells cur9 48 (0, 0)), (b6, .cells #[vint s.1, vint s.2] 48 (0, 0)), (b3, .cells #[vint s0.1, vint s0.2] 48 (0, 0))] ∧ Own rStep cur9 cap9 l ∧ RI g s0 l s f) (fun (b9, cap9, cur9, l, s, f) => f) ((b9, 1, #[vint s0.1, vint s0.2], [s0], nx g s0, f1)) (by exact ⟨rfl, rfl, rfl, rfl, congrArg (fun x => some (vint x)) hex1, trivial⟩) ?_ ?_
  · exact ⟨hH, ho9, hR1⟩
  rintro ⟨b9, cap9, cur9, l, s, f⟩ wn ⟨hH, ho9, hR⟩
  have hl100 : l.length ≤ 100 := by have := hR.1; have := cells_le hG; omega
  intro mu0 hmu; try dsimp only at hmu
  show WC _ _ _ _ [(0, .slice a g.length cap), (3, vptr b3 0), (5, vsl b9 l.length cap9), (6, vptr b6 0), (7, vint (-1))] _
  refine WC.seq ?_
  refine WC.seq ?_
  refine WC.region ?_
  replace hH := hH.f1
  refine WL.u rfl rfl (Wt.plain rfl) (Ex.loadHp2 Tryd.underlying48 ty48 rfl hH) ?_
  replace hH := hH.f2
  refine WL.u rfl rfl (Wt.plain rfl) (Ex.loadHp2 Tryd.underlying48 ty48 rfl hH) ?_
  refine WL.u rfl rfl (Wt.plain rfl) (Ex.neqStep st48 (s := s) (u := s0) rfl rfl) ?_
  refine WL.next ?_
  refine WC.cond rfl (fun hc1 => ?_) (fun hc1 => ?_)
  · have hc1' := hc1; try simp only [decide_eq_true_eq, decide_eq_false_iff_not, Bool.not_eq_true', Bool.not_eq_false', Bool.not_eq_true, Bool.not_eq_false] at hc1'
    have hne : s ≠ s0 := of_decide_eq_true hc1
    obtain ⟨hCI, hnb⟩ := hR.go hne
    have hok := hCI.1
    obtain ⟨f2, hf2, hR2, hex2⟩ := hCI.next hz hnb
    refine WC.skip ?_
    refine WN.next ?_
    refine WC.block ?_
    refine WC.seq ?_
    refine WC.seq ?_
    refine WC.region ?_
    refine WL.u rfl rfl (Wt.plain rfl) (Ex.move rfl) ?_
    refine WL.u rfl rfl (Wt.plain rfl) (Ex.geq rfl rfl) ?_
    refine WL.next ?_
    refine WC.condF rfl (decide_eq_false (by omega)) ?_
    refine WC.skip ?_
    refine WN.next ?_
    refine WC.seq ?_
    refine WC.region ?_
    refine WL.u rfl rfl (Wt.plain rfl) (Ex.move rfl) ?_
    replace hH := hH.f1
    refine WL.u rfl rfl (Wt.plain rfl) (Ex.loadHp2 Tryd.underlying48 ty48 rfl hH) ?_
    replace hH := hH.f2
    refine WL.append1 (r := rStep) (u := s) Tryd.underlying61 ty48 rfl rfl (fun _ => rfl) (fun _ => rfl) rfl rfl (Wt.plain rfl) (fun _ => (Wt.plain rfl)) hH ho9 rfl (by omega) (by omega) (fun b9 cap9 cur9 wn x9 hb9 hk9 hH ho9 => ?_)
    refine WL.u rfl rfl (Wt.plain rfl) (Ex.assign rfl) ?_
    refine WL.next ?_
    refine WC.region ?_
    refine WL.u rfl rfl (Wt.plain rfl) (Ex.move rfl) ?_
    replace hH := hH.f1
    refine WL.u rfl rfl (Wt.plain rfl) (Ex.loadHp2 Tryd.underlying48 ty48 rfl hH) ?_
    refine WL.call callable76 rfl (Wt.plain rfl) rfl rfl (iafter _ _ _ s.1 s.2 _ (hg.kept hH.keep) hG hok.cell hok.d) ?_
    rintro _ wn ⟨rfl, hC⟩; replace hH := hH.call hC; clear hC
    refine WL.u rfl rfl (Wt.plain rfl) (Ex.move rfl) ?_
    refine WL.u rfl rfl (Wt.plain rfl) (Ex.extract rfl rfl) ?_
    refine WL.u rfl rfl (Wt.plain rfl) (Ex.extract rfl rfl) ?_
    refine WL.store2 ty48 rfl rfl rfl rfl (Wt.plain rfl) hH (fun wn hk hH => ?_)
    refine WL.u rfl rfl (Wt.plain rfl) (Ex.assign rfl) ?_
    refine WL.last ?_
    refine WN.normalBlock ?_
    replace hH := hH.f2
    replace hH := hH.f1
    replace hH := hH.f2
    refine WN.round (b9, cap9, cur9, l ++ [s], nx g s, f2) (by exact ⟨rfl, rfl, rfl, rfl, congrArg (fun x => some (vint x)) hex2, trivial⟩) ?_ ?_
    · exact ⟨hH, ho9, hR2⟩
    · (try dsimp only); omega
  have hc1' := hc1; try simp only [decide_eq_true_eq, decide_eq_false_iff_not, Bool.not_eq_true', Bool.not_eq_false', Bool.not_eq_true, Bool.not_eq_false] at hc1'
  have he : s = s0 := Classical.not_not.1 (of_decide_eq_false hc1)
  have hd := hR.done he
  refine WC.exit ?_
  refine WN.exitThen ?_
  refine WN.exitThen ?_
  refine WN.exitHere ?_
  refine WN.next ?_
  refine WC.seq ?_
  refine WC.seq ?_
  refine WC.region ?_
  refine WL.u rfl rfl (Wt.plain rfl) (Ex.move rfl) ?_
  refine WL.u rfl rfl (Wt.plain rfl) (Ex.geq rfl rfl) ?_
  refine WL.next ?_
  refine WC.condF rfl (decide_eq_false (by omega)) ?_
  refine WC.skip ?_
  refine WN.next ?_
  refine WC.seq ?_
  refine WC.region ?_
  refine WL.u rfl rfl (Wt.plain rfl) (Ex.move rfl) ?_
  refine WL.u rfl rfl (Wt.plain rfl) (Ex.assign rfl) ?_
  refine WL.next ?_
  refine WC.ret ?_
  refine WN.body1 rfl rfl ?_
  exact ⟨hH.keep, by rw [hd]; exact New.of (hH.front 2 rfl) ho9 (hH.base 2 rfl)⟩

set_option maxHeartbeats 2000000 in
theorem iallPaths (g : Grid) (a : Option Addr) (cap : Nat) (w : World) (hg : Sl rStr w a g) (hG : GridOk g) : Fn Tryd.prog 52 [.slice a g.length cap] w (fun v w1 => ∃ x y, v = .tuple #[x, y] ∧ Keep [] w w1 ∧ ∃ hs : List Hd, New rHd 61 w w1 y hs ∧ hs.map (fun h => h.2.1) = (rounds g).map List.length  ∧ Reads w.heap.size w1 hs (rounds g)) := by
  refine Fn.enter (n := 97) Tryd.func52 rfl rfl rfl ?_
  show WC _ _ _ _ [(0, .slice a g.length cap)] _
  have hH := Hp.start [] w
  have hz := hG.sz
  have hpl := ports_le hG
  have hc25 := cells_le hG
  refine WC.seq ?_
  refine WC.region ?_
  refine WL.u rfl rfl (Wt.plain rfl) (Ex.assign rfl) ?_
  refine WL.u rfl rfl (Wt.plain rfl) (Ex.assign rfl) ?_
  refine WL.next ?_
  refine WC.seq ?_
  refine WC.region ?_
  refine WL.makeMap rfl (Wt.plain rfl) hH (fun b18 wn hb18 hk18 hH => ?_)
  have hM18 := KeysS.nil
  refine WL.u rfl rfl (Wt.plain rfl) (Ex.assign rfl) ?_
  refine WL.next ?_
  refine WC.seq ?_
  refine WC.seq ?_
  refine WC.region ?_
  refine WL.u rfl rfl (Wt.plain rfl) (Ex.move rfl) ?_
  refine WL.call callable65 rfl (Wt.plain rfl) rfl rfl (iportMany _ _ _ _ (hg.kept hH.keep) hG) ?_
  rintro _ _ ⟨rfl, hw⟩; obtain rfl := hw.symm
  refine WL.u rfl rfl (Wt.plain rfl) (Ex.move rfl) ?_
  refine WL.next ?_
  refine WC.block ?_
  refine WC.loop (ι := Nat × (Array MapEntry) × Nat × (Nat × Nat → Bool)) (fun (p, es18, ck18, F) => [(0, .slice a g.length cap), (4, .map (some b18)), (20, vint (ports g)), (21, vint p)]) (fun (p, es18, ck18, F) wn => Hp [] w wn [(b18, .map es18 ck18)] ∧ KeysS es18 F ∧ (∀ x, F x = beamF g p x) ∧ p ≤ ports g) (fun (p, es18, ck18, F) => ports g - p) ((0, #[], 0, fun _ => false)) (by exact ⟨rfl, rfl, rfl, rfl, trivial⟩) ?_ ?_
  · exact ⟨hH, hM18, fun x => rfl, Nat.zero_le _⟩
  rintro ⟨p, es18, ck18, F⟩ wn ⟨hH, hM18, hF, hp⟩
  intro mu0 hmu; try dsimp only at hmu
  show WC _ _ _ _ [(0, .slice a g.length cap), (4, .map (some b18)), (20, vint (ports g)), (21, vint p)] _
  refine WC.seq ?_
  refine WC.region ?_
  refine WL.u rfl rfl (Wt.plain rfl) (Ex.lss rfl rfl) ?_
  refine WL.next ?_
  refine WC.seq ?_
  refine WC.cond rfl (fun hc1 => ?_) (fun hc1 => ?_)
  · have hc1' := hc1; try simp only [decide_eq_true_eq, decide_eq_false_iff_not, Bool.not_eq_true', Bool.not_eq_false', Bool.not_eq_true, Bool.not_eq_false] at hc1'
    have hlt : p < ports g := by omega
    have hwl := way_len g p
    refine WC.skip ?_
    refine WN.next ?_
    refine WC.seq ?_
    refine WC.block ?_
    refine WC.seq ?_
    refine WC.region ?_
    refine WL.u rfl rfl (Wt.plain rfl) (Ex.move rfl) ?_
    refine WL.u rfl rfl (Wt.plain rfl) (Ex.assign rfl) ?_
    refine WL.next ?_
    refine WC.seq ?_
    refine WC.region ?_
    refine WL.u rfl rfl (Wt.plain rfl) (Ex.move rfl) ?_
    refine WL.u rfl rfl (Wt.plain rfl) (Ex.move rfl) ?_
    refine WL.call callable66 rfl (Wt.plain rfl) rfl rfl (ibeam g _ _ p _ (hg.kept hH.keep) hG hlt) ?_
    rintro _ wn ⟨x, rfl, hC, hN⟩; obtain ⟨b27, cap27, cur27, rfl, hge27, hbb27, ho27⟩ := hN.own; replace hH := hH.push hC hge27 hbb27; clear hC hN
    refine WL.u rfl rfl (Wt.plain rfl) (Ex.move rfl) ?_
    refine WL.u rfl rfl (Wt.plain rfl) (Ex.extract rfl rfl) ?_
    refine WL.u rfl rfl (Wt.plain rfl) (Ex.extract rfl rfl) ?_
    refine WL.u rfl rfl (Wt.plain rfl) (Ex.assign rfl) ?_
    refine WL.u rfl rfl (Wt.plain rfl) (Ex.assign rfl) ?_
    refine WL.next ?_
    refine WC.seq ?_
    refine WC.region ?_
    refine WL.u rfl rfl (Wt.plain rfl) (Ex.move rfl) ?_
    refine WL.u rfl rfl (Wt.plain rfl) (Ex.lenSl Tryd.underlying61 rfl) ?_
    refine WL.u rfl rfl (Wt.plain rfl) (Ex.move rfl) ?_
    refine WL.next ?_
    refine WC.block ?_
    replace hH := hH.f1
    refine WC.loop (ι := Nat × (Array MapEntry) × Nat × (Nat × Nat → Bool)) (fun (i, es18, ck18, F) => [(0, .slice a g.length cap), (4, .map (some b18)), (5, vint p), (7, vint (way g p).2), (20, vint (ports g)), (21, vint p), (30, vsl b27 (way g p).1.length cap27), (31, vint (way g p).1.length), (32, vint i)]) (fun (i, es18, ck18, F) wn => Hp [] w wn [(b18, .map es18 ck18), (b27, .cells cur27 48 (0, 0))] ∧ KeysS es18 F ∧ (∀ x, F x = (beamF g p x || decide (x ∈ (way g p).1.take i))) ∧ i ≤ (way g p).1.length) (fun (i, es18, ck18, F) => (way g p).1.length - i) ((0, es18, ck18, F)) (by exact ⟨rfl, rfl, rfl, rfl, rfl, rfl, rfl, rfl, rfl, trivial⟩) ?_ ?_
    · exact ⟨hH, hM18, fun x => by rw [hF x, List.take_zero]; simp, Nat.zero_le _⟩
    rintro ⟨i, es18, ck18, F⟩ wn ⟨hH, hM18, hF2, hi⟩
    intro mu0 hmu; try dsimp only at hmu
    show WC _ _ _ _ [(0, .slice a g.length cap), (4, .map (some b18)), (5, vint p), (7, vint (way g p).2), (20, vint (ports g)), (21, vint p), (30, vsl b27 (way g p).1.length cap27), (31, vint (way g p).1.length), (32, vint i)] _
    refine WC.seq ?_
    refine WC.region ?_
    refine WL.u rfl rfl (Wt.plain rfl) (Ex.lss rfl rfl) ?_
    refine WL.next ?_
    refine WC.seq ?_
    refine WC.cond rfl (fun hc2 => ?_) (fun hc2 => ?_)
    · have hc2' := hc2; try simp only [decide_eq_true_eq, decide_eq_false_iff_not, Bool.not_eq_true', Bool.not_eq_false', Bool.not_eq_true, Bool.not_eq_false] at hc2'
      have hil : i < (way g p).1.length := by omega
      have hget := getD_get (way g p).1 i (0, 0) hil
      refine WC.skip ?_
      refine WN.next ?_
      refine WC.seq ?_
      refine WC.block ?_
      refine WC.seq ?_
      refine WC.region ?_
      refine WL.u rfl rfl (Wt.plain rfl) (Ex.indexAddr Tryd.underlying61 ty48 rfl rfl (by omega)) ?_
      refine WL.u rfl rfl (Wt.plain rfl) (Ex.loadSlS Tryd.underlying48 ty48 (ho27.slAt hH 1 rfl) rfl hget rfl) ?_
      refine WL.alloc ty48 rfl rfl (Wt.plain rfl) hH (fun b9 wn hb9 hk9 hH => ?_)
      refine WL.store2 ty48 rfl rfl rfl rfl (Wt.plain rfl) hH (fun wn hk hH => ?_)
      refine WL.next ?_
      refine WC.region ?_
      refine WL.u rfl rfl (Wt.plain rfl) (Ex.move rfl) ?_
      refine WL.u rfl rfl (Wt.plain rfl) (Ex.loadHp2 Tryd.underlying48 ty48 rfl hH) ?_
      refine WL.u rfl rfl (Wt.plain rfl) (Ex.move rfl) ?_
      refine WL.u rfl rfl (Wt.plain rfl) (Ex.move rfl) ?_
      refine WL.u rfl rfl (Wt.plain rfl) (Ex.min rfl rfl) ?_
      replace hH := hH.f1
      refine WL.mapSetS ((way g p).1.getD i (0, 0)) mt63 hM18 rfl rfl rfl (Wt.plain rfl) hH (fun es18 ck18 wn hk hH hM18 => ?_)
      refine WL.last ?_
      refine WN.normalBlock ?_
      refine WN.next ?_
      refine WC.region ?_
      refine WL.u rfl rfl (Wt.plain rfl) (Ex.add rfl rfl (by omega)) ?_
      refine WL.u rfl rfl (Wt.plain rfl) (Ex.move rfl) ?_
      refine WL.last ?_
      replace hH := hH.f2
      replace hH := hH.f1
      replace hH := hH.first2
      refine WN.round (i + 1, es18, ck18, fun x => F x || x == (way g p).1.getD i (0, 0)) (by exact ⟨rfl, rfl, rfl, rfl, rfl, rfl, rfl, rfl, rfl, trivial⟩) ?_ ?_
      · exact ⟨hH, hM18, fun x => by show (F x || x == (way g p).1.getD i (0, 0)) = _; rw [hF2 x, take_snoc hget]; exact mark_snoc _ _ _ _, by omega⟩
      · (try dsimp only); omega
    have hc2' := hc2; try simp only [decide_eq_true_eq, decide_eq_false_iff_not, Bool.not_eq_true', Bool.not_eq_false', Bool.not_eq_true, Bool.not_eq_false] at hc2'
    have hil : i = (way g p).1.length := by omega
    refine WC.exit ?_
    refine WN.exitThen ?_
    refine WN.exitThen ?_
    refine WN.exitHere ?_
    refine WN.normalBlock ?_
    refine WN.next ?_
    refine WC.region ?_
    refine WL.u rfl rfl (Wt.plain rfl) (Ex.add rfl rfl (by omega)) ?_
    refine WL.u rfl rfl (Wt.plain rfl) (Ex.move rfl) ?_
    refine WL.last ?_
    replace hH := hH.first1
    refine WN.round (p + 1, es18, ck18, F) (by exact ⟨rfl, rfl, rfl, rfl, trivial⟩) ?_ ?_
    · exact ⟨hH, hM18, fun x => by rw [hF2 x, hil, List.take_length, beamF_succ], by omega⟩
    · (try dsimp only); omega
  have hc1' := hc1; try simp only [decide_eq_true_eq, decide_eq_false_iff_not, Bool.not_eq_true', Bool.not_eq_false', Bool.not_eq_true, Bool.not_eq_false] at hc1'
  obtain rfl : p = ports g := by omega
  have hS := SR.start hz hF
  clear hF
  refine WC.exit ?_
  refine WN.exitThen ?_
  refine WN.exitThen ?_
  refine WN.exitHere ?_
  refine WN.next ?_
  refine WC.seq ?_
  refine WC.region ?_
  refine WL.lit0 Tryd.underlying64 ty61 rfl (Wt.plain rfl) hH (fun b43 wn hb43 hk43 hH => ?_)
  have ho43 := Own.nil rHd
  refine WL.u rfl rfl (Wt.plain rfl) (Ex.assign rfl) ?_
  refine WL.next ?_
  refine WC.seq ?_
  refine WC.seq ?_
  refine WC.region ?_
  refine WL.u rfl rfl (Wt.plain rfl) (Ex.move rfl) ?_
  refine WL.call callable50 rfl (Wt.plain rfl) rfl rfl (icells _ _ _ _ (hg.kept hH.keep) hG) ?_
  rintro _ _ ⟨rfl, hw⟩; obtain rfl := hw.symm
  refine WL.u rfl rfl (Wt.plain rfl) (Ex.move rfl) ?_
  refine WL.next ?_
  refine WC.block ?_
  replace hH := hH.f1
  refine WC.loop (ι := Nat × (Array MapEntry) × Nat × (Nat × Nat → Bool) × (Nat → Bool) × Nat × Nat × (Array Value) × (List Hd) × Tl × Rs) (fun (c, es18, ck18, F, M, b43, cap43, cur43, hs, T, rs) => [(0, .slice a g.length cap), (4, .map (some b18)), (10, vsl b43 hs.length cap43), (45, vint (nR g * nC g : Nat)), (46, vint c)]) (fun (c, es18, ck18, F, M, b43, cap43, cur43, hs, T, rs) wn => Hp [] w wn ((b18, .map es18 ck18) :: (b43, .cells cur43 61 (0, 0)) :: T) ∧ KeysS es18 F ∧ Own rHd cur43 cap43 hs ∧ TR T hs rs ∧ SR g (4 * c) F M rs ∧ c ≤ nR g * nC g) (fun (c, es18, ck18, F, M, b43, cap43, cur43, hs, T, rs) => nR g * nC g - c) ((0, es18, ck18, F, beamMark g, b43, 0, #[], [], [], [])) (by exact ⟨rfl, rfl, rfl, rfl, rfl, trivial⟩) ?_ ?_
  · exact ⟨hH, hM18, ho43, TR.nil, hS, Nat.zero_le _⟩
  rintro ⟨c, es18, ck18, F, M, b43, cap43, cur43, hs, T, rs⟩ wn ⟨hH, hM18, ho43, hT, hS, hc⟩
  intro mu0 hmu; try dsimp only at hmu
  show WC _ _ _ _ [(0, .slice a g.length cap), (4, .map (some b18)), (10, vsl b43 hs.length cap43), (45, vint (nR g * nC g : Nat)), (46, vint c)] _
  refine WC.seq ?_
  refine WC.region ?_
  refine WL.u rfl rfl (Wt.plain rfl) (Ex.lss rfl rfl) ?_
  refine WL.next ?_
  refine WC.seq ?_
  refine WC.cond rfl (fun hc3 => ?_) (fun hc3 => ?_)
  · have hc3' := hc3; try simp only [decide_eq_true_eq, decide_eq_false_iff_not, Bool.not_eq_true', Bool.not_eq_false', Bool.not_eq_true, Bool.not_eq_false] at hc3'
    have hlc : c < nR g * nC g := by omega
    refine WC.skip ?_
    refine WN.next ?_
    refine WC.seq ?_
    refine WC.block ?_
    refine WC.seq ?_
    refine WC.region ?_
    refine WL.u rfl rfl (Wt.plain rfl) (Ex.move rfl) ?_
    refine WL.u rfl rfl (Wt.plain rfl) (Ex.assign rfl) ?_
    refine WL.next ?_
    refine WC.seq ?_
    refine WC.region ?_
    refine WL.u rfl rfl (Wt.plain rfl) (Ex.move rfl) ?_
    refine WL.next ?_
    refine WC.block ?_
    replace hH := hH.f1
    replace hH := hH.f1
    refine WC.loop (ι := Nat × (Array MapEntry) × Nat × (Nat × Nat → Bool) × (Nat → Bool) × Nat × Nat × (Array Value) × (List Hd) × Tl × Rs) (fun (d, es18, ck18, F, M, b43, cap43, cur43, hs, T, rs) => [(0, .slice a g.length cap), (4, .map (some b18)), (10, vsl b43 hs.length cap43), (11, vint c), (45, vint (nR g * nC g : Nat)), (46, vint c), (49, vint d)]) (fun (d, es18, ck18, F, M, b43, cap43, cur43, hs, T, rs) wn => Hp [] w wn ((b18, .map es18 ck18) :: (b43, .cells cur43 61 (0, 0)) :: T) ∧ KeysS es18 F ∧ Own rHd cur43 cap43 hs ∧ TR T hs rs ∧ SR g (4 * c + d) F M rs ∧ d ≤ 4) (fun (d, es18, ck18, F, M, b43, cap43, cur43, hs, T, rs) => 4 - d) ((0, es18, ck18, F, M, b43, cap43, cur43, hs, T, rs)) (by exact ⟨rfl, rfl, rfl, rfl, rfl, rfl, rfl, trivial⟩) ?_ ?_
    · exact ⟨hH, hM18, ho43, hT, hS, by omega⟩
    rintro ⟨d, es18, ck18, F, M, b43, cap43, cur43, hs, T, rs⟩ wn ⟨hH, hM18, ho43, hT, hS, hd⟩
    intro mu0 hmu; try dsimp only at hmu
    show WC _ _ _ _ [(0, .slice a g.length cap), (4, .map (some b18)), (10, vsl b43 hs.length cap43), (11, vint c), (45, vint (nR g * nC g : Nat)), (46, vint c), (49, vint d)] _
    refine WC.seq ?_
    refine WC.region ?_
    refine WL.u rfl rfl (Wt.plain rfl) (Ex.lss rfl rfl) ?_
    refine WL.next ?_
    refine WC.seq ?_
    refine WC.cond rfl (fun hc4 => ?_) (fun hc4 => ?_)
    · have hc4' := hc4; try simp only [decide_eq_true_eq, decide_eq_false_iff_not, Bool.not_eq_true', Bool.not_eq_false', Bool.not_eq_true, Bool.not_eq_false] at hc4'
      have hld : d < 4 := by omega
      have hok : Ok g (c, d) := ⟨hlc, hld⟩
      have hxx : 4 * c + d < 4 * (nR g * nC g) := by omega
      have hso : stepOf (4 * c + d) = (c, d) := stepOf_code (s := (c, d)) hld
      have hFM := hS.f (c, d) hok
      have hls : hs.length ≤ 100 := by have := hS.l; rw [← hT.len] at this; omega
      refine WC.skip ?_
      refine WN.next ?_
      refine WC.seq ?_
      refine WC.block ?_
      refine WC.seq ?_
      refine WC.region ?_
      refine WL.u rfl rfl (Wt.plain rfl) (Ex.move rfl) ?_
      refine WL.u rfl rfl (Wt.plain rfl) (Ex.assign rfl) ?_
      refine WL.next ?_
      refine WC.seq ?_
      refine WC.seq ?_
      refine WC.region ?_
      refine WL.u rfl rfl (Wt.plain rfl) (Ex.move rfl) ?_
      refine WL.u rfl rfl (Wt.plain rfl) (Ex.move rfl) ?_
      refine WL.u rfl rfl (Wt.plain rfl) (Ex.move rfl) ?_
      refine WL.u rfl rfl (Wt.plain rfl) (Ex.buildS bd48 rfl rfl rfl rfl rfl) ?_
      refine WL.lookupS ((c, d)) mt63 hM18 rfl rfl rfl (Wt.plain rfl) (hH.at 0 rfl) (fun u57 => ?_)
      refine WL.u rfl rfl (Wt.plain rfl) (Ex.move rfl) ?_
      refine WL.u rfl rfl (Wt.plain rfl) (Ex.extract rfl rfl) ?_
      refine WL.u rfl rfl (Wt.plain rfl) (Ex.extract rfl rfl) ?_
      refine WL.u rfl rfl (Wt.plain rfl) (Ex.assign rfl) ?_
      refine WL.u rfl rfl (Wt.plain rfl) (Ex.assign rfl) ?_
      refine WL.next ?_
      refine WC.seq ?_
      refine WC.region ?_
      refine WL.u rfl rfl (Wt.plain rfl) (Ex.move rfl) ?_
      refine WL.next ?_
      refine WC.cond rfl (fun hc5 => ?_) (fun hc5 => ?_)
      · have hc5' := hc5; try simp only [decide_eq_true_eq, decide_eq_false_iff_not, Bool.not_eq_true', Bool.not_eq_false', Bool.not_eq_true, Bool.not_eq_false] at hc5'
        rw [hFM] at hc5
        refine WC.exit ?_
        refine WN.exitThen ?_
        refine WN.exitHere ?_
        refine WN.next ?_
        refine WC.region ?_
        refine WL.u rfl rfl (Wt.plain rfl) (Ex.add rfl rfl (by omega)) ?_
        refine WL.u rfl rfl (Wt.plain rfl) (Ex.move rfl) ?_
        refine WL.last ?_
        replace hH := hH.f1
        replace hH := hH.f1
        refine WN.round (d + 1, es18, ck18, F, M, b43, cap43, cur43, hs, T, rs) (by exact ⟨rfl, rfl, rfl, rfl, rfl, rfl, rfl, trivial⟩) ?_ ?_
        · exact ⟨hH, hM18, ho43, hT, hS.skip hxx hc5, by omega⟩
        · (try dsimp only); omega
      have hc5' := hc5; try simp only [decide_eq_true_eq, decide_eq_false_iff_not, Bool.not_eq_true', Bool.not_eq_false', Bool.not_eq_true, Bool.not_eq_false] at hc5'
      rw [hFM] at hc5
      have hnb : ¬ OnBeam g (c, d) := by rw [← hso]; exact hS.off hc5
      have hcl := close_len g (c, d)
      have hcok := close_ok hz hok
      refine WC.skip ?_
      refine WN.next ?_
      refine WC.seq ?_
      refine WC.region ?_
      refine WL.u rfl rfl (Wt.plain rfl) (Ex.move rfl) ?_
      refine WL.u rfl rfl (Wt.plain rfl) (Ex.move rfl) ?_
      refine WL.u rfl rfl (Wt.plain rfl) (Ex.move rfl) ?_
      refine WL.u rfl rfl (Wt.plain rfl) (Ex.buildS bd48 rfl rfl rfl rfl rfl) ?_
      refine WL.call callable51 rfl (Wt.plain rfl) rfl rfl (iroundFrom g _ _ (c, d) _ (hg.kept hH.keep) hG hok hnb) ?_
      rintro _ wn ⟨hC, hN⟩; obtain ⟨b65, cap65, cur65, rfl, hge65, hbb65, ho65⟩ := hN.own; replace hH := hH.push hC hge65 hbb65; clear hC hN
      refine WL.u rfl rfl (Wt.plain rfl) (Ex.assign rfl) ?_
      refine WL.next ?_
      refine WC.seq ?_
      refine WC.seq ?_
      refine WC.region ?_
      refine WL.u rfl rfl (Wt.plain rfl) (Ex.move rfl) ?_
      refine WL.u rfl rfl (Wt.plain rfl) (Ex.lenSl Tryd.underlying61 rfl) ?_
      refine WL.u rfl rfl (Wt.plain rfl) (Ex.move rfl) ?_
      refine WL.next ?_
      refine WC.block ?_
      replace hH := hH.f2
      replace hH := hH.f2
      refine WC.loop (ι := Nat × (Array MapEntry) × Nat × (Nat × Nat → Bool)) (fun (i, es18, ck18, F) => [(0, .slice a g.length cap), (4, .map (some b18)), (10, vsl b43 hs.length cap43), (11, vint c), (12, vint d), (15, vsl b65 (close g (c, d)).1.length cap65), (45, vint (nR g * nC g : Nat)), (46, vint c), (49, vint d), (66, vsl b65 (close g (c, d)).1.length cap65), (67, vint (close g (c, d)).1.length), (68, vint i)]) (fun (i, es18, ck18, F) wn => Hp [] w wn ((b18, .map es18 ck18) :: (b43, .cells cur43 61 (0, 0)) :: (b65, .cells cur65 48 (0, 0)) :: T) ∧ KeysS es18 F ∧ (∀ s, Ok g s → F s = (M (code s) || decide (s ∈ (close g (c, d)).1.take i) || decide (s ∈ ((close g (c, d)).1.take i).map (rev g)))) ∧ i ≤ (close g (c, d)).1.length) (fun (i, es18, ck18, F) => (close g (c, d)).1.length - i) ((0, es18, ck18, F)) (by exact ⟨rfl, rfl, rfl, rfl, rfl, rfl, rfl, rfl, rfl, rfl, rfl, rfl, trivial⟩) ?_ ?_
      · exact ⟨hH, hM18, fun s hs => by rw [hS.f s hs, List.take_zero]; simp, Nat.zero_le _⟩
      rintro ⟨i, es18, ck18, F⟩ wn ⟨hH, hM18, hF2, hi⟩
      intro mu0 hmu; try dsimp only at hmu
      show WC _ _ _ _ [(0, .slice a g.length cap), (4, .map (some b18)), (10, vsl b43 hs.length cap43), (11, vint c), (12, vint d), (15, vsl b65 (close g (c, d)).1.length cap65), (45, vint (nR g * nC g : Nat)), (46, vint c), (49, vint d), (66, vsl b65 (close g (c, d)).1.length cap65), (67, vint (close g (c, d)).1.length), (68, vint i)] _
      refine WC.seq ?_
      refine WC.region ?_
      refine WL.u rfl rfl (Wt.plain rfl) (Ex.lss rfl rfl) ?_
      refine WL.next ?_
      refine WC.seq ?_
      refine WC.cond rfl (fun hc6 => ?_) (fun hc6 => ?_)
      · have hc6' := hc6; try simp only [decide_eq_true_eq, decide_eq_false_iff_not, Bool.not_eq_true', Bool.not_eq_false', Bool.not_eq_true, Bool.not_eq_false] at hc6'
        have hil : i < (close g (c, d)).1.length := by omega
        have hget := getD_get (close g (c, d)).1 i (0, 0) hil
        have hoki := hcok _ (List.mem_of_getElem? hget)
        refine WC.skip ?_
        refine WN.next ?_
        refine WC.seq ?_
        refine WC.block ?_
        refine WC.seq ?_
        refine WC.region ?_
        refine WL.u rfl rfl (Wt.plain rfl) (Ex.indexAddr Tryd.underlying61 ty48 rfl rfl (by omega)) ?_
        refine WL.u rfl rfl (Wt.plain rfl) (Ex.loadSlS Tryd.underlying48 ty48 (ho65.slAt hH 2 rfl) rfl hget rfl) ?_
        refine WL.alloc ty48 rfl rfl (Wt.plain rfl) hH (fun b17 wn hb17 hk17 hH => ?_)
        refine WL.store2 ty48 rfl rfl rfl rfl (Wt.plain rfl) hH (fun wn hk hH => ?_)
        refine WL.next ?_
        refine WC.seq ?_
        refine WC.tail 7 rfl (by kernel_rfl) ?_
        replace hH := hH.drew
        refine WS.u rfl rfl (Wt.plain rfl) (Ex.move rfl) ?_
        refine WS.u rfl rfl (Wt.plain rfl) (Ex.loadHp2 Tryd.underlying48 ty48 rfl hH) ?_
        refine WS.u rfl rfl (Wt.plain rfl) (Ex.move rfl) ?_
        refine WS.call callable65 rfl (Wt.plain rfl) rfl rfl (iportMany _ _ _ _ (hg.kept hH.keep) hG) ?_
        refine WS.u rfl rfl (Wt.plain rfl) (Ex.move rfl) ?_
        refine WS.u rfl rfl (Wt.plain rfl) (Ex.lenSl Tryd.underlying64 rfl) ?_
        refine WS.u rfl rfl (Wt.plain rfl) (Ex.add rfl rfl (by omega)) ?_
        refine WS.nil ?_
        replace hH := hH.f1
        refine WL.mapSetS ((close g (c, d)).1.getD i (0, 0)) mt63 hM18 rfl rfl rfl (Wt.plain rfl) hH (fun es18 ck18 wn hk hH hM18 => ?_)
        refine WL.next ?_
        refine WC.region ?_
        refine WL.u rfl rfl (Wt.plain rfl) (Ex.move rfl) ?_
        refine WL.u rfl rfl (Wt.plain rfl) (Ex.move rfl) ?_
        replace hH := hH.f1
        refine WL.u rfl rfl (Wt.plain rfl) (Ex.loadHp2 Tryd.underlying48 ty48 rfl hH) ?_
        refine WL.call callable77 rfl (Wt.plain rfl) rfl rfl (ireversed g _ _ ((close g (c, d)).1.getD i (0, 0)) _ (hg.kept hH.keep) hG hoki) ?_
        rintro _ wn ⟨rfl, hC⟩; replace hH := hH.call hC; clear hC
        refine WL.u rfl rfl (Wt.plain rfl) (Ex.move rfl) ?_
        refine WL.call callable65 rfl (Wt.plain rfl) rfl rfl (iportMany _ _ _ _ (hg.kept hH.keep) hG) ?_
        rintro _ _ ⟨rfl, hw⟩; obtain rfl := hw.symm
        refine WL.u rfl rfl (Wt.plain rfl) (Ex.move rfl) ?_
        refine WL.u rfl rfl (Wt.plain rfl) (Ex.lenSl Tryd.underlying64 rfl) ?_
        refine WL.u rfl rfl (Wt.plain rfl) (Ex.add rfl rfl (by omega)) ?_
        replace hH := hH.f1
        refine WL.mapSetS (rev g ((close g (c, d)).1.getD i (0, 0))) mt63 hM18 rfl rfl rfl (Wt.plain rfl) hH (fun es18 ck18 wn hk hH hM18 => ?_)
        refine WL.last ?_
        refine WN.normalBlock ?_
        refine WN.next ?_
        refine WC.region ?_
        refine WL.u rfl rfl (Wt.plain rfl) (Ex.add rfl rfl (by omega)) ?_
        refine WL.u rfl rfl (Wt.plain rfl) (Ex.move rfl) ?_
        refine WL.last ?_
        replace hH := hH.f3
        replace hH := hH.f3
        replace hH := hH.f2
        refine WN.round (i + 1, es18, ck18, fun x => (F x || x == (close g (c, d)).1.getD i (0, 0)) || x == rev g ((close g (c, d)).1.getD i (0, 0))) (by exact ⟨rfl, rfl, rfl, rfl, rfl, rfl, rfl, rfl, rfl, rfl, rfl, rfl, trivial⟩) ?_ ?_
        · exact ⟨hH.drop 3, hM18, fun x hx => by show (F x || x == (close g (c, d)).1.getD i (0, 0) || x == rev g ((close g (c, d)).1.getD i (0, 0))) = _; rw [hF2 x hx, take_snoc hget]; exact mark2_snoc g _ _ _ _, by omega⟩
        · (try dsimp only); omega
      have hc6' := hc6; try simp only [decide_eq_true_eq, decide_eq_false_iff_not, Bool.not_eq_true', Bool.not_eq_false', Bool.not_eq_true, Bool.not_eq_false] at hc6'
      have hil : i = (close g (c, d)).1.length := by omega
      have hS2 := hS.next hxx hc5 (F' := F) (fun s hs => by rw [hF2 s hs, hil, List.take_length, hso]; unfold markL; rw [inL_mem (fun s hs => (hcok s hs).d) hs.d, inL_mem (rev_d g _) hs.d])
      rw [hso] at hS2
      refine WC.exit ?_
      refine WN.exitThen ?_
      refine WN.exitThen ?_
      refine WN.exitHere ?_
      refine WN.next ?_
      refine WC.region ?_
      refine WL.u rfl rfl (Wt.plain rfl) (Ex.move rfl) ?_
      refine WL.u rfl rfl (Wt.plain rfl) (Ex.move rfl) ?_
      replace hH := hH.f1
      refine WL.append1 (r := rHd) (u := ((some ⟨b65, 0, none⟩, (close g (c, d)).1.length, cap65) : Hd)) Tryd.underlying64 ty61 rfl rfl (fun _ => rfl) (fun _ => rfl) rfl rfl (Wt.plain rfl) (fun _ => (Wt.plain rfl)) hH ho43 rfl (by omega) (by omega) (fun b43 cap43 cur43 wn x43 hb43 hk43 hH ho43 => ?_)
      refine WL.u rfl rfl (Wt.plain rfl) (Ex.assign rfl) ?_
      refine WL.last ?_
      refine WN.normalBlock ?_
      refine WN.next ?_
      refine WC.region ?_
      refine WL.u rfl rfl (Wt.plain rfl) (Ex.add rfl rfl (by omega)) ?_
      refine WL.u rfl rfl (Wt.plain rfl) (Ex.move rfl) ?_
      refine WL.last ?_
      replace hH := hH.f1
      refine WN.round (d + 1, es18, ck18, F, markL g M (close g (c, d)).1, b43, cap43, cur43, hs ++ [((some ⟨b65, 0, none⟩, (close g (c, d)).1.length, cap65) : Hd)], (b65, .cells cur65 48 (0, 0)) :: T, rs ++ [(close g (c, d)).1]) (by exact ⟨rfl, rfl, rfl, rfl, rfl, rfl, rfl, trivial⟩) ?_ ?_
      · exact ⟨hH, hM18, ho43, hT.snoc ho65, hS2, by omega⟩
      · (try dsimp only); omega
    have hc4' := hc4; try simp only [decide_eq_true_eq, decide_eq_false_iff_not, Bool.not_eq_true', Bool.not_eq_false', Bool.not_eq_true, Bool.not_eq_false] at hc4'
    obtain rfl : d = 4 := by omega
    refine WC.exit ?_
    refine WN.exitThen ?_
    refine WN.exitThen ?_
    refine WN.exitHere ?_
    refine WN.normalBlock ?_
    refine WN.next ?_
    refine WC.region ?_
    refine WL.u rfl rfl (Wt.plain rfl) (Ex.add rfl rfl (by omega)) ?_
    refine WL.u rfl rfl (Wt.plain rfl) (Ex.move rfl) ?_
    refine WL.last ?_
    replace hH := hH.f1
    replace hH := hH.f1
    refine WN.round (c + 1, es18, ck18, F, M, b43, cap43, cur43, hs, T, rs) (by exact ⟨rfl, rfl, rfl, rfl, rfl, trivial⟩) ?_ ?_
    · exact ⟨hH, hM18, ho43, hT, by rw [Nat.mul_add, Nat.mul_one]; exact hS, by omega⟩
    · (try dsimp only); omega
  have hc3' := hc3; try simp only [decide_eq_true_eq, decide_eq_false_iff_not, Bool.not_eq_true', Bool.not_eq_false', Bool.not_eq_true, Bool.not_eq_false] at hc3'
  obtain rfl : c = nR g * nC g := by omega
  have hd := hS.done
  refine WC.exit ?_
  refine WN.exitThen ?_
  refine WN.exitThen ?_
  refine WN.exitHere ?_
  refine WN.next ?_
  refine WC.seq ?_
  refine WC.region ?_
  refine WL.u rfl rfl (Wt.plain rfl) (Ex.move rfl) ?_
  refine WL.u rfl rfl (Wt.plain rfl) (Ex.move rfl) ?_
  refine WL.u rfl rfl (Wt.plain rfl) (Ex.assign rfl) ?_
  refine WL.u rfl rfl (Wt.plain rfl) (Ex.assign rfl) ?_
  refine WL.next ?_
  refine WC.ret ?_
  refine WN.body2 rfl rfl rfl ?_
  exact ⟨_, _, rfl, hH.keep, hs, New.of (hH.front 1 rfl) ho43 (hH.base 1 rfl), by rw [hT.lens, hd], hd ▸ hT.reads hH.tail.tail⟩

theorem iroundMany (g : Grid) (a : Option Addr) (cap : Nat) (w : World) (hg : Sl rStr w a g) (hG : GridOk g) : Fn Tryd.prog 35 [.slice a g.length cap] w (fun v w1 => v = vint (rounds g).length ∧ Keep [] w w1) := by
  refine Fn.enter (n := 12) Tryd.func35 rfl rfl rfl ?_
  show WC _ _ _ _ [(0, .slice a g.length cap)] _
  have hH := Hp.start [] w
  refine WC.seq ?_
  refine WC.region ?_
  refine WL.u rfl rfl (Wt.plain rfl) (Ex.assign rfl) ?_
  refine WL.next ?_
  refine WC.seq ?_
  refine WC.region ?_
  refine WL.u rfl rfl (Wt.plain rfl) (Ex.move rfl) ?_
  refine WL.call callable52 rfl (Wt.plain rfl) rfl rfl (iallPaths _ _ _ _ (hg.kept hH.keep) hG) ?_
  rintro _ wn ⟨x, y, rfl, hC, hs, hN, hl, _⟩; obtain ⟨b7, cap7, cur7, rfl, hge7, hbb7, ho7⟩ := hN.own; have hl2 := congrArg List.length hl; rw [List.length_map, List.length_map] at hl2; replace hH := hH.call hC
  refine WL.u rfl rfl (Wt.plain rfl) (Ex.move rfl) ?_
  refine WL.u rfl rfl (Wt.plain rfl) (Ex.extract rfl rfl) ?_
  refine WL.u rfl rfl (Wt.plain rfl) (Ex.extract rfl rfl) ?_
  refine WL.u rfl rfl (Wt.plain rfl) (Ex.assign rfl) ?_
  refine WL.u rfl rfl (Wt.plain rfl) (Ex.assign rfl) ?_
  refine WL.next ?_
  refine WC.seq ?_
  refine WC.region ?_
  refine WL.u rfl rfl (Wt.plain rfl) (Ex.move rfl) ?_
  refine WL.u rfl rfl (Wt.plain rfl) (Ex.lenSl Tryd.underlying64 rfl) ?_
  refine WL.u rfl rfl (Wt.plain rfl) (Ex.assign rfl) ?_
  refine WL.next ?_
  refine WC.ret ?_
  refine WN.body1 rfl rfl ?_
  exact ⟨by rw [hl2], hH.keep⟩

end Go.Proofs.YtmhmdlgcdeodmaaDoor

/- The most rounds; the counts of full grids by their rounds: the program's. -/
namespace Go.Proofs.YtmhmdlgcdeodmaaDoor
set_option maxRecDepth 100000
set_option linter.unusedSimpArgs false
set_option linter.unusedVariables false
open Go Go.RowKit
def countRounds (n m : Int) : List Int × Bool := if fewB n m 9 = true then (rCnt n.toNat m.toNat, true) else ([], false)
theorem countRounds_at {n m : Nat} (h : fewB n m 9 = true) : countRounds n m = (rCnt n m, true) := by rw [countRounds, if_pos h]; rfl
theorem countRounds_not {n m : Int} (h : fewB n m 9 = false) : countRounds n m = ([], false) := by rw [countRounds, if_neg (by rw [h]; decide)]
theorem few_of {n m : Nat} (h1 : 1 ≤ n) (h2 : n ≤ 5) (h3 : 1 ≤ m) (h4 : m ≤ 5) (h9 : ((n * m : Nat) : Int) ≤ 9) : Few n m := ⟨h1, h2, h3, h4, by omega⟩
theorem rF_le100 {n m : Nat} (h : Few n m) (i : Nat) : (rounds (full n m i)).length ≤ 100 := by have := rF_lt h i; unfold rF at this; omega
theorem rounds_100 {g : Grid} (hG : GridOk g) : (rounds g).length ≤ 100 := by have := rounds_len g; have := cells_le hG; omega

end Go.Proofs.YtmhmdlgcdeodmaaDoor

/- Rounds and their counts: the reference's. -/
namespace Go.Proofs.YtmhmdlgcdeodmaaDoor
set_option maxRecDepth 100000
set_option linter.unusedSimpArgs false
set_option linter.unusedVariables false
open Go Go.RowKit
theorem ex_inl {g : Grid} {s : Nat × Nat} (h : 0 ≤ ex g s) : ∃ p, afterN g s = .inl p := by
  cases ha : afterN g s with
  | inl p => exact ⟨p, rfl⟩
  | inr s' => simp [ex, ha] at h
theorem ex_inr {g : Grid} {s : Nat × Nat} (h : ex g s < 0) : afterN g s = .inr (nx g s) := by
  cases ha : afterN g s with
  | inl p =>
    have e : ex g s = (p : Int) := by simp [ex, ha]
    omega
  | inr s' => simp [nx, ha]
theorem bool_set {l : List Bool} {y : Nat} (hy : y < l.length) (x : Nat) : (l.set y true).getD x false = (l.getD x false || y == x) := by
  rw [List.getD_eq_getElem?_getD, List.getElem?_set]
  by_cases h : y = x
  · subst h; rw [if_pos rfl, if_pos hy]; simp
  · rw [if_neg h, ← List.getD_eq_getElem?_getD]
    have : (y == x) = false := by simpa using h
    rw [this, Bool.or_false]
theorem inL_snoc (L : List (Nat × Nat)) (s : Nat × Nat) (y : Nat) : inL (L ++ [s]) y = (inL L y || code s == y) := by
  unfold inL; rw [List.any_append]; simp
theorem xor2 {e : Nat} (h : e < 4) : (((e : Int).toNat ^^^ (2 : Int).toNat : Nat) : Int) = ((rv e : Nat) : Int) := by
  obtain h | h | h | h : e = 0 ∨ e = 1 ∨ e = 2 ∨ e = 3 := by omega
  all_goals (subst h; rfl)
theorem cell_split {c m : Nat} : ((c / m : Nat) : Int) * (m : Int) + ((c % m : Nat) : Int) = (c : Int) := by
  have := Nat.div_add_mod c m
  have h2 : ((c / m * m + c % m : Nat) : Int) = (c : Int) := by rw [Nat.mul_comm]; rw [this]
  exact h2
theorem stepI_bd {x y : Int} (hx : 0 ≤ x ∧ x < 5) (hy : 0 ≤ y ∧ y < 5) (e : Nat) : -100 ≤ (stepI x y e).1 ∧ (stepI x y e).1 ≤ 100 ∧ -100 ≤ (stepI x y e).2 ∧ (stepI x y e).2 ≤ 100 := by
  unfold stepI; split
  · exact ⟨by dsimp only; omega, by dsimp only; omega, by dsimp only; omega, by dsimp only; omega⟩
  · split
    · exact ⟨by dsimp only; omega, by dsimp only; omega, by dsimp only; omega, by dsimp only; omega⟩
    · split
      · exact ⟨by dsimp only; omega, by dsimp only; omega, by dsimp only; omega, by dsimp only; omega⟩
      · exact ⟨by dsimp only; omega, by dsimp only; omega, by dsimp only; omega, by dsimp only; omega⟩
def MarksI (g : Grid) (mk : List Bool) (p : Nat) (L : List (Nat × Nat)) : Prop := mk.length = 4 * (nR g * nC g) ∧ ∀ x, mk.getD x false = ((List.range p).any (fun q => inL (way g q).1 x) || inL L x)
theorem MarksI.start (g : Grid) : MarksI g (List.replicate (4 * (nR g * nC g)) false) 0 [] := ⟨by simp, fun x => by
  rw [List.getD_eq_getElem?_getD, List.getElem?_replicate]
  simp only [List.range_zero, List.any_nil, inL, Bool.or_false]
  split <;> rfl⟩
theorem MarksI.set {g : Grid} {mk : List Bool} {p : Nat} {L : List (Nat × Nat)} (h : MarksI g mk p L) {s : Nat × Nat} (hs : Ok g s) : MarksI g (mk.set (code s) true) p (L ++ [s]) := by
  refine ⟨by rw [List.length_set]; exact h.1, fun x => ?_⟩
  rw [bool_set (by rw [h.1]; exact code_lt hs), h.2, inL_snoc, Bool.or_assoc]
theorem MarksI.next {g : Grid} {mk : List Bool} {p : Nat} (h : MarksI g mk p (way g p).1) : MarksI g mk (p + 1) [] := by
  refine ⟨h.1, fun x => ?_⟩
  rw [h.2, List.range_succ, List.any_append]
  simp [inL]
/-- the marks while a round is gone over -/
def Marks2 (g : Grid) (M : Nat → Bool) (mk : List Bool) (L : List (Nat × Nat)) : Prop := mk.length = 4 * (nR g * nC g) ∧ ∀ x, mk.getD x false = (M x || inL L x || inL (L.map (rev g)) x)
theorem Marks2.set {g : Grid} {M : Nat → Bool} {mk : List Bool} {L : List (Nat × Nat)} (h : Marks2 g M mk L) {s : Nat × Nat} (hs : Ok g s) : Marks2 g M ((mk.set (code s) true).set (code (rev g s)) true) (L ++ [s]) := by
  refine ⟨by rw [List.length_set, List.length_set]; exact h.1, fun x => ?_⟩
  rw [bool_set (by rw [List.length_set, h.1]; exact code_lt hs.rev), bool_set (by rw [h.1]; exact code_lt hs), h.2, inL_snoc, List.map_append, List.map_cons, List.map_nil, inL_snoc]
  cases M x <;> cases inL L x <;> cases inL (L.map (rev g)) x <;> cases (code s == x) <;> cases (code (rev g s) == x) <;> rfl
theorem Marks2.start {g : Grid} {M : Nat → Bool} {mk : List Bool} (h1 : mk.length = 4 * (nR g * nC g)) (h2 : ∀ x, mk.getD x false = M x) : Marks2 g M mk [] := ⟨h1, fun x => by rw [h2]; simp [inL]⟩
theorem addL_take (l : List Int) (e j : Nat) : padL l (Max.max l.length j) = l ++ List.replicate (j - l.length) 0 := by
  unfold padL; congr 2; omega

theorem sl2Cell (g : Grid) (a : Option Addr) (cap cell : Nat) (w : World) (hg : Sl rStr w a g) (hG : GridOk g) (hc : cell < nR g * nC g) : Fn Tryd.prog 63 [.slice a g.length cap, vint cell] w (fun v w1 => v = .int .u8 (letter g cell).toNat ∧ Dr w w1) := by
  refine Fn.enter (n := 21) Tryd.func63 rfl rfl rfl ?_
  show WC _ _ _ _ [(0, .slice a g.length cap), (1, vint cell)] _
  have hD := Dr.refl w
  obtain ⟨h1, h2, h3, h4, h5, h6⟩ := id hG
  obtain ⟨b, off, rfl⟩ := hg.addr (by omega)
  have hF := cellF hG hc
  obtain ⟨hc25, hrl, hcl, hrow, hdi, hmi⟩ := hF
  have hrowN : (g.getD (cell / nC g) []).length = nC g := hrow
  have hclN : cell % nC g < nC g := hcl
  have hrlN : cell / nC g < g.length := hrl
  refine WC.seq ?_
  refine WC.region ?_
  refine WL.u rfl rfl (Wt.plain rfl) (Ex.assign rfl) ?_
  refine WL.next ?_
  refine WC.seq ?_
  refine WC.quiet rfl (by kernel_rfl) ?_
  refine WQ.u rfl rfl (Wt.plain rfl) (fun w hC => Ex.move rfl) ?_
  refine WQ.u rfl rfl (Wt.plain rfl) (fun w hC => Ex.move rfl) ?_
  refine WQ.u rfl rfl (Wt.plain rfl) (fun w hC => Ex.move rfl) ?_
  refine WQ.u rfl rfl (Wt.plain rfl) (fun w hC => Ex.indexAddr Tryd.underlying23 ty9 rfl rfl (by omega)) ?_
  refine WQ.u rfl rfl (Wt.plain rfl) (fun w hC => Ex.loadSl flat9 (hg.dr (hD.trans hC)) rfl rfl (getD_get g 0 [] (by omega))) ?_
  refine WQ.u rfl rfl (Wt.plain rfl) (fun w hC => Ex.lenStr Tryd.underlying9 rfl) ?_
  refine WQ.u rfl rfl (Wt.plain rfl) (fun w hC => (Ex.quo rfl rfl (by omega) (by omega)).to (congrArg (Value.int IntKind.i64) (show _ = ((cell / nC g : Nat) : Int) from rfl))) ?_
  refine WQ.u rfl rfl (Wt.plain rfl) (fun w hC => Ex.indexAddr Tryd.underlying23 ty9 rfl rfl (⟨Int.natCast_nonneg _, Int.ofNat_lt.2 hrlN⟩)) ?_
  refine WQ.u rfl rfl (Wt.plain rfl) (fun w hC => Ex.loadSl flat9 (hg.dr (hD.trans hC)) rfl rfl (show g[(((cell / nC g : Nat) : Int)).toNat]? = some (g.getD (cell / nC g) []) from getD_get g (cell / nC g) [] hrl)) ?_
  refine WQ.u rfl rfl (Wt.plain rfl) (fun w hC => Ex.move rfl) ?_
  refine WQ.u rfl rfl (Wt.plain rfl) (fun w hC => Ex.move rfl) ?_
  refine WQ.u rfl rfl (Wt.plain rfl) (fun w hC => Ex.indexAddr Tryd.underlying23 ty9 rfl rfl (by omega)) ?_
  refine WQ.u rfl rfl (Wt.plain rfl) (fun w hC => Ex.loadSl flat9 (hg.dr (hD.trans hC)) rfl rfl (getD_get g 0 [] (by omega))) ?_
  refine WQ.u rfl rfl (Wt.plain rfl) (fun w hC => Ex.lenStr Tryd.underlying9 rfl) ?_
  refine WQ.u rfl rfl (Wt.plain rfl) (fun w hC => (Ex.rem rfl rfl (by omega) (by omega)).to (congrArg (Value.int IntKind.i64) (show _ = ((cell % nC g : Nat) : Int) from rfl))) ?_
  refine WQ.u rfl rfl (Wt.plain rfl) (fun w hC => Ex.indexStr Tryd.underlying9 rfl rfl (⟨Int.natCast_nonneg _, by rw [hrowN]; exact Int.ofNat_lt.2 hclN⟩)) ?_
  refine WQ.u rfl rfl (Wt.plain rfl) (fun w hC => Ex.assign rfl) ?_
  refine WQ.nil ?_
  intro wn hC; replace hD := hD.trans hC; clear hC
  refine WN.next ?_
  refine WC.ret ?_
  refine WN.body1 rfl rfl ?_
  exact ⟨rfl, hD⟩

theorem sl3Close (g : Grid) (a : Option Addr) (cap : Nat) (s0 : Nat × Nat) (w : World) (hg : Sl rStr w a g) (hG : GridOk g) (hok0 : Ok g s0) : Fn Tryd.prog 47 [.slice a g.length cap, vint s0.1, vint s0.2] w (fun v w1 => ∃ x y, v = .tuple #[x, y, .bool (close g s0).2] ∧ Keep [] w w1 ∧ New rNat 3 w w1 x ((close g s0).1.map (·.1)) ∧ New rNat 3 w w1 y ((close g s0).1.map (·.2))) := by
  refine Fn.enter (n := 80) Tryd.func47 rfl rfl rfl ?_
  show WC _ _ _ _ [(0, .slice a g.length cap), (1, vint s0.1), (2, vint s0.2)] _
  have hH := Hp.start [] w
  obtain ⟨b, off, rfl⟩ := hg.addr (show 0 < g.length from hG.n1)
  have hz := hG.sz
  have hn1 := hG.n1
  have hn5 := hG.n5
  have hm1 := hG.m1
  have hm5 := hG.m5
  have hF0 := cellF hG hok0.cell
  obtain ⟨h0a, h0b, h0c, h0d, h0e, h0f⟩ := hF0
  refine WC.seq ?_
  refine WC.region ?_
  refine WL.u rfl rfl (Wt.plain rfl) (Ex.assign rfl) ?_
  refine WL.u rfl rfl (Wt.plain rfl) (Ex.assign rfl) ?_
  refine WL.u rfl rfl (Wt.plain rfl) (Ex.assign rfl) ?_
  refine WL.next ?_
  refine WC.seq ?_
  refine WC.region ?_
  refine WL.u rfl rfl (Wt.plain rfl) (Ex.move rfl) ?_
  refine WL.u rfl rfl (Wt.plain rfl) (Ex.lenSl Tryd.underlying23 rfl) ?_
  refine WL.u rfl rfl (Wt.plain rfl) (Ex.assign rfl) ?_
  refine WL.next ?_
  refine WC.seq ?_
  refine WC.region ?_
  refine WL.u rfl rfl (Wt.plain rfl) (Ex.move rfl) ?_
  refine WL.u rfl rfl (Wt.plain rfl) (Ex.indexAddr Tryd.underlying23 ty9 rfl rfl (by omega)) ?_
  refine WL.u rfl rfl (Wt.plain rfl) (Ex.loadSl flat9 (hg.kept hH.keep) rfl rfl (getD_get g 0 [] (by omega))) ?_
  refine WL.u rfl rfl (Wt.plain rfl) (Ex.lenStr Tryd.underlying9 rfl) ?_
  refine WL.u rfl rfl (Wt.plain rfl) (Ex.assign rfl) ?_
  refine WL.next ?_
  refine WC.seq ?_
  refine WC.region ?_
  refine WL.u rfl rfl (Wt.plain rfl) (Ex.move rfl) ?_
  refine WL.u rfl rfl (Wt.plain rfl) (Ex.move rfl) ?_
  refine WL.u rfl rfl (Wt.plain rfl) ((Ex.quo rfl rfl (by omega) (by omega)).to (congrArg (Value.int IntKind.i64) (show _ = ((s0.1 / (g.getD 0 []).length : Nat) : Int) from rfl))) ?_
  refine WL.u rfl rfl (Wt.plain rfl) (Ex.assign rfl) ?_
  refine WL.next ?_
  refine WC.seq ?_
  refine WC.region ?_
  refine WL.u rfl rfl (Wt.plain rfl) (Ex.move rfl) ?_
  refine WL.u rfl rfl (Wt.plain rfl) (Ex.move rfl) ?_
  refine WL.u rfl rfl (Wt.plain rfl) ((Ex.rem rfl rfl (by omega) (by omega)).to (congrArg (Value.int IntKind.i64) (show _ = ((s0.1 % (g.getD 0 []).length : Nat) : Int) from rfl))) ?_
  refine WL.u rfl rfl (Wt.plain rfl) (Ex.assign rfl) ?_
  refine WL.next ?_
  refine WC.seq ?_
  refine WC.region ?_
  refine WL.lit0 Tryd.underlying34 ty3 rfl (Wt.plain rfl) hH (fun b28 wn hb28 hk28 hH => ?_)
  have ho28 := Own.nil rNat
  refine WL.u rfl rfl (Wt.plain rfl) (Ex.assign rfl) ?_
  refine WL.next ?_
  refine WC.seq ?_
  refine WC.region ?_
  refine WL.lit0 Tryd.underlying34 ty3 rfl (Wt.plain rfl) hH (fun b29 wn hb29 hk29 hH => ?_)
  have ho29 := Own.nil rNat
  refine WL.u rfl rfl (Wt.plain rfl) (Ex.assign rfl) ?_
  refine WL.next ?_
  refine WC.seq ?_
  refine WC.region ?_
  refine WL.u rfl rfl (Wt.plain rfl) (Ex.move rfl) ?_
  refine WL.u rfl rfl (Wt.plain rfl) (Ex.assign rfl) ?_
  refine WL.next ?_
  refine WC.block ?_
  replace hH := hH.f1
  refine WC.loop (ι := Nat × Nat × (Array Value) × Nat × Nat × (Array Value) × (List (Nat × Nat)) × (List Nat) × (List Nat) × (Nat × Nat) × Nat) (fun (b28, cap28, cur28, b29, cap29, cur29, l, c, ds, s, f) => [(0, .slice (some ⟨b, off, none⟩) g.length cap), (1, vint s0.1), (2, vint s.2), (9, vint g.length), (10, vint (g.getD 0 []).length), (11, vint ((s.1 / (g.getD 0 []).length : Nat) : Int)), (12, vint ((s.1 % (g.getD 0 []).length : Nat) : Int)), (13, vsl b28 c.length cap28), (14, vsl b29 ds.length cap29), (15, vint s0.2)]) (fun (b28, cap28, cur28, b29, cap29, cur29, l, c, ds, s, f) wn => Hp [] w wn [(b28, .cells cur28 3 (0, 0)), (b29, .cells cur29 3 (0, 0))] ∧ Own rNat cur28 cap28 c ∧ Own rNat cur29 cap29 ds ∧ c = l.map (·.1) ∧ ds = l.map (·.2) ∧ CI g s0 l s f) (fun (b28, cap28, cur28, b29, cap29, cur29, l, c, ds, s, f) => f) ((b28, 0, #[], b29, 0, #[], [], [], [], s0, 4 * (nR g * nC g))) (by exact ⟨rfl, rfl, rfl, rfl, rfl, rfl, rfl, rfl, rfl, rfl, trivial⟩) ?_ ?_
  · exact ⟨hH, ho28, ho29, rfl, rfl, CI.start hz hok0⟩
  rintro ⟨b28, cap28, cur28, b29, cap29, cur29, l, c, ds, s, f⟩ wn ⟨hH, ho28, ho29, hc, hds, hC0⟩
  have hok := hC0.1
  have hl100 := hC0.len hG
  have hF := cellF hG hok.cell
  obtain ⟨hc25, hrl, hcl, hrow, hdi, hmi⟩ := hF
  have hcl1 : c.length = l.length := by rw [hc, List.length_map]
  have hdl1 : ds.length = l.length := by rw [hds, List.length_map]
  have hb4 := bend_lt (letter g s.1) s.2 hok.d
  have hst := step_in hz hok rfl
  dsimp only [nR, nC] at hst
  have hmd := cell_split (c := s.1) (m := (g.getD 0 []).length)
  have hmb := mulB ((s.1 / (g.getD 0 []).length : Nat) : Int) ((g.getD 0 []).length : Int) (by omega) (by omega)
  have hnn : ((s.1 / (g.getD 0 []).length : Nat) : Int) < 5 ∧ 0 ≤ ((s.1 / (g.getD 0 []).length : Nat) : Int) ∧ ((s.1 % (g.getD 0 []).length : Nat) : Int) < 5 ∧ 0 ≤ ((s.1 % (g.getD 0 []).length : Nat) : Int) := by omega
  intro mu0 hmu; try dsimp only at hmu
  show WC _ _ _ _ [(0, .slice (some ⟨b, off, none⟩) g.length cap), (1, vint s0.1), (2, vint s.2), (9, vint g.length), (10, vint (g.getD 0 []).length), (11, vint ((s.1 / (g.getD 0 []).length : Nat) : Int)), (12, vint ((s.1 % (g.getD 0 []).length : Nat) : Int)), (13, vsl b28 c.length cap28), (14, vsl b29 ds.length cap29), (15, vint s0.2)] _
  refine WC.block ?_
  refine WC.seq ?_
  refine WC.region ?_
  refine WL.u rfl rfl (Wt.plain rfl) (Ex.move rfl) ?_
  refine WL.u rfl rfl (Wt.plain rfl) (Ex.move rfl) ?_
  refine WL.u rfl rfl (Wt.plain rfl) (Ex.move rfl) ?_
  refine WL.u rfl rfl (Wt.plain rfl) (Ex.mul rfl rfl (by omega)) ?_
  refine WL.u rfl rfl (Wt.plain rfl) (Ex.move rfl) ?_
  refine WL.u rfl rfl (Wt.plain rfl) ((Ex.add rfl rfl (by omega)).to (congrArg vint hmd)) ?_
  refine WL.append1 (r := rNat) (u := s.1) Tryd.underlying34 ty3 rfl rfl (fun _ => rfl) (fun _ => rfl) rfl rfl (Wt.plain rfl) (fun _ => (Wt.plain rfl)) hH ho28 rfl (by omega) (by omega) (fun b28 cap28 cur28 wn x28 hb28 hk28 hH ho28 => ?_)
  refine WL.u rfl rfl (Wt.plain rfl) (Ex.assign rfl) ?_
  refine WL.next ?_
  refine WC.seq ?_
  refine WC.region ?_
  refine WL.u rfl rfl (Wt.plain rfl) (Ex.move rfl) ?_
  refine WL.u rfl rfl (Wt.plain rfl) (Ex.move rfl) ?_
  replace hH := hH.f1
  refine WL.append1 (r := rNat) (u := s.2) Tryd.underlying34 ty3 rfl rfl (fun _ => rfl) (fun _ => rfl) rfl rfl (Wt.plain rfl) (fun _ => (Wt.plain rfl)) hH ho29 rfl (by omega) (by omega) (fun b29 cap29 cur29 wn x29 hb29 hk29 hH ho29 => ?_)
  refine WL.u rfl rfl (Wt.plain rfl) (Ex.assign rfl) ?_
  refine WL.next ?_
  refine WC.seq ?_
  refine WC.region ?_
  refine WL.u rfl rfl (Wt.plain rfl) (Ex.move rfl) ?_
  refine WL.u rfl rfl (Wt.plain rfl) (Ex.move rfl) ?_
  refine WL.u rfl rfl (Wt.plain rfl) (Ex.indexAddr Tryd.underlying23 ty9 rfl rfl (by omega)) ?_
  refine WL.u rfl rfl (Wt.plain rfl) (Ex.loadSl flat9 (hg.kept hH.keep) rfl rfl (getD_get g (s.1 / (g.getD 0 []).length) [] hrl)) ?_
  refine WL.u rfl rfl (Wt.plain rfl) (Ex.move rfl) ?_
  refine WL.u rfl rfl (Wt.plain rfl) (Ex.indexStr Tryd.underlying9 rfl rfl (by (try simp only [List.length_cons, List.length_nil]); omega)) ?_
  refine WL.u rfl rfl (Wt.plain rfl) (Ex.move rfl) ?_
  refine WL.call callable62 rfl (Wt.plain rfl) rfl rfl (sl2Bend (letter g s.1) s.2 _ hok.d) ?_
  rintro _ _ ⟨rfl, hw⟩; obtain rfl := hw.symm
  refine WL.u rfl rfl (Wt.plain rfl) (Ex.assign rfl) ?_
  refine WL.next ?_
  refine WC.seq ?_
  refine WC.region ?_
  refine WL.u rfl rfl (Wt.plain rfl) (Ex.move rfl) ?_
  refine WL.u rfl rfl (Wt.plain rfl) (Ex.move rfl) ?_
  refine WL.u rfl rfl (Wt.plain rfl) (Ex.move rfl) ?_
  refine WL.call callable74 rfl (Wt.plain rfl) rfl rfl (sl2Step ((s.1 / (g.getD 0 []).length : Nat) : Int) ((s.1 % (g.getD 0 []).length : Nat) : Int) (bend (letter g s.1) s.2) _ (by omega) (by omega) hb4) ?_
  rintro _ _ ⟨rfl, hw⟩; obtain rfl := hw.symm
  refine WL.u rfl rfl (Wt.plain rfl) (Ex.move rfl) ?_
  refine WL.u rfl rfl (Wt.plain rfl) (Ex.extract rfl rfl) ?_
  refine WL.u rfl rfl (Wt.plain rfl) (Ex.extract rfl rfl) ?_
  refine WL.u rfl rfl (Wt.plain rfl) (Ex.assign rfl) ?_
  refine WL.u rfl rfl (Wt.plain rfl) (Ex.assign rfl) ?_
  refine WL.next ?_
  refine WC.seq ?_
  refine WC.seq ?_
  have hsb := stepI_bd (x := ((s.1 / (g.getD 0 []).length : Nat) : Int)) (y := ((s.1 % (g.getD 0 []).length : Nat) : Int)) ⟨hnn.2.1, hnn.1⟩ ⟨hnn.2.2.2, hnn.2.2.1⟩ (bend (letter g s.1) s.2)
  refine WC.region ?_
  refine WL.u rfl rfl (Wt.plain rfl) (Ex.move rfl) ?_
  refine WL.u rfl rfl (Wt.plain rfl) (Ex.move rfl) ?_
  refine WL.u rfl rfl (Wt.plain rfl) (Ex.move rfl) ?_
  refine WL.u rfl rfl (Wt.plain rfl) (Ex.move rfl) ?_
  refine WL.call callable75 rfl (Wt.plain rfl) rfl rfl (sl2Leave g.length (g.getD 0 []).length _ _ _ (by omega) (by omega) ⟨hsb.1, hsb.2.1⟩ ⟨hsb.2.2.1, hsb.2.2.2⟩) ?_
  rintro _ _ ⟨rfl, hw⟩; obtain rfl := hw.symm
  refine WL.u rfl rfl (Wt.plain rfl) (Ex.geq rfl rfl) ?_
  refine WL.next ?_
  refine WC.cond rfl (fun hc1 => ?_) (fun hc1 => ?_)
  · have hc1' := hc1; try simp only [decide_eq_true_eq, decide_eq_false_iff_not, Bool.not_eq_true', Bool.not_eq_false', Bool.not_eq_true, Bool.not_eq_false] at hc1'
    obtain ⟨p, hp⟩ := ex_inl (g := g) (s := s) (by have := hst.1; omega)
    have hcl2 := hC0.out hp
    refine WC.seq ?_
    refine WC.region ?_
    refine WL.u rfl rfl (Wt.plain rfl) (Ex.move rfl) ?_
    refine WL.u rfl rfl (Wt.plain rfl) (Ex.move rfl) ?_
    refine WL.u rfl rfl (Wt.plain rfl) (Ex.assign rfl) ?_
    refine WL.u rfl rfl (Wt.plain rfl) (Ex.assign rfl) ?_
    refine WL.u rfl rfl (Wt.plain rfl) (Ex.assign rfl) ?_
    refine WL.next ?_
    refine WC.ret ?_
    refine WN.retThen ?_
    refine WN.retBlock ?_
    refine WN.retThen ?_
    refine WN.retBlock ?_
    refine WN.body3 rfl rfl rfl rfl ?_
    have e1 : (close g s0).1.map (·.1) = c ++ [s.1] := by rw [hcl2, hc]; simp
    have e2 : (close g s0).1.map (·.2) = ds ++ [s.2] := by rw [hcl2, hds]; simp
    exact ⟨_, _, by rw [hcl2], hH.keep, by rw [e1]; exact New.of (hH.front 1 rfl) ho28 (hH.base 1 rfl), by rw [e2]; exact New.of (hH.front 0 rfl) ho29 (hH.base 0 rfl)⟩
  have hc1' := hc1; try simp only [decide_eq_true_eq, decide_eq_false_iff_not, Bool.not_eq_true', Bool.not_eq_false', Bool.not_eq_true, Bool.not_eq_false] at hc1'
  have hex : ex g s < 0 := by have := hst.1; omega
  have hst2 := hst.2 hex
  have hin := ex_inr hex
  rw [hst2.1, hst2.2.1, ← hst2.2.2]
  have hok2 := (after_r hz hok hin).1
  have hF2 := cellF hG hok2.cell
  obtain ⟨k1, k2, k3, k4, k5, k6⟩ := hF2
  have hmd2 := cell_split (c := (nx g s).1) (m := (g.getD 0 []).length)
  have hmb2 := mulB (((nx g s).1 / (g.getD 0 []).length : Nat) : Int) ((g.getD 0 []).length : Int) (by omega) (by omega)
  refine WC.skip ?_
  refine WN.next ?_
  refine WC.seq ?_
  refine WC.region ?_
  refine WL.u rfl rfl (Wt.plain rfl) (Ex.move rfl) ?_
  refine WL.u rfl rfl (Wt.plain rfl) (Ex.move rfl) ?_
  refine WL.u rfl rfl (Wt.plain rfl) (Ex.mul rfl rfl (by omega)) ?_
  refine WL.u rfl rfl (Wt.plain rfl) (Ex.move rfl) ?_
  refine WL.u rfl rfl (Wt.plain rfl) ((Ex.add rfl rfl (by omega)).to (congrArg vint hmd2)) ?_
  refine WL.u rfl rfl (Wt.plain rfl) (Ex.move rfl) ?_
  refine WL.u rfl rfl (Wt.plain rfl) (Ex.eql rfl rfl) ?_
  refine WL.u rfl rfl (Wt.plain rfl) (Ex.move rfl) ?_
  refine WL.split (t := 73) rfl (fun hg14_7 => ?_) (fun hg14_7 => ?_)
  · have hg14_7' := hg14_7; try simp only [decide_eq_true_eq, decide_eq_false_iff_not, Bool.not_eq_true', Bool.not_eq_false', Bool.not_eq_true, Bool.not_eq_false] at hg14_7'
    refine WL.u rfl rfl (Wt.guard' rfl rfl rfl hg14_7 rfl) (Ex.move rfl) ?_
    refine WL.u rfl rfl (Wt.guard' rfl rfl rfl hg14_7 rfl) (Ex.move rfl) ?_
    refine WL.u rfl rfl (Wt.guard' rfl rfl rfl hg14_7 rfl) (Ex.eql rfl rfl) ?_
    refine WL.u rfl rfl (Wt.plain rfl) (Ex.pickT rfl hg14_7 rfl) ?_
    refine WL.next ?_
    refine WC.cond rfl (fun hc2 => ?_) (fun hc2 => ?_)
    · have hc2' := hc2; try simp only [decide_eq_true_eq, decide_eq_false_iff_not, Bool.not_eq_true', Bool.not_eq_false', Bool.not_eq_true, Bool.not_eq_false] at hc2'
      have hq : nx g s = s0 := Prod.ext (by omega) (by omega)
      rw [hq] at hin
      have hcl2 := hC0.back hin
      refine WC.seq ?_
      refine WC.region ?_
      refine WL.u rfl rfl (Wt.plain rfl) (Ex.move rfl) ?_
      refine WL.u rfl rfl (Wt.plain rfl) (Ex.move rfl) ?_
      refine WL.u rfl rfl (Wt.plain rfl) (Ex.assign rfl) ?_
      refine WL.u rfl rfl (Wt.plain rfl) (Ex.assign rfl) ?_
      refine WL.u rfl rfl (Wt.plain rfl) (Ex.assign rfl) ?_
      refine WL.next ?_
      refine WC.ret ?_
      refine WN.retBlock ?_
      refine WN.retThen ?_
      refine WN.retBlock ?_
      refine WN.body3 rfl rfl rfl rfl ?_
      have e1 : (close g s0).1.map (·.1) = c ++ [s.1] := by rw [hcl2, hc]; simp
      have e2 : (close g s0).1.map (·.2) = ds ++ [s.2] := by rw [hcl2, hds]; simp
      exact ⟨_, _, by rw [hcl2], hH.keep, by rw [e1]; exact New.of (hH.front 1 rfl) ho28 (hH.base 1 rfl), by rw [e2]; exact New.of (hH.front 0 rfl) ho29 (hH.base 0 rfl)⟩
    have hc2' := hc2; try simp only [decide_eq_true_eq, decide_eq_false_iff_not, Bool.not_eq_true', Bool.not_eq_false', Bool.not_eq_true, Bool.not_eq_false] at hc2'
    refine WC.skip ?_
    refine WN.normalBlock ?_
    replace hH := hH.f1
    have hq : nx g s ≠ s0 := fun e => by have e1 := congrArg Prod.fst e; have e2 := congrArg Prod.snd e; omega
    have hon := hC0.on hz hin hq
    refine WN.round (b28, cap28, cur28, b29, cap29, cur29, l ++ [s], c ++ [s.1], ds ++ [s.2], nx g s, f - 1) (by exact ⟨rfl, rfl, rfl, rfl, rfl, rfl, rfl, rfl, rfl, rfl, trivial⟩) ?_ ?_
    · exact ⟨hH, ho28, ho29, by simp [hc], by simp [hds], hon.1⟩
    · have := hon.2; dsimp only; omega
  have hg14_7' := hg14_7; try simp only [decide_eq_true_eq, decide_eq_false_iff_not, Bool.not_eq_true', Bool.not_eq_false', Bool.not_eq_true, Bool.not_eq_false] at hg14_7'
  refine WL.pass rfl rfl (Wt.guard' rfl rfl rfl hg14_7 rfl) ?_
  refine WL.pass rfl rfl (Wt.guard' rfl rfl rfl hg14_7 rfl) ?_
  refine WL.pass rfl rfl (Wt.guard' rfl rfl rfl hg14_7 rfl) ?_
  refine WL.u rfl rfl (Wt.plain rfl) (Ex.pickF rfl hg14_7 rfl) ?_
  refine WL.next ?_
  refine WC.condF rfl rfl ?_
  refine WC.skip ?_
  refine WN.normalBlock ?_
  replace hH := hH.f1
  have hq : nx g s ≠ s0 := fun e => by have e1 := congrArg Prod.fst e; have e2 := congrArg Prod.snd e; omega
  have hon := hC0.on hz hin hq
  refine WN.round (b28, cap28, cur28, b29, cap29, cur29, l ++ [s], c ++ [s.1], ds ++ [s.2], nx g s, f - 1) (by exact ⟨rfl, rfl, rfl, rfl, rfl, rfl, rfl, rfl, rfl, rfl, trivial⟩) ?_ ?_
  · exact ⟨hH, ho28, ho29, by simp [hc], by simp [hds], hon.1⟩
  · have := hon.2; dsimp only; omega

set_option maxHeartbeats 1000000 in
theorem sl3Marks (g : Grid) (a : Option Addr) (cap : Nat) (w : World) (hg : Sl rStr w a g) (hG : GridOk g) : Fn Tryd.prog 46 [.slice a g.length cap] w (fun v w1 => ∃ mk, Keep [] w w1 ∧ New rBool 4 w w1 v mk ∧ mk.length = 4 * (nR g * nC g) ∧ ∀ x, mk.getD x false = beamMark g x) := by
  refine Fn.enter (n := 54) Tryd.func46 rfl rfl rfl ?_
  show WC _ _ _ _ [(0, .slice a g.length cap)] _
  have hH := Hp.start [] w
  obtain ⟨b, off, rfl⟩ := hg.addr (show 0 < g.length from hG.n1)
  have hz := hG.sz
  have hn1 := hG.n1
  have hn5 := hG.n5
  have hm1 := hG.m1
  have hm5 := hG.m5
  have hc25 := cells_le hG
  have hmI : (4 * (g.length : Int)) * ((g.getD 0 []).length : Int) = ((4 * (nR g * nC g) : Nat) : Int) := by rw [Int.mul_assoc, ← Int.natCast_mul]; rfl
  have hpe : ports g = 2 * (g.length + (g.getD 0 []).length) := by unfold ports; dsimp only [nR, nC]; omega
  refine WC.seq ?_
  refine WC.region ?_
  refine WL.u rfl rfl (Wt.plain rfl) (Ex.assign rfl) ?_
  refine WL.next ?_
  refine WC.seq ?_
  refine WC.region ?_
  refine WL.u rfl rfl (Wt.plain rfl) (Ex.move rfl) ?_
  refine WL.u rfl rfl (Wt.plain rfl) (Ex.indexAddr Tryd.underlying23 ty9 rfl rfl (by omega)) ?_
  refine WL.u rfl rfl (Wt.plain rfl) (Ex.loadSl flat9 (hg.kept hH.keep) rfl rfl (getD_get g 0 [] (by omega))) ?_
  refine WL.u rfl rfl (Wt.plain rfl) (Ex.lenStr Tryd.underlying9 rfl) ?_
  refine WL.u rfl rfl (Wt.plain rfl) (Ex.assign rfl) ?_
  refine WL.next ?_
  refine WC.seq ?_
  refine WC.region ?_
  refine WL.u rfl rfl (Wt.plain rfl) (Ex.move rfl) ?_
  refine WL.u rfl rfl (Wt.plain rfl) (Ex.lenSl Tryd.underlying23 rfl) ?_
  refine WL.u rfl rfl (Wt.plain rfl) (Ex.mul rfl rfl (by omega)) ?_
  refine WL.u rfl rfl (Wt.plain rfl) (Ex.move rfl) ?_
  refine WL.u rfl rfl (Wt.plain rfl) ((Ex.mul rfl rfl (by omega)).to (congrArg (Value.int IntKind.i64) hmI)) ?_
  refine WL.makeSlice Tryd.underlying56 ty4 rfl rfl (by omega) (by omega) rfl (Wt.plain rfl) hH (fun b19 wn hb19 hk19 hH => ?_)
  have ho19 := Own.made rBool (z := .bool false) false rfl rfl (k := 4 * (nR g * nC g)) (by omega)
  refine WL.u rfl rfl (Wt.plain rfl) (Ex.assign rfl) ?_
  refine WL.next ?_
  refine WC.seq ?_
  refine WC.seq ?_
  refine WC.region ?_
  refine WL.u rfl rfl (Wt.plain rfl) (Ex.assign rfl) ?_
  refine WL.next ?_
  refine WC.block ?_
  refine WC.loop (ι := Nat × (Array Value) × (List Bool)) (fun (p, cur19, mk) => [(0, .slice (some ⟨b, off, none⟩) g.length cap), (3, vint (g.getD 0 []).length), (4, vsl b19 (4 * (nR g * nC g)) (4 * (nR g * nC g))), (5, vint p)]) (fun (p, cur19, mk) wn => Hp [] w wn [(b19, .cells cur19 4 (0, 0))] ∧ Own rBool cur19 (4 * (nR g * nC g)) mk ∧ MarksI g mk p [] ∧ p ≤ ports g) (fun (p, cur19, mk) => ports g - p) ((0, madeCells (.bool false : Value).cells (4 * (nR g * nC g) * 1), List.replicate (4 * (nR g * nC g)) false)) (by exact ⟨rfl, rfl, rfl, rfl, trivial⟩) ?_ ?_
  · exact ⟨hH, ho19, MarksI.start g, Nat.zero_le _⟩
  rintro ⟨p, cur19, mk⟩ wn ⟨hH, ho19, hM, hp⟩
  intro mu0 hmu; try dsimp only at hmu
  show WC _ _ _ _ [(0, .slice (some ⟨b, off, none⟩) g.length cap), (3, vint (g.getD 0 []).length), (4, vsl b19 (4 * (nR g * nC g)) (4 * (nR g * nC g))), (5, vint p)] _
  refine WC.seq ?_
  refine WC.seq ?_
  refine WC.region ?_
  refine WL.u rfl rfl (Wt.plain rfl) (Ex.move rfl) ?_
  refine WL.u rfl rfl (Wt.plain rfl) (Ex.move rfl) ?_
  refine WL.u rfl rfl (Wt.plain rfl) (Ex.lenSl Tryd.underlying23 rfl) ?_
  refine WL.u rfl rfl (Wt.plain rfl) (Ex.move rfl) ?_
  refine WL.call callable72 rfl (Wt.plain rfl) rfl rfl (sl2Ports g.length (g.getD 0 []).length _ (by omega) (by omega)) ?_
  rintro _ _ ⟨rfl, hw⟩; obtain rfl := hw.symm
  refine WL.u rfl rfl (Wt.plain rfl) (Ex.lss rfl rfl) ?_
  refine WL.next ?_
  refine WC.cond rfl (fun hc1 => ?_) (fun hc1 => ?_)
  · have hc1' := hc1; try simp only [decide_eq_true_eq, decide_eq_false_iff_not, Bool.not_eq_true', Bool.not_eq_false', Bool.not_eq_true, Bool.not_eq_false] at hc1'
    have hlt : p < ports g := by rw [hpe]; omega
    have hwl := way_len g p
    have hwok := way_ok hz hlt
    refine WC.skip ?_
    refine WN.next ?_
    refine WC.seq ?_
    refine WC.block ?_
    refine WC.seq ?_
    refine WC.region ?_
    refine WL.u rfl rfl (Wt.plain rfl) (Ex.move rfl) ?_
    refine WL.u rfl rfl (Wt.plain rfl) (Ex.move rfl) ?_
    refine WL.call callable73 rfl (Wt.plain rfl) rfl rfl (sl2Way g _ _ p _ (hg.kept hH.keep) hG hlt) ?_
    rintro _ w31 ⟨x, y, rfl, hC, hN1, hN2⟩; obtain ⟨b31, cap31, cur31, rfl, hge31, hbb31, ho31⟩ := hN1.own; obtain ⟨b32, cap32, cur32, rfl, hge32, hbb32, ho32⟩ := hN2.own; rw [List.length_map, List.length_map]; have hs1 := ho31.sl0 hbb31; have hs2 := ho32.sl0 hbb32; have hltb := hH.lt 0 rfl; dsimp only at hltb; have hap1 : Apart [b19] (some (⟨b31, 0, none⟩ : Addr)) := (fun q hq hm => by cases hq; have := List.mem_singleton.1 hm; dsimp only at this; omega); have hap2 : Apart [b19] (some (⟨b32, 0, none⟩ : Addr)) := (fun q hq hm => by cases hq; have := List.mem_singleton.1 hm; dsimp only at this; omega); replace hH := hH.call hC; have hK : Keep [b19] w31 w31 := Keep.refl _ _
    refine WL.u rfl rfl (Wt.plain rfl) (Ex.move rfl) ?_
    refine WL.u rfl rfl (Wt.plain rfl) (Ex.extract rfl rfl) ?_
    refine WL.u rfl rfl (Wt.plain rfl) (Ex.extract rfl rfl) ?_
    refine WL.u rfl rfl (Wt.plain rfl) (Ex.extract rfl rfl) ?_
    refine WL.u rfl rfl (Wt.plain rfl) (Ex.assign rfl) ?_
    refine WL.u rfl rfl (Wt.plain rfl) (Ex.assign rfl) ?_
    refine WL.u rfl rfl (Wt.plain rfl) (Ex.assign rfl) ?_
    refine WL.next ?_
    refine WC.seq ?_
    refine WC.region ?_
    refine WL.u rfl rfl (Wt.plain rfl) (Ex.assign rfl) ?_
    refine WL.next ?_
    refine WC.block ?_
    refine WC.loop (ι := Nat × (Array Value) × (List Bool)) (fun (i, cur19, mk) => [(0, .slice (some ⟨b, off, none⟩) g.length cap), (3, vint (g.getD 0 []).length), (4, vsl b19 (4 * (nR g * nC g)) (4 * (nR g * nC g))), (5, vint p), (6, vsl b31 (way g p).1.length cap31), (7, vsl b32 (way g p).1.length cap32), (9, vint i)]) (fun (i, cur19, mk) wn => Hp [] w wn [(b19, .cells cur19 4 (0, 0))] ∧ Own rBool cur19 (4 * (nR g * nC g)) mk ∧ MarksI g mk p ((way g p).1.take i) ∧ Keep [b19] w31 wn ∧ i ≤ (way g p).1.length) (fun (i, cur19, mk) => (way g p).1.length - i) ((0, cur19, mk)) (by exact ⟨rfl, rfl, rfl, rfl, rfl, rfl, rfl, trivial⟩) ?_ ?_
    · exact ⟨hH, ho19, by rw [List.take_zero]; exact hM, hK, Nat.zero_le _⟩
    rintro ⟨i, cur19, mk⟩ wn ⟨hH, ho19, hM, hK, hi⟩
    intro mu0 hmu; try dsimp only at hmu
    show WC _ _ _ _ [(0, .slice (some ⟨b, off, none⟩) g.length cap), (3, vint (g.getD 0 []).length), (4, vsl b19 (4 * (nR g * nC g)) (4 * (nR g * nC g))), (5, vint p), (6, vsl b31 (way g p).1.length cap31), (7, vsl b32 (way g p).1.length cap32), (9, vint i)] _
    refine WC.seq ?_
    refine WC.seq ?_
    refine WC.region ?_
    refine WL.u rfl rfl (Wt.plain rfl) (Ex.move rfl) ?_
    refine WL.u rfl rfl (Wt.plain rfl) (Ex.move rfl) ?_
    refine WL.u rfl rfl (Wt.plain rfl) (Ex.lenSl Tryd.underlying34 rfl) ?_
    refine WL.u rfl rfl (Wt.plain rfl) (Ex.lss rfl rfl) ?_
    refine WL.next ?_
    refine WC.cond rfl (fun hc2 => ?_) (fun hc2 => ?_)
    · have hc2' := hc2; try simp only [decide_eq_true_eq, decide_eq_false_iff_not, Bool.not_eq_true', Bool.not_eq_false', Bool.not_eq_true, Bool.not_eq_false] at hc2'
      have hil : i < (way g p).1.length := by omega
      have hget := getD_get (way g p).1 i (0, 0) hil
      have hoki := hwok _ (List.mem_of_getElem? hget)
      have hget1 : ((way g p).1.map (·.1))[i]? = some ((way g p).1.getD i (0, 0)).1 := by rw [List.getElem?_map, hget]; rfl
      have hget2 : ((way g p).1.map (·.2))[i]? = some ((way g p).1.getD i (0, 0)).2 := by rw [List.getElem?_map, hget]; rfl
      have hcode := code_lt hoki
      have hMl := hM.1
      have hcel := hoki.cell
      have hod := hoki.d
      refine WC.skip ?_
      refine WN.next ?_
      refine WC.seq ?_
      refine WC.block ?_
      refine WC.tail 12 rfl (by kernel_rfl) ?_
      replace hH := hH.drew
      refine WS.u rfl rfl (Wt.plain rfl) (Ex.move rfl) ?_
      refine WS.u rfl rfl (Wt.plain rfl) (Ex.move rfl) ?_
      refine WS.u rfl rfl (Wt.plain rfl) (Ex.move rfl) ?_
      refine WS.u rfl rfl (Wt.plain rfl) (Ex.indexAddr Tryd.underlying34 ty3 rfl rfl (by omega)) ?_
      refine WS.u rfl rfl (Wt.plain rfl) (Ex.loadSl flat3 (hs1.keep (hK.trans (Keep.drew _ _)) hap1) rfl rfl hget1) ?_
      refine WS.u rfl rfl (Wt.plain rfl) (Ex.mul rfl rfl (by omega)) ?_
      refine WS.u rfl rfl (Wt.plain rfl) (Ex.move rfl) ?_
      refine WS.u rfl rfl (Wt.plain rfl) (Ex.move rfl) ?_
      refine WS.u rfl rfl (Wt.plain rfl) (Ex.indexAddr Tryd.underlying34 ty3 rfl rfl (by omega)) ?_
      refine WS.u rfl rfl (Wt.plain rfl) (Ex.loadSl flat3 (hs2.keep (hK.trans (Keep.drew _ _)) hap2) rfl rfl hget2) ?_
      refine WS.u rfl rfl (Wt.plain rfl) ((Ex.add rfl rfl (by omega)).to (congrArg (Value.int IntKind.i64) (show _ = ((code ((way g p).1.getD i (0, 0)) : Nat) : Int) by unfold code; omega))) ?_
      refine WS.u rfl rfl (Wt.plain rfl) (Ex.indexAddr Tryd.underlying56 ty4 rfl rfl (by omega)) ?_
      refine WS.nil ?_
      refine WL.store1 ty4 rfl rfl rfl (Wt.plain rfl) hH (ho19.idx rfl (by omega)) (by simp) (fun wn hk hH => ?_)
      replace ho19 := ho19.set rfl (code ((way g p).1.getD i (0, 0))) true
      replace hK := (hK.trans (Keep.drew _ _)).trans hk
      refine WL.last ?_
      refine WN.normalBlock ?_
      refine WN.next ?_
      refine WC.region ?_
      refine WL.u rfl rfl (Wt.plain rfl) (Ex.move rfl) ?_
      refine WL.u rfl rfl (Wt.plain rfl) (Ex.add rfl rfl (by omega)) ?_
      refine WL.u rfl rfl (Wt.plain rfl) (Ex.assign rfl) ?_
      refine WL.last ?_
      refine WN.round (i + 1, cur19.setIfInBounds (0 + (code ((way g p).1.getD i (0, 0)) : Int).toNat * 1) (rBool.val true), mk.set (code ((way g p).1.getD i (0, 0))) true) (by exact ⟨rfl, rfl, rfl, rfl, rfl, rfl, rfl, trivial⟩) ?_ ?_
      · exact ⟨hH, ho19, by rw [take_snoc hget]; exact hM.set hoki, hK, by omega⟩
      · (try dsimp only); omega
    have hc2' := hc2; try simp only [decide_eq_true_eq, decide_eq_false_iff_not, Bool.not_eq_true', Bool.not_eq_false', Bool.not_eq_true, Bool.not_eq_false] at hc2'
    have hil : i = (way g p).1.length := by omega
    rw [hil, List.take_length] at hM
    refine WC.exit ?_
    refine WN.exitThen ?_
    refine WN.exitThen ?_
    refine WN.exitHere ?_
    refine WN.normalBlock ?_
    refine WN.next ?_
    refine WC.region ?_
    refine WL.u rfl rfl (Wt.plain rfl) (Ex.move rfl) ?_
    refine WL.u rfl rfl (Wt.plain rfl) (Ex.add rfl rfl (by omega)) ?_
    refine WL.u rfl rfl (Wt.plain rfl) (Ex.assign rfl) ?_
    refine WL.last ?_
    refine WN.round (p + 1, cur19, mk) (by exact ⟨rfl, rfl, rfl, rfl, trivial⟩) ?_ ?_
    · exact ⟨hH, ho19, hM.next, by omega⟩
    · (try dsimp only); omega
  have hc1' := hc1; try simp only [decide_eq_true_eq, decide_eq_false_iff_not, Bool.not_eq_true', Bool.not_eq_false', Bool.not_eq_true, Bool.not_eq_false] at hc1'
  have hpp : p = ports g := by have : ports g ≤ p := by { rw [hpe]; omega }; omega
  subst hpp
  refine WC.exit ?_
  refine WN.exitThen ?_
  refine WN.exitThen ?_
  refine WN.exitHere ?_
  refine WN.next ?_
  refine WC.seq ?_
  refine WC.region ?_
  refine WL.u rfl rfl (Wt.plain rfl) (Ex.move rfl) ?_
  refine WL.u rfl rfl (Wt.plain rfl) (Ex.assign rfl) ?_
  refine WL.next ?_
  refine WC.ret ?_
  refine WN.body1 rfl rfl ?_
  have hl := hM.1
  have hN := New.of hH ho19 (hH.base 0 rfl)
  rw [hl] at hN
  exact ⟨mk, hH.keep, hN, hl, fun x => by rw [hM.2]; simp [inL, beamMark]⟩

set_option maxHeartbeats 2000000 in
theorem sl3Rounds (g : Grid) (a : Option Addr) (cap : Nat) (w : World) (hg : Sl rStr w a g) (hG : GridOk g) : Fn Tryd.prog 37 [.slice a g.length cap] w (fun v w1 => Keep [] w w1 ∧ New rNat 3 w w1 v ((rounds g).map List.length)) := by
  refine Fn.enter (n := 79) Tryd.func37 rfl rfl rfl ?_
  show WC _ _ _ _ [(0, .slice a g.length cap)] _
  have hH := Hp.start [] w
  have hz := hG.sz
  have hc25 := cells_le hG
  refine WC.seq ?_
  refine WC.region ?_
  refine WL.u rfl rfl (Wt.plain rfl) (Ex.assign rfl) ?_
  refine WL.next ?_
  refine WC.seq ?_
  refine WC.region ?_
  refine WL.lit0 Tryd.underlying34 ty3 rfl (Wt.plain rfl) hH (fun b11 wn hb11 hk11 hH => ?_)
  have ho11 := Own.nil rNat
  refine WL.u rfl rfl (Wt.plain rfl) (Ex.assign rfl) ?_
  refine WL.next ?_
  refine WC.seq ?_
  refine WC.region ?_
  refine WL.u rfl rfl (Wt.plain rfl) (Ex.move rfl) ?_
  refine WL.call callable46 rfl (Wt.plain rfl) rfl rfl (sl3Marks g _ _ _ (hg.kept hH.keep) hG) ?_
  rintro _ wn ⟨mk0, hC, hN, hml, hmk⟩; obtain ⟨b13, cap13, cur13, rfl, hge13, hbb13, ho13⟩ := hN.own; rw [hml]; replace hH := hH.push hC hge13 hbb13; clear hC hN
  refine WL.u rfl rfl (Wt.plain rfl) (Ex.assign rfl) ?_
  refine WL.next ?_
  refine WC.seq ?_
  refine WC.seq ?_
  refine WC.region ?_
  refine WL.u rfl rfl (Wt.plain rfl) (Ex.assign rfl) ?_
  refine WL.next ?_
  refine WC.block ?_
  replace hH := hH.f1
  refine WC.loop (ι := Nat × Nat × Nat × (Array Value) × (List Nat) × (Array Value) × (List Bool) × (Nat → Bool)) (fun (x, b11, cap11, cur11, R, cur13, mk, M) => [(0, .slice a g.length cap), (3, vsl b11 R.length cap11), (4, vsl b13 (4 * (nR g * nC g)) cap13), (5, vint x)]) (fun (x, b11, cap11, cur11, R, cur13, mk, M) wn => Hp [] w wn [(b11, .cells cur11 3 (0, 0)), (b13, .cells cur13 4 (0, 0))] ∧ Own rNat cur11 cap11 R ∧ Own rBool cur13 cap13 mk ∧ mk.length = 4 * (nR g * nC g) ∧ (∀ y, mk.getD y false = M y) ∧ SI g x (fun s => M (code s)) M R ∧ x ≤ 4 * (nR g * nC g)) (fun (x, b11, cap11, cur11, R, cur13, mk, M) => 4 * (nR g * nC g) - x) ((0, b11, 0, #[], [], cur13, mk0, beamMark g)) (by exact ⟨rfl, rfl, rfl, rfl, trivial⟩) ?_ ?_
  · exact ⟨hH, ho11, ho13, hml, hmk, ⟨fun s _ => rfl, fun y hy => (beamMark_iff hz).2 hy, by rw [List.nil_append, Nat.sub_zero, ← List.range_eq_range']; rfl, by simp⟩, Nat.zero_le _⟩
  rintro ⟨x, b11, cap11, cur11, R, cur13, mk, M⟩ wn ⟨hH, ho11, ho13, hml, hmk, hS, hx⟩
  intro mu0 hmu; try dsimp only at hmu
  show WC _ _ _ _ [(0, .slice a g.length cap), (3, vsl b11 R.length cap11), (4, vsl b13 (4 * (nR g * nC g)) cap13), (5, vint x)] _
  refine WC.seq ?_
  refine WC.seq ?_
  refine WC.region ?_
  refine WL.u rfl rfl (Wt.plain rfl) (Ex.move rfl) ?_
  refine WL.u rfl rfl (Wt.plain rfl) (Ex.move rfl) ?_
  refine WL.u rfl rfl (Wt.plain rfl) (Ex.lenSl Tryd.underlying56 rfl) ?_
  refine WL.u rfl rfl (Wt.plain rfl) (Ex.lss rfl rfl) ?_
  refine WL.next ?_
  refine WC.cond rfl (fun hc1 => ?_) (fun hc1 => ?_)
  · have hc1' := hc1; try simp only [decide_eq_true_eq, decide_eq_false_iff_not, Bool.not_eq_true', Bool.not_eq_false', Bool.not_eq_true, Bool.not_eq_false] at hc1'
    have hlx : x < 4 * (nR g * nC g) := by omega
    have hRl := hS.l
    refine WC.skip ?_
    refine WN.next ?_
    refine WC.seq ?_
    refine WC.block ?_
    refine WC.seq ?_
    refine WC.seq ?_
    refine WC.region ?_
    refine WL.u rfl rfl (Wt.plain rfl) (Ex.move rfl) ?_
    refine WL.u rfl rfl (Wt.plain rfl) (Ex.move rfl) ?_
    refine WL.u rfl rfl (Wt.plain rfl) (Ex.indexAddr Tryd.underlying56 ty4 rfl rfl (by omega)) ?_
    replace hH := hH.f1
    refine WL.u rfl rfl (Wt.plain rfl) (Ex.loadHp flat4 rfl hH (ho13.get rfl (getD_get mk x false (by omega)))) ?_
    refine WL.next ?_
    refine WC.cond rfl (fun hc2 => ?_) (fun hc2 => ?_)
    · rw [hmk] at hc2
      refine WC.exit ?_
      refine WN.exitThen ?_
      refine WN.exitHere ?_
      refine WN.next ?_
      refine WC.region ?_
      refine WL.u rfl rfl (Wt.plain rfl) (Ex.move rfl) ?_
      refine WL.u rfl rfl (Wt.plain rfl) (Ex.add rfl rfl (by omega)) ?_
      refine WL.u rfl rfl (Wt.plain rfl) (Ex.assign rfl) ?_
      refine WL.last ?_
      replace hH := hH.f1
      refine WN.round (x + 1, b11, cap11, cur11, R, cur13, mk, M) (by exact ⟨rfl, rfl, rfl, rfl, trivial⟩) ?_ ?_
      · exact ⟨hH, ho11, ho13, hml, hmk, hS.skip hlx hc2, by omega⟩
      · (try dsimp only); omega
    rw [hmk] at hc2
    have hok : Ok g (x / 4, x % 4) := stepOf_ok hlx
    have hcok := close_ok hz hok
    have hcl := close_len g (x / 4, x % 4)
    refine WC.skip ?_
    refine WN.next ?_
    refine WC.seq ?_
    replace hH := hH.front 0 rfl
    refine WC.region ?_
    refine WL.u rfl rfl (Wt.plain rfl) (Ex.move rfl) ?_
    refine WL.u rfl rfl (Wt.plain rfl) (Ex.move rfl) ?_
    refine WL.u rfl rfl (Wt.plain rfl) ((Ex.quo rfl rfl (by omega) (by omega)).to (congrArg (Value.int IntKind.i64) (show _ = ((x / 4 : Nat) : Int) from rfl))) ?_
    refine WL.u rfl rfl (Wt.plain rfl) (Ex.move rfl) ?_
    refine WL.u rfl rfl (Wt.plain rfl) ((Ex.rem rfl rfl (by omega) (by omega)).to (congrArg (Value.int IntKind.i64) (show _ = ((x % 4 : Nat) : Int) from rfl))) ?_
    refine WL.call callable47 rfl (Wt.plain rfl) rfl rfl (sl3Close g _ _ (x / 4, x % 4) _ (hg.kept hH.keep) hG hok) ?_
    rintro _ w31 ⟨x, y, rfl, hC, hN1, hN2⟩; obtain ⟨b31, cap31, cur31, rfl, hge31, hbb31, ho31⟩ := hN1.own; obtain ⟨b32, cap32, cur32, rfl, hge32, hbb32, ho32⟩ := hN2.own; rw [List.length_map, List.length_map]; have hs1 := ho31.sl0 hbb31; have hs2 := ho32.sl0 hbb32; have hltb := hH.lt 0 rfl; dsimp only at hltb; have hap1 : Apart [b13] (some (⟨b31, 0, none⟩ : Addr)) := (fun q hq hm => by cases hq; have := List.mem_singleton.1 hm; dsimp only at this; omega); have hap2 : Apart [b13] (some (⟨b32, 0, none⟩ : Addr)) := (fun q hq hm => by cases hq; have := List.mem_singleton.1 hm; dsimp only at this; omega); replace hH := hH.call hC; have hK : Keep [b13] w31 w31 := Keep.refl _ _
    refine WL.u rfl rfl (Wt.plain rfl) (Ex.move rfl) ?_
    refine WL.u rfl rfl (Wt.plain rfl) (Ex.extract rfl rfl) ?_
    refine WL.u rfl rfl (Wt.plain rfl) (Ex.extract rfl rfl) ?_
    refine WL.u rfl rfl (Wt.plain rfl) (Ex.extract rfl rfl) ?_
    refine WL.u rfl rfl (Wt.plain rfl) (Ex.assign rfl) ?_
    refine WL.u rfl rfl (Wt.plain rfl) (Ex.assign rfl) ?_
    refine WL.u rfl rfl (Wt.plain rfl) (Ex.assign rfl) ?_
    refine WL.next ?_
    refine WC.seq ?_
    refine WC.seq ?_
    refine WC.region ?_
    refine WL.u rfl rfl (Wt.plain rfl) (Ex.assign rfl) ?_
    refine WL.next ?_
    refine WC.block ?_
    replace hH := hH.f1
    refine WC.loop (ι := Nat × (Array Value) × (List Bool)) (fun (i, cur13, mk) => [(0, .slice a g.length cap), (3, vsl b11 R.length cap11), (4, vsl b13 (4 * (nR g * nC g)) cap13), (5, vint x), (6, vsl b31 (close g (x / 4, x % 4)).1.length cap31), (7, vsl b32 (close g (x / 4, x % 4)).1.length cap32), (9, vint i)]) (fun (i, cur13, mk) wn => Hp [] w wn [(b11, .cells cur11 3 (0, 0)), (b13, .cells cur13 4 (0, 0))] ∧ Own rBool cur13 cap13 mk ∧ Marks2 g M mk ((close g (x / 4, x % 4)).1.take i) ∧ Keep [b13] w31 wn ∧ i ≤ (close g (x / 4, x % 4)).1.length) (fun (i, cur13, mk) => (close g (x / 4, x % 4)).1.length - i) ((0, cur13, mk)) (by exact ⟨rfl, rfl, rfl, rfl, rfl, rfl, rfl, trivial⟩) ?_ ?_
    · exact ⟨hH, ho13, by rw [List.take_zero]; exact Marks2.start hml hmk, hK, Nat.zero_le _⟩
    rintro ⟨i, cur13, mk⟩ wn ⟨hH, ho13, hM, hK, hi⟩
    intro mu0 hmu; try dsimp only at hmu
    show WC _ _ _ _ [(0, .slice a g.length cap), (3, vsl b11 R.length cap11), (4, vsl b13 (4 * (nR g * nC g)) cap13), (5, vint x), (6, vsl b31 (close g (x / 4, x % 4)).1.length cap31), (7, vsl b32 (close g (x / 4, x % 4)).1.length cap32), (9, vint i)] _
    refine WC.seq ?_
    refine WC.seq ?_
    refine WC.region ?_
    refine WL.u rfl rfl (Wt.plain rfl) (Ex.move rfl) ?_
    refine WL.u rfl rfl (Wt.plain rfl) (Ex.move rfl) ?_
    refine WL.u rfl rfl (Wt.plain rfl) (Ex.lenSl Tryd.underlying34 rfl) ?_
    refine WL.u rfl rfl (Wt.plain rfl) (Ex.lss rfl rfl) ?_
    refine WL.next ?_
    refine WC.cond rfl (fun hc3 => ?_) (fun hc3 => ?_)
    · have hc3' := hc3; try simp only [decide_eq_true_eq, decide_eq_false_iff_not, Bool.not_eq_true', Bool.not_eq_false', Bool.not_eq_true, Bool.not_eq_false] at hc3'
      have hil : i < (close g (x / 4, x % 4)).1.length := by omega
      have hget := getD_get (close g (x / 4, x % 4)).1 i (0, 0) hil
      have hoki := hcok _ (List.mem_of_getElem? hget)
      have hget1 : ((close g (x / 4, x % 4)).1.map (·.1))[i]? = some ((close g (x / 4, x % 4)).1.getD i (0, 0)).1 := by rw [List.getElem?_map, hget]; rfl
      have hget2 : ((close g (x / 4, x % 4)).1.map (·.2))[i]? = some ((close g (x / 4, x % 4)).1.getD i (0, 0)).2 := by rw [List.getElem?_map, hget]; rfl
      have hcode := code_lt hoki
      have hcode2 := code_lt hoki.rev
      have hMl := hM.1
      have hcel := hoki.cell
      have hod := hoki.d
      have hb4 := bend_lt (letter g ((close g (x / 4, x % 4)).1.getD i (0, 0)).1) ((close g (x / 4, x % 4)).1.getD i (0, 0)).2 hod
      have hrv := rv_lt (bend (letter g ((close g (x / 4, x % 4)).1.getD i (0, 0)).1) ((close g (x / 4, x % 4)).1.getD i (0, 0)).2)
      have hcr : code (rev g ((close g (x / 4, x % 4)).1.getD i (0, 0))) = 4 * ((close g (x / 4, x % 4)).1.getD i (0, 0)).1 + rv (bend (letter g ((close g (x / 4, x % 4)).1.getD i (0, 0)).1) ((close g (x / 4, x % 4)).1.getD i (0, 0)).2) := rfl
      refine WC.skip ?_
      refine WN.next ?_
      refine WC.seq ?_
      refine WC.block ?_
      refine WC.seq ?_
      refine WC.tail 12 rfl (by kernel_rfl) ?_
      replace hH := hH.drew
      refine WS.u rfl rfl (Wt.plain rfl) (Ex.move rfl) ?_
      refine WS.u rfl rfl (Wt.plain rfl) (Ex.move rfl) ?_
      refine WS.u rfl rfl (Wt.plain rfl) (Ex.move rfl) ?_
      refine WS.u rfl rfl (Wt.plain rfl) (Ex.indexAddr Tryd.underlying34 ty3 rfl rfl (by omega)) ?_
      refine WS.u rfl rfl (Wt.plain rfl) (Ex.loadSl flat3 (hs1.keep (hK.trans (Keep.drew _ _)) hap1) rfl rfl hget1) ?_
      refine WS.u rfl rfl (Wt.plain rfl) (Ex.mul rfl rfl (by omega)) ?_
      refine WS.u rfl rfl (Wt.plain rfl) (Ex.move rfl) ?_
      refine WS.u rfl rfl (Wt.plain rfl) (Ex.move rfl) ?_
      refine WS.u rfl rfl (Wt.plain rfl) (Ex.indexAddr Tryd.underlying34 ty3 rfl rfl (by omega)) ?_
      refine WS.u rfl rfl (Wt.plain rfl) (Ex.loadSl flat3 (hs2.keep (hK.trans (Keep.drew _ _)) hap2) rfl rfl hget2) ?_
      refine WS.u rfl rfl (Wt.plain rfl) ((Ex.add rfl rfl (by omega)).to (congrArg (Value.int IntKind.i64) (show _ = ((code ((close g (x / 4, x % 4)).1.getD i (0, 0)) : Nat) : Int) by unfold code; omega))) ?_
      refine WS.u rfl rfl (Wt.plain rfl) (Ex.indexAddr Tryd.underlying56 ty4 rfl rfl (by omega)) ?_
      refine WS.nil ?_
      replace hH := hH.f1
      refine WL.store1 ty4 rfl rfl rfl (Wt.plain rfl) hH (ho13.idx rfl (by omega)) (by simp) (fun wn hk hH => ?_)
      replace ho13 := ho13.set rfl (code ((close g (x / 4, x % 4)).1.getD i (0, 0))) true
      replace hK := (hK.trans (Keep.drew _ _)).trans hk
      refine WL.next ?_
      refine WC.seq ?_
      refine WC.quietK rfl (by kernel_rfl) ?_
      refine WQ.u rfl rfl (Wt.plain rfl) (fun w hC => Ex.move rfl) ?_
      refine WQ.u rfl rfl (Wt.plain rfl) (fun w hC => Ex.move rfl) ?_
      refine WQ.u rfl rfl (Wt.plain rfl) (fun w hC => Ex.move rfl) ?_
      refine WQ.u rfl rfl (Wt.plain rfl) (fun w hC => Ex.indexAddr Tryd.underlying34 ty3 rfl rfl (by omega)) ?_
      refine WQ.u rfl rfl (Wt.plain rfl) (fun w hC => Ex.loadSl flat3 (hs1.keep (hK.trans hC.nil) hap1) rfl rfl hget1) ?_
      refine WQ.call callable63 rfl (Wt.plain rfl) rfl rfl (fun w hC => Fn.rk hC (sl2Cell g _ _ ((close g (x / 4, x % 4)).1.getD i (0, 0)).1 _ ((hg.kept hH.keep).kept hC) hG hcel)) ?_
      refine WQ.u rfl rfl (Wt.plain rfl) (fun w hC => Ex.move rfl) ?_
      refine WQ.u rfl rfl (Wt.plain rfl) (fun w hC => Ex.move rfl) ?_
      refine WQ.u rfl rfl (Wt.plain rfl) (fun w hC => Ex.indexAddr Tryd.underlying34 ty3 rfl rfl (by omega)) ?_
      refine WQ.u rfl rfl (Wt.plain rfl) (fun w hC => Ex.loadSl flat3 (hs2.keep (hK.trans hC.nil) hap2) rfl rfl hget2) ?_
      refine WQ.call callable62 rfl (Wt.plain rfl) rfl rfl (fun w hC => Fn.e hC (sl2Bend (letter g ((close g (x / 4, x % 4)).1.getD i (0, 0)).1) ((close g (x / 4, x % 4)).1.getD i (0, 0)).2 _ hod)) ?_
      refine WQ.u rfl rfl (Wt.plain rfl) (fun w hC => (Ex.xorN rfl rfl (by omega) (by omega)).to (congrArg (Value.int IntKind.i64) (xor2 hb4))) ?_
      refine WQ.u rfl rfl (Wt.plain rfl) (fun w hC => Ex.assign rfl) ?_
      refine WQ.nil ?_
      intro wn hC; replace hH := hH.call hC; replace hK := hK.trans hC.nil; clear hC
      refine WN.next ?_
      refine WC.region ?_
      refine WL.u rfl rfl (Wt.plain rfl) (Ex.move rfl) ?_
      refine WL.u rfl rfl (Wt.plain rfl) (Ex.move rfl) ?_
      refine WL.u rfl rfl (Wt.plain rfl) (Ex.move rfl) ?_
      refine WL.u rfl rfl (Wt.plain rfl) (Ex.indexAddr Tryd.underlying34 ty3 rfl rfl (by omega)) ?_
      refine WL.u rfl rfl (Wt.plain rfl) (Ex.loadSl flat3 (hs1.keep hK hap1) rfl rfl hget1) ?_
      refine WL.u rfl rfl (Wt.plain rfl) (Ex.mul rfl rfl (by omega)) ?_
      refine WL.u rfl rfl (Wt.plain rfl) (Ex.move rfl) ?_
      refine WL.u rfl rfl (Wt.plain rfl) ((Ex.add rfl rfl (by omega)).to (congrArg (Value.int IntKind.i64) (show _ = ((code (rev g ((close g (x / 4, x % 4)).1.getD i (0, 0))) : Nat) : Int) by rw [hcr]; omega))) ?_
      refine WL.u rfl rfl (Wt.plain rfl) (Ex.indexAddr Tryd.underlying56 ty4 rfl rfl (by omega)) ?_
      refine WL.store1 ty4 rfl rfl rfl (Wt.plain rfl) hH (ho13.idx rfl (by rw [List.length_set]; omega)) (by simp) (fun wn hk hH => ?_)
      replace ho13 := ho13.set rfl (code (rev g ((close g (x / 4, x % 4)).1.getD i (0, 0)))) true
      refine WL.last ?_
      refine WN.normalBlock ?_
      refine WN.next ?_
      refine WC.region ?_
      refine WL.u rfl rfl (Wt.plain rfl) (Ex.move rfl) ?_
      refine WL.u rfl rfl (Wt.plain rfl) (Ex.add rfl rfl (by omega)) ?_
      refine WL.u rfl rfl (Wt.plain rfl) (Ex.assign rfl) ?_
      refine WL.last ?_
      replace hH := hH.f1
      refine WN.round (i + 1, (cur13.setIfInBounds (0 + (code ((close g (x / 4, x % 4)).1.getD i (0, 0)) : Int).toNat * 1) (rBool.val true)).setIfInBounds (0 + (code (rev g ((close g (x / 4, x % 4)).1.getD i (0, 0))) : Int).toNat * 1) (rBool.val true), (mk.set (code ((close g (x / 4, x % 4)).1.getD i (0, 0))) true).set (code (rev g ((close g (x / 4, x % 4)).1.getD i (0, 0)))) true) (by exact ⟨rfl, rfl, rfl, rfl, rfl, rfl, rfl, trivial⟩) ?_ ?_
      · exact ⟨hH, ho13, by rw [take_snoc hget]; exact hM.set hoki, hK.trans hk, by omega⟩
      · (try dsimp only); omega
    have hc3' := hc3; try simp only [decide_eq_true_eq, decide_eq_false_iff_not, Bool.not_eq_true', Bool.not_eq_false', Bool.not_eq_true, Bool.not_eq_false] at hc3'
    have hil : i = (close g (x / 4, x % 4)).1.length := by omega
    rw [hil, List.take_length] at hM
    have hS2 := hS.next hlx hc2 (F' := fun s => markL g M (close g (stepOf x)).1 (code s)) (fun s _ => rfl)
    refine WC.exit ?_
    refine WN.exitThen ?_
    refine WN.exitThen ?_
    refine WN.exitHere ?_
    refine WN.next ?_
    refine WC.region ?_
    refine WL.u rfl rfl (Wt.plain rfl) (Ex.move rfl) ?_
    refine WL.u rfl rfl (Wt.plain rfl) (Ex.move rfl) ?_
    refine WL.u rfl rfl (Wt.plain rfl) (Ex.lenSl Tryd.underlying34 rfl) ?_
    refine WL.append1 (r := rNat) (u := (close g (x / 4, x % 4)).1.length) Tryd.underlying34 ty3 rfl rfl (fun _ => rfl) (fun _ => rfl) rfl rfl (Wt.plain rfl) (fun _ => (Wt.plain rfl)) hH ho11 rfl (by omega) (by omega) (fun b11 cap11 cur11 wn x11 hb11 hk11 hH ho11 => ?_)
    refine WL.u rfl rfl (Wt.plain rfl) (Ex.assign rfl) ?_
    refine WL.last ?_
    refine WN.normalBlock ?_
    refine WN.next ?_
    refine WC.region ?_
    refine WL.u rfl rfl (Wt.plain rfl) (Ex.move rfl) ?_
    refine WL.u rfl rfl (Wt.plain rfl) (Ex.add rfl rfl (by omega)) ?_
    refine WL.u rfl rfl (Wt.plain rfl) (Ex.assign rfl) ?_
    refine WL.last ?_
    replace hH := hH.f1
    replace hH := hH.f1
    refine WN.round (x + 1, b11, cap11, cur11, R ++ [(close g (x / 4, x % 4)).1.length], cur13, mk, markL g M (close g (stepOf x)).1) (by exact ⟨rfl, rfl, rfl, rfl, trivial⟩) ?_ ?_
    · exact ⟨hH, ho11, ho13, hM.1, hM.2, hS2, by omega⟩
    · (try dsimp only); omega
  have hc1' := hc1; try simp only [decide_eq_true_eq, decide_eq_false_iff_not, Bool.not_eq_true', Bool.not_eq_false', Bool.not_eq_true, Bool.not_eq_false] at hc1'
  obtain rfl : x = 4 * (nR g * nC g) := by omega
  have hd := hS.done
  refine WC.exit ?_
  refine WN.exitThen ?_
  refine WN.exitThen ?_
  refine WN.exitHere ?_
  refine WN.next ?_
  refine WC.seq ?_
  refine WC.region ?_
  refine WL.u rfl rfl (Wt.plain rfl) (Ex.move rfl) ?_
  refine WL.u rfl rfl (Wt.plain rfl) (Ex.assign rfl) ?_
  refine WL.next ?_
  refine WC.ret ?_
  refine WN.body1 rfl rfl ?_
  exact ⟨hH.keep, by rw [← hd]; exact New.of (hH.front 0 rfl) ho11 (hH.base 0 rfl)⟩

end Go.Proofs.YtmhmdlgcdeodmaaDoor
