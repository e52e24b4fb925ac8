/- Whole beams: the program's and the reference's. -/
import Derived.Test.YtjejdebmlgjdeaaBeam
namespace Go.Proofs.Ytjejdebmlgjdeaa
set_option maxRecDepth 100000
set_option linter.unusedSimpArgs false
set_option linter.unusedVariables false
open Go Go.RowKit

theorem GridOk.sz {g : Grid} (h : GridOk g) : Sz g := ⟨h.n1, Nat.lt_succ_of_le h.n5, h.m1, Nat.lt_succ_of_le h.m5⟩
theorem cells_le {g : Grid} (h : GridOk g) : nR g * nC g ≤ 25 := Nat.mul_le_mul h.n5 h.m5
theorem ports_le {g : Grid} (h : GridOk g) : ports g ≤ 20 := by have := h.n5; have := h.m5; unfold ports; dsimp only [nR, nC]; omega
def nf (g : Grid) (s : Nat × Nat) (f : Nat) : Nat := match afterN g s with
  | .inl _ => 0
  | .inr _ => f - 1
/-- the beam's loop -/
def BI (g : Grid) (p : Nat) (l : List (Nat × Nat)) (s : Nat × Nat) (e : Int) (f : Nat) : Prop :=
  l.length + f ≤ 4 * (nR g * nC g) ∧ ((e = -1 ∧ leaves g f s = true ∧ Ok g s ∧ way g p = (l ++ (wayF g f s).1, (wayF g f s).2)) ∨ (f = 0 ∧ 0 ≤ e ∧ ((way g p).2 : Int) = e ∧ (way g p).1 = l))
theorem BI.start {g : Grid} (h : GridOk g) {p : Nat} (hp : p < ports g) : BI g p [] (enterN (nR g) (nC g) p) (-1) (4 * (nR g * nC g)) :=
  ⟨by simp, .inl ⟨rfl, way_leaves h.sz hp, enter_ok h.sz hp, rfl⟩⟩
theorem BI.step {g : Grid} (h : GridOk g) {p : Nat} {l : List (Nat × Nat)} {s : Nat × Nat} {e : Int} {f : Nat} (hB : BI g p l s e f) (he : e < 0) : BI g p (l ++ [s]) (nx g s) (ex g s) (nf g s f) ∧ nf g s f < f := by
  obtain ⟨h0, h1⟩ := hB
  rcases h1 with ⟨_, h2, h3, h4⟩ | ⟨_, h2, _⟩
  · cases f with
    | zero => cases h2
    | succ f =>
      unfold leaves at h2
      unfold wayF at h4
      cases ha : afterN g s with
      | inl q =>
        rw [ha] at h4
        refine ⟨⟨by simp [nf, ha]; omega, .inr ⟨by simp [nf, ha], by simp [ex, ha], by simp [h4, ex, ha], by simp [h4]⟩⟩, by simp [nf, ha]⟩
      | inr s' =>
        rw [ha] at h2 h4
        refine ⟨⟨by simp [nf, ha]; omega, .inl ⟨by simp [ex, ha], by simpa [nf, nx, ha] using h2, by simpa [nx, ha] using (after_r h.sz h3 ha).1, by simp [h4, nf, nx, ha]⟩⟩, by simp [nf, ha]⟩
  · omega
theorem BI.ok {g : Grid} {p : Nat} {l : List (Nat × Nat)} {s : Nat × Nat} {e : Int} {f : Nat} (hB : BI g p l s e f) (he : e < 0) : e = -1 ∧ leaves g f s = true ∧ Ok g s := by
  rcases hB.2 with ⟨h1, h2, h3, _⟩ | ⟨_, h2, _⟩
  · exact ⟨h1, h2, h3⟩
  · omega
theorem BI.done {g : Grid} {p : Nat} {l : List (Nat × Nat)} {s : Nat × Nat} {e : Int} {f : Nat} (hB : BI g p l s e f) (he : ¬ e < 0) : ((way g p).2 : Int) = e ∧ (way g p).1 = l := by
  rcases hB.2 with ⟨h1, _⟩ | ⟨_, _, h3, h4⟩
  · omega
  · exact ⟨h3, h4⟩
theorem BI.len {g : Grid} (h : GridOk g) {p : Nat} {l : List (Nat × Nat)} {s : Nat × Nat} {e : Int} {f : Nat} (hB : BI g p l s e f) : l.length ≤ 100 := by
  have := hB.1; have := cells_le h; omega
theorem Hp.base {w0 w : World} {L : List (Nat × Obj)} (h : Hp [] w0 w L) (i : Nat) {p : Nat × Obj} (hi : L[i]? = some p) : w0.heap.size ≤ p.1 := (h.own p (List.mem_of_getElem? hi)).resolve_right (by simp)
theorem Own.nil {α : Type} (r : Rep α) : Own r #[] 0 [] := ⟨by simp, by simp, by simp, by simp [Rw]⟩
theorem New.own {α : Type} {r : Rep α} {e : TypeId} {w0 w : World} {v : Value} {l : List α} (h : New r e w0 w v l) : ∃ b cap cur, v = vsl b l.length cap ∧ w0.heap.size ≤ b ∧ w.heap[b]? = some (.cells cur e (0, 0)) ∧ Own r cur cap l := by
  obtain ⟨b, cap, cur, h1, h2, h3, h4, h5, h6, h7⟩ := h
  exact ⟨b, cap, cur, h1, h2, h3, ⟨h4, h5, by simpa [maxLen] using h6, h7⟩⟩
theorem New.keep {α : Type} {r : Rep α} {e : TypeId} {w0 w w1 : World} {v : Value} {l : List α} (h : New r e w0 w v l) (k : Keep [] w w1) : New r e w0 w1 v l := by
  obtain ⟨b, cap, cur, h1, h2, h3, h4⟩ := h
  exact ⟨b, cap, cur, h1, h2, k.heap h3 (by simp), h4⟩
theorem Own.sl {α : Type} {r : Rep α} {S : List Nat} {w0 w : World} {L : List (Nat × Obj)} {b cap : Nat} {cur : Array Value} {e : TypeId} {l : List α} (o : Own r cur cap l) (h : Hp S w0 w ((b, .cells cur e (0, 0)) :: L)) : Sl r w (some ⟨b, 0, none⟩) l :=
  o.rw.sl (h.at 0 rfl) (by have := o.le; have := o.max; omega)

theorem ibeam (g : Grid) (a : Option Addr) (cap p : Nat) (w : World) (hg : Sl rStr w a g) (hG : GridOk g) (hp : p < ports g) : Fn Try.prog 58 [.slice a g.length cap, vint p] w (fun v w1 => ∃ x, v = .tuple #[x, vint (way g p).2] ∧ Keep [] w w1 ∧ New rStep 58 w w1 x (way g p).1) := by
  refine Fn.enter (n := 27) Try.func58 rfl rfl rfl ?_
  show WC _ _ _ _ [(0, .slice a g.length cap), (1, vint p)] _
  have hH := Hp.start [] w
  obtain ⟨b, off, rfl⟩ := hg.addr (show 0 < g.length from hG.n1)
  refine WC.seq ?_
  refine WC.region ?_
  refine WL.u rfl rfl (Wt.plain rfl) (Ex.assign rfl) ?_
  refine WL.u rfl rfl (Wt.plain rfl) (Ex.assign rfl) ?_
  refine WL.next ?_
  refine WC.seq ?_
  refine WC.region ?_
  refine WL.lit0 Try.underlying66 ty58 rfl (Wt.plain rfl) hH (fun b9 wn hb9 hk9 hH => ?_)
  have ho9 := Own.nil rStep
  refine WL.u rfl rfl (Wt.plain rfl) (Ex.assign rfl) ?_
  refine WL.next ?_
  refine WC.seq ?_
  refine WC.region ?_
  refine WL.u rfl rfl (Wt.plain rfl) (Ex.move rfl) ?_
  refine WL.u rfl rfl (Wt.plain rfl) (Ex.move rfl) ?_
  refine WL.call callable50 rfl (Wt.plain rfl) rfl rfl (ienter _ _ _ _ _ (hg.kept hH.keep) hG hp) ?_
  rintro _ wn ⟨rfl, hC⟩; replace hH := hH.call hC; clear hC
  refine WL.alloc ty58 rfl rfl (Wt.plain rfl) hH (fun b7 wn hb7 hk7 hH => ?_)
  refine WL.store2 ty58 rfl rfl rfl rfl (Wt.plain rfl) hH (fun wn hk hH => ?_)
  refine WL.u rfl rfl (Wt.plain rfl) (Ex.assign rfl) ?_
  refine WL.next ?_
  refine WC.seq ?_
  refine WC.block ?_
  replace hH := hH.f1
  refine WC.loop (ι := Nat × Nat × (Array Value) × (List (Nat × Nat)) × (Nat × Nat) × Int × Nat) (fun (b9, cap9, cur9, l, s, e, f) => [(0, .slice (some ⟨b, off, none⟩) g.length cap), (6, vsl b9 l.length cap9), (7, vptr b7 0), (8, vint e)]) (fun (b9, cap9, cur9, l, s, e, f) wn => Hp [] w wn [(b9, .cells cur9 58 (0, 0)), (b7, .cells #[vint s.1, vint s.2] 58 (0, 0))] ∧ Own rStep cur9 cap9 l ∧ BI g p l s e f) (fun (b9, cap9, cur9, l, s, e, f) => f) ((b9, 0, #[], [], enterN (nR g) (nC g) p, -1, 4 * (nR g * nC g))) (by exact ⟨rfl, rfl, rfl, rfl, trivial⟩) ?_ ?_
  · exact ⟨hH, ho9, BI.start hG hp⟩
  rintro ⟨b9, cap9, cur9, l, s, e, f⟩ wn ⟨hH, ho9, hB⟩
  intro mu0 hmu; try dsimp only at hmu
  show WC _ _ _ _ [(0, .slice (some ⟨b, off, none⟩) g.length cap), (6, vsl b9 l.length cap9), (7, vptr b7 0), (8, vint e)] _
  refine WC.seq ?_
  refine WC.seq ?_
  refine WC.region ?_
  refine WL.u rfl rfl (Wt.plain rfl) (Ex.move rfl) ?_
  refine WL.u rfl rfl (Wt.plain rfl) (Ex.lss rfl rfl) ?_
  refine WL.next ?_
  refine WC.cond rfl (fun hc1 => ?_) (fun hc1 => ?_)
  · have hc1' := hc1; try simp only [decide_eq_true_eq, decide_eq_false_iff_not, Bool.not_eq_true', Bool.not_eq_false', Bool.not_eq_true, Bool.not_eq_false] at hc1'
    have hlt : e < 0 := hc1'
    have hok := (hB.ok hlt).2.2
    have hl100 := hB.len hG
    refine WC.skip ?_
    refine WN.next ?_
    refine WC.block ?_
    refine WC.seq ?_
    refine WC.region ?_
    refine WL.u rfl rfl (Wt.plain rfl) (Ex.move rfl) ?_
    replace hH := hH.f1
    refine WL.u rfl rfl (Wt.plain rfl) (Ex.loadHp2 Try.underlying58 ty58 rfl hH) ?_
    replace hH := hH.f1
    refine WL.append1 (r := rStep) (u := s) Try.underlying66 ty58 rfl rfl (fun _ => rfl) (fun _ => rfl) rfl rfl (Wt.plain rfl) (fun _ => (Wt.plain rfl)) hH ho9 rfl (by omega) (by omega) (fun b9 cap9 cur9 wn x9 hb9 hk9 hH ho9 => ?_)
    refine WL.u rfl rfl (Wt.plain rfl) (Ex.assign rfl) ?_
    refine WL.next ?_
    refine WC.region ?_
    refine WL.u rfl rfl (Wt.plain rfl) (Ex.move rfl) ?_
    replace hH := hH.f1
    refine WL.u rfl rfl (Wt.plain rfl) (Ex.loadHp2 Try.underlying58 ty58 rfl hH) ?_
    refine WL.call callable93 rfl (Wt.plain rfl) rfl rfl (iafter _ _ _ s.1 s.2 _ (hg.kept hH.keep) hG hok.cell hok.d) ?_
    rintro _ wn ⟨rfl, hC⟩; replace hH := hH.call hC; clear hC
    refine WL.u rfl rfl (Wt.plain rfl) (Ex.move rfl) ?_
    refine WL.u rfl rfl (Wt.plain rfl) (Ex.extract rfl rfl) ?_
    refine WL.u rfl rfl (Wt.plain rfl) (Ex.extract rfl rfl) ?_
    refine WL.store2 ty58 rfl rfl rfl rfl (Wt.plain rfl) hH (fun wn hk hH => ?_)
    refine WL.u rfl rfl (Wt.plain rfl) (Ex.assign rfl) ?_
    refine WL.last ?_
    refine WN.normalBlock ?_
    replace hH := hH.f1
    refine WN.round (b9, cap9, cur9, l ++ [s], nx g s, ex g s, nf g s f) (by exact ⟨rfl, rfl, rfl, rfl, trivial⟩) ?_ ?_
    · exact ⟨hH, ho9, (hB.step hG hlt).1⟩
    · have := (hB.step hG hlt).2; dsimp only; omega
  have hc1' := hc1; try simp only [decide_eq_true_eq, decide_eq_false_iff_not, Bool.not_eq_true', Bool.not_eq_false', Bool.not_eq_true, Bool.not_eq_false] at hc1'
  have hd := hB.done hc1'
  refine WC.exit ?_
  refine WN.exitThen ?_
  refine WN.exitThen ?_
  refine WN.exitHere ?_
  refine WN.next ?_
  refine WC.seq ?_
  refine WC.region ?_
  refine WL.u rfl rfl (Wt.plain rfl) (Ex.move rfl) ?_
  refine WL.u rfl rfl (Wt.plain rfl) (Ex.move rfl) ?_
  refine WL.u rfl rfl (Wt.plain rfl) (Ex.assign rfl) ?_
  refine WL.u rfl rfl (Wt.plain rfl) (Ex.assign rfl) ?_
  refine WL.next ?_
  refine WC.ret ?_
  refine WN.body2 rfl rfl rfl ?_
  exact ⟨_, by rw [hd.1], hH.keep, by rw [hd.2]; exact New.of hH ho9 (hH.base 0 rfl)⟩


/-- the reference's words, in coordinates -/
def stepI (i k : Int) (d : Nat) : Int × Int := if d = 0 then (i - 1, k) else if d = 1 then (i, k + 1) else if d = 2 then (i + 1, k) else (i, k - 1)
def leaveI (n m : Nat) (i k : Int) : Int := if i < 0 then k else if k ≥ m then m + i else if i ≥ n then 2 * m + n - 1 - k else if k < 0 then 2 * (n + m) - 1 - i else -1
def chkI (n m cell e : Nat) : Bool :=
  let x := stepI ((cell / m : Nat) : Int) ((cell % m : Nat) : Int) e
  match goN n m cell e with
  | .inl p => decide (leaveI n m x.1 x.2 = p)
  | .inr s => decide (leaveI n m x.1 x.2 = -1) && decide (x.1 = ((s.1 / m : Nat) : Int)) && decide (x.2 = ((s.1 % m : Nat) : Int))
theorem allI : ∀ n < 6, ∀ m < 6, ∀ cell < n * m, ∀ e < 4, chkI n m cell e = true := by decide +kernel
theorem step_in {g : Grid} (z : Sz g) {s : Nat × Nat} (h : Ok g s) {x : Int × Int} (hx : x = stepI ((s.1 / nC g : Nat) : Int) ((s.1 % nC g : Nat) : Int) (bend (letter g s.1) s.2)) :
    leaveI (nR g) (nC g) x.1 x.2 = ex g s ∧ (ex g s < 0 → x.1 = (((nx g s).1 / nC g : Nat) : Int) ∧ x.2 = (((nx g s).1 % nC g : Nat) : Int) ∧ (nx g s).2 = bend (letter g s.1) s.2) := by
  have hb := bend_lt (letter g s.1) s.2 h.d
  have := allI _ z.n5 _ z.m5 s.1 h.cell _ hb
  have ha := allA _ z.n5 _ z.m5 s.1 h.cell _ hb
  simp only [chkI] at this
  unfold chkA at ha
  subst hx
  unfold ex nx afterN
  cases hg : goN (nR g) (nC g) s.1 (bend (letter g s.1) s.2) with
  | inl p =>
    rw [hg] at this
    simp only [decide_eq_true_eq] at this
    exact ⟨this, fun h => absurd h (by simp)⟩
  | inr t =>
    rw [hg] at this ha
    simp only [Bool.and_eq_true, decide_eq_true_eq] at this ha
    exact ⟨this.1.1, fun _ => ⟨this.1.2, this.2, ha.1.2⟩⟩


def chkE (n m p : Nat) : Bool :=
  let i := (((enterN n m p).1 / m : Nat) : Int)
  let k := (((enterN n m p).1 % m : Nat) : Int)
  let d := (enterN n m p).2
  if p < m then decide (i = 0 ∧ k = p ∧ d = 2) else if p < m + n then decide (i = (p : Int) - m ∧ k = (m : Int) - 1 ∧ d = 3)
  else if p < 2 * m + n then decide (i = (n : Int) - 1 ∧ k = 2 * (m : Int) + n - 1 - p ∧ d = 0) else decide (i = ((2 * (n + m) : Nat) : Int) - 1 - p ∧ k = 0 ∧ d = 1)
theorem allE : ∀ n < 6, ∀ m < 6, 0 < n → 0 < m → ∀ p < 2 * n + 2 * m, chkE n m p = true := by decide +kernel
theorem enterI (n m p : Nat) (hn1 : 0 < n) (hn : n < 6) (hm1 : 0 < m) (hm : m < 6) (hp : p < 2 * n + 2 * m) :
    (p < m → (((enterN n m p).1 / m : Nat) : Int) = 0 ∧ (((enterN n m p).1 % m : Nat) : Int) = p ∧ (enterN n m p).2 = 2) ∧
    (m ≤ p → p < m + n → (((enterN n m p).1 / m : Nat) : Int) = (p : Int) - m ∧ (((enterN n m p).1 % m : Nat) : Int) = (m : Int) - 1 ∧ (enterN n m p).2 = 3) ∧
    (m + n ≤ p → p < 2 * m + n → (((enterN n m p).1 / m : Nat) : Int) = (n : Int) - 1 ∧ (((enterN n m p).1 % m : Nat) : Int) = 2 * (m : Int) + n - 1 - p ∧ (enterN n m p).2 = 0) ∧
    (2 * m + n ≤ p → (((enterN n m p).1 / m : Nat) : Int) = ((2 * (n + m) : Nat) : Int) - 1 - p ∧ (((enterN n m p).1 % m : Nat) : Int) = 0 ∧ (enterN n m p).2 = 1) := by
  have := allE n hn m hm hn1 hm1 p hp
  simp only [chkE] at this
  refine ⟨fun h => ?_, fun h1 h2 => ?_, fun h1 h2 => ?_, fun h1 => ?_⟩
  · rw [if_pos h] at this; exact of_decide_eq_true this
  · rw [if_neg (by omega), if_pos h2] at this; exact of_decide_eq_true this
  · rw [if_neg (by omega), if_neg (by omega), if_pos h2] at this; exact of_decide_eq_true this
  · rw [if_neg (by omega), if_neg (by omega), if_neg (by omega)] at this; exact of_decide_eq_true this

theorem sl2Step (i k : Int) (d : Nat) (w : World) (hi : -100 ≤ i ∧ i ≤ 100) (hk : -100 ≤ k ∧ k ≤ 100) (hd : d < 4) : Fn Try.prog 115 [vint i, vint k, vint d] w (fun v w1 => v = .tuple #[vint (stepI i k d).1, vint (stepI i k d).2] ∧ w1 = w) := by
  refine Fn.enter (n := 27) Try.func115 rfl rfl rfl ?_
  show WC _ _ _ _ [(0, vint i), (1, vint k), (2, vint d)] _
  refine WC.seq ?_
  refine WC.region ?_
  refine WL.u rfl rfl (Wt.plain rfl) (Ex.assign rfl) ?_
  refine WL.u rfl rfl (Wt.plain rfl) (Ex.assign rfl) ?_
  refine WL.next ?_
  refine WC.seq ?_
  refine WC.seq ?_
  refine WC.region ?_
  refine WL.u rfl rfl (Wt.plain rfl) (Ex.move rfl) ?_
  refine WL.next ?_
  refine WC.block ?_
  refine WC.seq ?_
  refine WC.region ?_
  refine WL.u rfl rfl (Wt.plain rfl) (Ex.eql rfl rfl) ?_
  refine WL.u rfl rfl (Wt.plain rfl) (Ex.assign rfl) ?_
  refine WL.next ?_
  refine WC.cond rfl (fun hc1 => ?_) (fun hc1 => ?_)
  · have hc1' := hc1; try simp only [decide_eq_true_eq, decide_eq_false_iff_not, Bool.not_eq_true', Bool.not_eq_false', Bool.not_eq_true, Bool.not_eq_false] at hc1'
    refine WC.seq ?_
    refine WC.region ?_
    refine WL.u rfl rfl (Wt.plain rfl) (Ex.move rfl) ?_
    refine WL.u rfl rfl (Wt.plain rfl) (Ex.sub rfl rfl (by omega)) ?_
    refine WL.u rfl rfl (Wt.plain rfl) (Ex.move rfl) ?_
    refine WL.u rfl rfl (Wt.plain rfl) (Ex.assign rfl) ?_
    refine WL.u rfl rfl (Wt.plain rfl) (Ex.assign rfl) ?_
    refine WL.next ?_
    refine WC.ret ?_
    refine WN.retBlock ?_
    refine WN.retThen ?_
    refine WN.body2 rfl rfl rfl ?_
    have hq : d = 0 := by omega
    exact ⟨by simp [stepI, hq], rfl⟩
  have hc1' := hc1; try simp only [decide_eq_true_eq, decide_eq_false_iff_not, Bool.not_eq_true', Bool.not_eq_false', Bool.not_eq_true, Bool.not_eq_false] at hc1'
  refine WC.seq ?_
  refine WC.region ?_
  refine WL.u rfl rfl (Wt.plain rfl) (Ex.eql rfl rfl) ?_
  refine WL.u rfl rfl (Wt.plain rfl) (Ex.assign rfl) ?_
  refine WL.next ?_
  refine WC.cond rfl (fun hc2 => ?_) (fun hc2 => ?_)
  · have hc2' := hc2; try simp only [decide_eq_true_eq, decide_eq_false_iff_not, Bool.not_eq_true', Bool.not_eq_false', Bool.not_eq_true, Bool.not_eq_false] at hc2'
    refine WC.seq ?_
    refine WC.region ?_
    refine WL.u rfl rfl (Wt.plain rfl) (Ex.move rfl) ?_
    refine WL.u rfl rfl (Wt.plain rfl) (Ex.move rfl) ?_
    refine WL.u rfl rfl (Wt.plain rfl) (Ex.add rfl rfl (by omega)) ?_
    refine WL.u rfl rfl (Wt.plain rfl) (Ex.assign rfl) ?_
    refine WL.u rfl rfl (Wt.plain rfl) (Ex.assign rfl) ?_
    refine WL.next ?_
    refine WC.ret ?_
    refine WN.retBlock ?_
    refine WN.retThen ?_
    refine WN.body2 rfl rfl rfl ?_
    have hq : d = 1 := by omega
    exact ⟨by simp [stepI, hq], rfl⟩
  have hc2' := hc2; try simp only [decide_eq_true_eq, decide_eq_false_iff_not, Bool.not_eq_true', Bool.not_eq_false', Bool.not_eq_true, Bool.not_eq_false] at hc2'
  refine WC.seq ?_
  refine WC.region ?_
  refine WL.u rfl rfl (Wt.plain rfl) (Ex.eql rfl rfl) ?_
  refine WL.u rfl rfl (Wt.plain rfl) (Ex.assign rfl) ?_
  refine WL.next ?_
  refine WC.cond rfl (fun hc3 => ?_) (fun hc3 => ?_)
  · have hc3' := hc3; try simp only [decide_eq_true_eq, decide_eq_false_iff_not, Bool.not_eq_true', Bool.not_eq_false', Bool.not_eq_true, Bool.not_eq_false] at hc3'
    refine WC.seq ?_
    refine WC.region ?_
    refine WL.u rfl rfl (Wt.plain rfl) (Ex.move rfl) ?_
    refine WL.u rfl rfl (Wt.plain rfl) (Ex.add rfl rfl (by omega)) ?_
    refine WL.u rfl rfl (Wt.plain rfl) (Ex.move rfl) ?_
    refine WL.u rfl rfl (Wt.plain rfl) (Ex.assign rfl) ?_
    refine WL.u rfl rfl (Wt.plain rfl) (Ex.assign rfl) ?_
    refine WL.next ?_
    refine WC.ret ?_
    refine WN.retBlock ?_
    refine WN.retThen ?_
    refine WN.body2 rfl rfl rfl ?_
    have hq : d = 2 := by omega
    exact ⟨by simp [stepI, hq], rfl⟩
  have hc3' := hc3; try simp only [decide_eq_true_eq, decide_eq_false_iff_not, Bool.not_eq_true', Bool.not_eq_false', Bool.not_eq_true, Bool.not_eq_false] at hc3'
  refine WC.skip ?_
  refine WN.normalBlock ?_
  refine WN.next ?_
  refine WC.seq ?_
  refine WC.region ?_
  refine WL.u rfl rfl (Wt.plain rfl) (Ex.move rfl) ?_
  refine WL.u rfl rfl (Wt.plain rfl) (Ex.move rfl) ?_
  refine WL.u rfl rfl (Wt.plain rfl) (Ex.sub rfl rfl (by omega)) ?_
  refine WL.u rfl rfl (Wt.plain rfl) (Ex.assign rfl) ?_
  refine WL.u rfl rfl (Wt.plain rfl) (Ex.assign rfl) ?_
  refine WL.next ?_
  refine WC.ret ?_
  refine WN.body2 rfl rfl rfl ?_
  have hq : d = 3 := by omega
  exact ⟨by simp [stepI, hq], rfl⟩

theorem sl2Leave (n m : Nat) (i k : Int) (w : World) (hn : n ≤ 100) (hm : m ≤ 100) (hi : -100 ≤ i ∧ i ≤ 100) (hk : -100 ≤ k ∧ k ≤ 100) : Fn Try.prog 114 [vint n, vint m, vint i, vint k] w (fun v w1 => v = vint (leaveI n m i k) ∧ w1 = w) := by
  refine Fn.enter (n := 40) Try.func114 rfl rfl rfl ?_
  show WC _ _ _ _ [(0, vint n), (1, vint m), (2, vint i), (3, vint k)] _
  refine WC.seq ?_
  refine WC.region ?_
  refine WL.u rfl rfl (Wt.plain rfl) (Ex.assign rfl) ?_
  refine WL.next ?_
  refine WC.seq ?_
  refine WC.block ?_
  refine WC.seq ?_
  refine WC.region ?_
  refine WL.u rfl rfl (Wt.plain rfl) (Ex.move rfl) ?_
  refine WL.u rfl rfl (Wt.plain rfl) (Ex.lss rfl rfl) ?_
  refine WL.u rfl rfl (Wt.plain rfl) (Ex.assign rfl) ?_
  refine WL.next ?_
  refine WC.cond rfl (fun hc1 => ?_) (fun hc1 => ?_)
  · have hc1' := hc1; try simp only [decide_eq_true_eq, decide_eq_false_iff_not, Bool.not_eq_true', Bool.not_eq_false', Bool.not_eq_true, Bool.not_eq_false] at hc1'
    refine WC.seq ?_
    refine WC.region ?_
    refine WL.u rfl rfl (Wt.plain rfl) (Ex.move rfl) ?_
    refine WL.u rfl rfl (Wt.plain rfl) (Ex.assign rfl) ?_
    refine WL.next ?_
    refine WC.ret ?_
    refine WN.retBlock ?_
    refine WN.retThen ?_
    refine WN.body1 rfl rfl ?_
    refine ⟨?_, rfl⟩
    unfold leaveI
    simp_all <;> omega
  have hc1' := hc1; try simp only [decide_eq_true_eq, decide_eq_false_iff_not, Bool.not_eq_true', Bool.not_eq_false', Bool.not_eq_true, Bool.not_eq_false] at hc1'
  refine WC.seq ?_
  refine WC.region ?_
  refine WL.u rfl rfl (Wt.plain rfl) (Ex.move rfl) ?_
  refine WL.u rfl rfl (Wt.plain rfl) (Ex.move rfl) ?_
  refine WL.u rfl rfl (Wt.plain rfl) (Ex.geq rfl rfl) ?_
  refine WL.u rfl rfl (Wt.plain rfl) (Ex.assign rfl) ?_
  refine WL.next ?_
  refine WC.cond rfl (fun hc2 => ?_) (fun hc2 => ?_)
  · have hc2' := hc2; try simp only [decide_eq_true_eq, decide_eq_false_iff_not, Bool.not_eq_true', Bool.not_eq_false', Bool.not_eq_true, Bool.not_eq_false] at hc2'
    refine WC.seq ?_
    refine WC.region ?_
    refine WL.u rfl rfl (Wt.plain rfl) (Ex.move rfl) ?_
    refine WL.u rfl rfl (Wt.plain rfl) (Ex.move rfl) ?_
    refine WL.u rfl rfl (Wt.plain rfl) (Ex.add rfl rfl (by omega)) ?_
    refine WL.u rfl rfl (Wt.plain rfl) (Ex.assign rfl) ?_
    refine WL.next ?_
    refine WC.ret ?_
    refine WN.retBlock ?_
    refine WN.retThen ?_
    refine WN.body1 rfl rfl ?_
    refine ⟨?_, rfl⟩
    unfold leaveI
    simp_all <;> omega
  have hc2' := hc2; try simp only [decide_eq_true_eq, decide_eq_false_iff_not, Bool.not_eq_true', Bool.not_eq_false', Bool.not_eq_true, Bool.not_eq_false] at hc2'
  refine WC.seq ?_
  refine WC.region ?_
  refine WL.u rfl rfl (Wt.plain rfl) (Ex.move rfl) ?_
  refine WL.u rfl rfl (Wt.plain rfl) (Ex.move rfl) ?_
  refine WL.u rfl rfl (Wt.plain rfl) (Ex.geq rfl rfl) ?_
  refine WL.u rfl rfl (Wt.plain rfl) (Ex.assign rfl) ?_
  refine WL.next ?_
  refine WC.cond rfl (fun hc3 => ?_) (fun hc3 => ?_)
  · have hc3' := hc3; try simp only [decide_eq_true_eq, decide_eq_false_iff_not, Bool.not_eq_true', Bool.not_eq_false', Bool.not_eq_true, Bool.not_eq_false] at hc3'
    refine WC.seq ?_
    refine WC.region ?_
    refine WL.u rfl rfl (Wt.plain rfl) (Ex.move rfl) ?_
    refine WL.u rfl rfl (Wt.plain rfl) (Ex.mul rfl rfl (by omega)) ?_
    refine WL.u rfl rfl (Wt.plain rfl) (Ex.move rfl) ?_
    refine WL.u rfl rfl (Wt.plain rfl) (Ex.add rfl rfl (by omega)) ?_
    refine WL.u rfl rfl (Wt.plain rfl) (Ex.sub rfl rfl (by omega)) ?_
    refine WL.u rfl rfl (Wt.plain rfl) (Ex.move rfl) ?_
    refine WL.u rfl rfl (Wt.plain rfl) (Ex.sub rfl rfl (by omega)) ?_
    refine WL.u rfl rfl (Wt.plain rfl) (Ex.assign rfl) ?_
    refine WL.next ?_
    refine WC.ret ?_
    refine WN.retBlock ?_
    refine WN.retThen ?_
    refine WN.body1 rfl rfl ?_
    refine ⟨?_, rfl⟩
    unfold leaveI
    simp_all <;> omega
  have hc3' := hc3; try simp only [decide_eq_true_eq, decide_eq_false_iff_not, Bool.not_eq_true', Bool.not_eq_false', Bool.not_eq_true, Bool.not_eq_false] at hc3'
  refine WC.seq ?_
  refine WC.region ?_
  refine WL.u rfl rfl (Wt.plain rfl) (Ex.move rfl) ?_
  refine WL.u rfl rfl (Wt.plain rfl) (Ex.lss rfl rfl) ?_
  refine WL.u rfl rfl (Wt.plain rfl) (Ex.assign rfl) ?_
  refine WL.next ?_
  refine WC.cond rfl (fun hc4 => ?_) (fun hc4 => ?_)
  · have hc4' := hc4; try simp only [decide_eq_true_eq, decide_eq_false_iff_not, Bool.not_eq_true', Bool.not_eq_false', Bool.not_eq_true, Bool.not_eq_false] at hc4'
    refine WC.seq ?_
    refine WC.region ?_
    refine WL.u rfl rfl (Wt.plain rfl) (Ex.move rfl) ?_
    refine WL.u rfl rfl (Wt.plain rfl) (Ex.move rfl) ?_
    refine WL.call callable61 rfl (Wt.plain rfl) rfl rfl (sl2Ports _ _ _ (by first | assumption | omega) (by first | assumption | omega)) ?_
    rintro _ _ ⟨rfl, hw⟩; obtain rfl := hw.symm
    refine WL.u rfl rfl (Wt.plain rfl) (Ex.sub rfl rfl (by omega)) ?_
    refine WL.u rfl rfl (Wt.plain rfl) (Ex.move rfl) ?_
    refine WL.u rfl rfl (Wt.plain rfl) (Ex.sub rfl rfl (by omega)) ?_
    refine WL.u rfl rfl (Wt.plain rfl) (Ex.assign rfl) ?_
    refine WL.next ?_
    refine WC.ret ?_
    refine WN.retBlock ?_
    refine WN.retThen ?_
    refine WN.body1 rfl rfl ?_
    refine ⟨?_, rfl⟩
    unfold leaveI
    simp_all <;> omega
  have hc4' := hc4; try simp only [decide_eq_true_eq, decide_eq_false_iff_not, Bool.not_eq_true', Bool.not_eq_false', Bool.not_eq_true, Bool.not_eq_false] at hc4'
  refine WC.skip ?_
  refine WN.normalBlock ?_
  refine WN.next ?_
  refine WC.seq ?_
  refine WC.region ?_
  refine WL.u rfl rfl (Wt.plain rfl) (Ex.assign rfl) ?_
  refine WL.next ?_
  refine WC.ret ?_
  refine WN.body1 rfl rfl ?_
  refine ⟨?_, rfl⟩
  unfold leaveI
  simp_all <;> omega

theorem sl2Enter (n m p : Nat) (w : World) (hn1 : 0 < n) (hn : n < 6) (hm1 : 0 < m) (hm : m < 6) (hp : p < 2 * n + 2 * m) : Fn Try.prog 83 [vint n, vint m, vint p] w (fun v w1 => v = .tuple #[vint (((enterN n m p).1 / m : Nat) : Int), vint (((enterN n m p).1 % m : Nat) : Int), vint (enterN n m p).2] ∧ w1 = w) := by
  refine Fn.enter (n := 47) Try.func83 rfl rfl rfl ?_
  show WC _ _ _ _ [(0, vint n), (1, vint m), (2, vint p)] _
  have hE := enterI n m p hn1 hn hm1 hm hp
  refine WC.seq ?_
  refine WC.region ?_
  refine WL.u rfl rfl (Wt.plain rfl) (Ex.assign rfl) ?_
  refine WL.u rfl rfl (Wt.plain rfl) (Ex.assign rfl) ?_
  refine WL.u rfl rfl (Wt.plain rfl) (Ex.assign rfl) ?_
  refine WL.next ?_
  refine WC.seq ?_
  refine WC.block ?_
  refine WC.seq ?_
  refine WC.region ?_
  refine WL.u rfl rfl (Wt.plain rfl) (Ex.move rfl) ?_
  refine WL.u rfl rfl (Wt.plain rfl) (Ex.move rfl) ?_
  refine WL.u rfl rfl (Wt.plain rfl) (Ex.lss rfl rfl) ?_
  refine WL.u rfl rfl (Wt.plain rfl) (Ex.assign rfl) ?_
  refine WL.next ?_
  refine WC.cond rfl (fun hc1 => ?_) (fun hc1 => ?_)
  · have hc1' := hc1; try simp only [decide_eq_true_eq, decide_eq_false_iff_not, Bool.not_eq_true', Bool.not_eq_false', Bool.not_eq_true, Bool.not_eq_false] at hc1'
    refine WC.seq ?_
    refine WC.region ?_
    refine WL.u rfl rfl (Wt.plain rfl) (Ex.move rfl) ?_
    refine WL.u rfl rfl (Wt.plain rfl) (Ex.assign rfl) ?_
    refine WL.u rfl rfl (Wt.plain rfl) (Ex.assign rfl) ?_
    refine WL.u rfl rfl (Wt.plain rfl) (Ex.assign rfl) ?_
    refine WL.next ?_
    refine WC.ret ?_
    refine WN.retBlock ?_
    refine WN.retThen ?_
    refine WN.body3 rfl rfl rfl rfl ?_
    have hx := hE.1 (by omega)
    exact ⟨by rw [hx.1, hx.2.1, hx.2.2]; rfl, rfl⟩
  have hc1' := hc1; try simp only [decide_eq_true_eq, decide_eq_false_iff_not, Bool.not_eq_true', Bool.not_eq_false', Bool.not_eq_true, Bool.not_eq_false] at hc1'
  refine WC.seq ?_
  refine WC.region ?_
  refine WL.u rfl rfl (Wt.plain rfl) (Ex.move rfl) ?_
  refine WL.u rfl rfl (Wt.plain rfl) (Ex.move rfl) ?_
  refine WL.u rfl rfl (Wt.plain rfl) (Ex.move rfl) ?_
  refine WL.u rfl rfl (Wt.plain rfl) (Ex.add rfl rfl (by omega)) ?_
  refine WL.u rfl rfl (Wt.plain rfl) (Ex.lss rfl rfl) ?_
  refine WL.u rfl rfl (Wt.plain rfl) (Ex.assign rfl) ?_
  refine WL.next ?_
  refine WC.cond rfl (fun hc2 => ?_) (fun hc2 => ?_)
  · have hc2' := hc2; try simp only [decide_eq_true_eq, decide_eq_false_iff_not, Bool.not_eq_true', Bool.not_eq_false', Bool.not_eq_true, Bool.not_eq_false] at hc2'
    refine WC.seq ?_
    refine WC.region ?_
    refine WL.u rfl rfl (Wt.plain rfl) (Ex.move rfl) ?_
    refine WL.u rfl rfl (Wt.plain rfl) (Ex.move rfl) ?_
    refine WL.u rfl rfl (Wt.plain rfl) (Ex.sub rfl rfl (by omega)) ?_
    refine WL.u rfl rfl (Wt.plain rfl) (Ex.move rfl) ?_
    refine WL.u rfl rfl (Wt.plain rfl) (Ex.sub rfl rfl (by omega)) ?_
    refine WL.u rfl rfl (Wt.plain rfl) (Ex.assign rfl) ?_
    refine WL.u rfl rfl (Wt.plain rfl) (Ex.assign rfl) ?_
    refine WL.u rfl rfl (Wt.plain rfl) (Ex.assign rfl) ?_
    refine WL.next ?_
    refine WC.ret ?_
    refine WN.retBlock ?_
    refine WN.retThen ?_
    refine WN.body3 rfl rfl rfl rfl ?_
    have hx := hE.2.1 (by omega) (by omega)
    exact ⟨by rw [hx.1, hx.2.1, hx.2.2]; rfl, rfl⟩
  have hc2' := hc2; try simp only [decide_eq_true_eq, decide_eq_false_iff_not, Bool.not_eq_true', Bool.not_eq_false', Bool.not_eq_true, Bool.not_eq_false] at hc2'
  refine WC.seq ?_
  refine WC.region ?_
  refine WL.u rfl rfl (Wt.plain rfl) (Ex.move rfl) ?_
  refine WL.u rfl rfl (Wt.plain rfl) (Ex.move rfl) ?_
  refine WL.u rfl rfl (Wt.plain rfl) (Ex.mul rfl rfl (by omega)) ?_
  refine WL.u rfl rfl (Wt.plain rfl) (Ex.move rfl) ?_
  refine WL.u rfl rfl (Wt.plain rfl) (Ex.add rfl rfl (by omega)) ?_
  refine WL.u rfl rfl (Wt.plain rfl) (Ex.lss rfl rfl) ?_
  refine WL.u rfl rfl (Wt.plain rfl) (Ex.assign rfl) ?_
  refine WL.next ?_
  refine WC.cond rfl (fun hc3 => ?_) (fun hc3 => ?_)
  · have hc3' := hc3; try simp only [decide_eq_true_eq, decide_eq_false_iff_not, Bool.not_eq_true', Bool.not_eq_false', Bool.not_eq_true, Bool.not_eq_false] at hc3'
    refine WC.seq ?_
    refine WC.region ?_
    refine WL.u rfl rfl (Wt.plain rfl) (Ex.move rfl) ?_
    refine WL.u rfl rfl (Wt.plain rfl) (Ex.sub rfl rfl (by omega)) ?_
    refine WL.u rfl rfl (Wt.plain rfl) (Ex.move rfl) ?_
    refine WL.u rfl rfl (Wt.plain rfl) (Ex.mul rfl rfl (by omega)) ?_
    refine WL.u rfl rfl (Wt.plain rfl) (Ex.move rfl) ?_
    refine WL.u rfl rfl (Wt.plain rfl) (Ex.add rfl rfl (by omega)) ?_
    refine WL.u rfl rfl (Wt.plain rfl) (Ex.sub rfl rfl (by omega)) ?_
    refine WL.u rfl rfl (Wt.plain rfl) (Ex.move rfl) ?_
    refine WL.u rfl rfl (Wt.plain rfl) (Ex.sub rfl rfl (by omega)) ?_
    refine WL.u rfl rfl (Wt.plain rfl) (Ex.assign rfl) ?_
    refine WL.u rfl rfl (Wt.plain rfl) (Ex.assign rfl) ?_
    refine WL.u rfl rfl (Wt.plain rfl) (Ex.assign rfl) ?_
    refine WL.next ?_
    refine WC.ret ?_
    refine WN.retBlock ?_
    refine WN.retThen ?_
    refine WN.body3 rfl rfl rfl rfl ?_
    have hx := hE.2.2.1 (by omega) (by omega)
    exact ⟨by rw [hx.1, hx.2.1, hx.2.2]; rfl, rfl⟩
  have hc3' := hc3; try simp only [decide_eq_true_eq, decide_eq_false_iff_not, Bool.not_eq_true', Bool.not_eq_false', Bool.not_eq_true, Bool.not_eq_false] at hc3'
  refine WC.skip ?_
  refine WN.normalBlock ?_
  refine WN.next ?_
  refine WC.seq ?_
  refine WC.region ?_
  refine WL.u rfl rfl (Wt.plain rfl) (Ex.move rfl) ?_
  refine WL.u rfl rfl (Wt.plain rfl) (Ex.move rfl) ?_
  refine WL.call callable61 rfl (Wt.plain rfl) rfl rfl (sl2Ports _ _ _ (by first | assumption | omega) (by first | assumption | omega)) ?_
  rintro _ _ ⟨rfl, hw⟩; obtain rfl := hw.symm
  refine WL.u rfl rfl (Wt.plain rfl) (Ex.sub rfl rfl (by omega)) ?_
  refine WL.u rfl rfl (Wt.plain rfl) (Ex.move rfl) ?_
  refine WL.u rfl rfl (Wt.plain rfl) (Ex.sub rfl rfl (by omega)) ?_
  refine WL.u rfl rfl (Wt.plain rfl) (Ex.assign rfl) ?_
  refine WL.u rfl rfl (Wt.plain rfl) (Ex.assign rfl) ?_
  refine WL.u rfl rfl (Wt.plain rfl) (Ex.assign rfl) ?_
  refine WL.next ?_
  refine WC.ret ?_
  refine WN.body3 rfl rfl rfl rfl ?_
  have hx := hE.2.2.2 (by omega)
  exact ⟨by rw [hx.1, hx.2.1, hx.2.2]; rfl, rfl⟩


structure CellF (g : Grid) (c : Nat) : Prop where
  c25 : c < 25
  r : c / (g.getD 0 []).length < g.length
  cc : c % (g.getD 0 []).length < (g.getD 0 []).length
  row : (g.getD (c / (g.getD 0 []).length) []).length = (g.getD 0 []).length
  ri : 0 ≤ (c : Int) / ((g.getD 0 []).length : Int) ∧ (c : Int) / ((g.getD 0 []).length : Int) < (g.length : Int)
  ci : 0 ≤ (c : Int) % ((g.getD 0 []).length : Int) ∧ (c : Int) % ((g.getD 0 []).length : Int) < ((g.getD 0 []).length : Int)
theorem cellF {g : Grid} (hG : GridOk g) {c : Nat} (h : c < nR g * nC g) : CellF g c := by
  have hn5 := hG.n5
  have hm5 := hG.m5
  have hm1 := hG.m1
  have h1 : c / (g.getD 0 []).length < g.length := Nat.div_lt_of_lt_mul (by rw [Nat.mul_comm]; exact h)
  have h2 : c % (g.getD 0 []).length < (g.getD 0 []).length := Nat.mod_lt _ hm1
  exact ⟨Nat.lt_of_lt_of_le h (Nat.mul_le_mul hn5 hm5), h1, h2, hG.row _ h1, ⟨Int.ediv_nonneg (by omega) (by omega), Int.ofNat_lt.2 h1⟩, ⟨Int.emod_nonneg _ (by omega), Int.ofNat_lt.2 h2⟩⟩

theorem sl2Way (g : Grid) (a : Option Addr) (cap p : Nat) (w : World) (hg : Sl rStr w a g) (hG : GridOk g) (hp : p < ports g) : Fn Try.prog 99 [.slice a g.length cap, vint p] w (fun v w1 => ∃ x y, v = .tuple #[x, y, vint (way g p).2] ∧ Keep [] w w1 ∧ New rNat 3 w w1 x ((way g p).1.map (·.1)) ∧ New rNat 3 w w1 y ((way g p).1.map (·.2))) := by
  refine Fn.enter (n := 68) Try.func99 rfl rfl rfl ?_
  show WC _ _ _ _ [(0, .slice a g.length cap), (1, vint p)] _
  have hH := Hp.start [] w
  obtain ⟨b, off, rfl⟩ := hg.addr (show 0 < g.length from hG.n1)
  have hz := hG.sz
  have hn1 := hG.n1
  have hn5 := hG.n5
  have hm1 := hG.m1
  have hm5 := hG.m5
  refine WC.seq ?_
  refine WC.region ?_
  refine WL.u rfl rfl (Wt.plain rfl) (Ex.assign rfl) ?_
  refine WL.u rfl rfl (Wt.plain rfl) (Ex.assign rfl) ?_
  refine WL.u rfl rfl (Wt.plain rfl) (Ex.assign rfl) ?_
  refine WL.next ?_
  refine WC.seq ?_
  refine WC.region ?_
  refine WL.u rfl rfl (Wt.plain rfl) (Ex.move rfl) ?_
  refine WL.u rfl rfl (Wt.plain rfl) (Ex.lenSl Try.underlying22 rfl) ?_
  refine WL.u rfl rfl (Wt.plain rfl) (Ex.assign rfl) ?_
  refine WL.next ?_
  refine WC.seq ?_
  refine WC.region ?_
  refine WL.u rfl rfl (Wt.plain rfl) (Ex.move rfl) ?_
  refine WL.u rfl rfl (Wt.plain rfl) (Ex.indexAddr Try.underlying22 ty9 rfl rfl (by omega)) ?_
  refine WL.u rfl rfl (Wt.plain rfl) (Ex.loadSl flat9 (hg.kept hH.keep) rfl rfl (getD_get g 0 [] (by omega))) ?_
  refine WL.u rfl rfl (Wt.plain rfl) (Ex.lenStr Try.underlying9 rfl) ?_
  refine WL.u rfl rfl (Wt.plain rfl) (Ex.assign rfl) ?_
  refine WL.next ?_
  refine WC.seq ?_
  refine WC.region ?_
  refine WL.lit0 Try.underlying38 ty3 rfl (Wt.plain rfl) hH (fun b21 wn hb21 hk21 hH => ?_)
  have ho21 := Own.nil rNat
  refine WL.u rfl rfl (Wt.plain rfl) (Ex.assign rfl) ?_
  refine WL.next ?_
  refine WC.seq ?_
  refine WC.region ?_
  refine WL.lit0 Try.underlying38 ty3 rfl (Wt.plain rfl) hH (fun b22 wn hb22 hk22 hH => ?_)
  have ho22 := Own.nil rNat
  refine WL.u rfl rfl (Wt.plain rfl) (Ex.assign rfl) ?_
  refine WL.next ?_
  refine WC.seq ?_
  refine WC.region ?_
  refine WL.u rfl rfl (Wt.plain rfl) (Ex.move rfl) ?_
  refine WL.u rfl rfl (Wt.plain rfl) (Ex.move rfl) ?_
  refine WL.u rfl rfl (Wt.plain rfl) (Ex.move rfl) ?_
  refine WL.call callable83 rfl (Wt.plain rfl) rfl rfl (sl2Enter _ _ p _ hz.n1 hz.n5 hz.m1 hz.m5 hp) ?_
  rintro _ _ ⟨rfl, hw⟩; obtain rfl := hw.symm
  refine WL.u rfl rfl (Wt.plain rfl) (Ex.move rfl) ?_
  refine WL.u rfl rfl (Wt.plain rfl) (Ex.extract rfl rfl) ?_
  refine WL.u rfl rfl (Wt.plain rfl) (Ex.extract rfl rfl) ?_
  refine WL.u rfl rfl (Wt.plain rfl) (Ex.extract rfl rfl) ?_
  refine WL.u rfl rfl (Wt.plain rfl) (Ex.assign rfl) ?_
  refine WL.u rfl rfl (Wt.plain rfl) (Ex.assign rfl) ?_
  refine WL.u rfl rfl (Wt.plain rfl) (Ex.assign rfl) ?_
  refine WL.next ?_
  refine WC.block ?_
  replace hH := hH.f1
  refine WC.loop (ι := Nat × Nat × (Array Value) × Nat × Nat × (Array Value) × (List (Nat × Nat)) × (List Nat) × (List Nat) × (Nat × Nat) × Nat) (fun (b21, cap21, cur21, b22, cap22, cur22, l, c, ds, s, f) => [(0, .slice (some ⟨b, off, none⟩) g.length cap), (7, vint g.length), (8, vint (g.getD 0 []).length), (9, vsl b21 c.length cap21), (10, vsl b22 ds.length cap22), (11, vint ((s.1 / (g.getD 0 []).length : Nat) : Int)), (12, vint ((s.1 % (g.getD 0 []).length : Nat) : Int)), (13, vint s.2)]) (fun (b21, cap21, cur21, b22, cap22, cur22, l, c, ds, s, f) wn => Hp [] w wn [(b21, .cells cur21 3 (0, 0)), (b22, .cells cur22 3 (0, 0))] ∧ Own rNat cur21 cap21 c ∧ Own rNat cur22 cap22 ds ∧ c = l.map (·.1) ∧ ds = l.map (·.2) ∧ BI g p l s (-1) f) (fun (b21, cap21, cur21, b22, cap22, cur22, l, c, ds, s, f) => f) ((b21, 0, #[], b22, 0, #[], [], [], [], enterN (nR g) (nC g) p, 4 * (nR g * nC g))) (by exact ⟨rfl, rfl, rfl, rfl, rfl, rfl, rfl, rfl, trivial⟩) ?_ ?_
  · exact ⟨hH, ho21, ho22, rfl, rfl, BI.start hG hp⟩
  rintro ⟨b21, cap21, cur21, b22, cap22, cur22, l, c, ds, s, f⟩ wn ⟨hH, ho21, ho22, hc, hds, hB⟩
  have hok := (hB.ok (by omega)).2.2
  have hl100 := hB.len hG
  have hF := cellF hG hok.cell
  obtain ⟨hc25, hrl, hcl, hrow, hdi, hmi⟩ := hF
  have hcl1 : c.length = l.length := by rw [hc, List.length_map]
  have hdl1 : ds.length = l.length := by rw [hds, List.length_map]
  have hb4 := bend_lt (letter g s.1) s.2 hok.d
  have hst := step_in hz hok rfl
  dsimp only [nR, nC] at hst
  have hmd : ((s.1 / (g.getD 0 []).length : Nat) : Int) * ((g.getD 0 []).length : Int) + ((s.1 % (g.getD 0 []).length : Nat) : Int) = (s.1 : Int) := by
    have := Nat.div_add_mod s.1 (g.getD 0 []).length
    have h2 : ((s.1 / (g.getD 0 []).length * (g.getD 0 []).length + s.1 % (g.getD 0 []).length : Nat) : Int) = (s.1 : Int) := by rw [Nat.mul_comm]; rw [this]
    exact h2
  have hmb := mulB ((s.1 / (g.getD 0 []).length : Nat) : Int) ((g.getD 0 []).length : Int) (by omega) (by omega)
  have hnn : ((s.1 / (g.getD 0 []).length : Nat) : Int) < 5 ∧ 0 ≤ ((s.1 / (g.getD 0 []).length : Nat) : Int) ∧ ((s.1 % (g.getD 0 []).length : Nat) : Int) < 5 ∧ 0 ≤ ((s.1 % (g.getD 0 []).length : Nat) : Int) := by omega
  intro mu0 hmu; try dsimp only at hmu
  show WC _ _ _ _ [(0, .slice (some ⟨b, off, none⟩) g.length cap), (7, vint g.length), (8, vint (g.getD 0 []).length), (9, vsl b21 c.length cap21), (10, vsl b22 ds.length cap22), (11, vint ((s.1 / (g.getD 0 []).length : Nat) : Int)), (12, vint ((s.1 % (g.getD 0 []).length : Nat) : Int)), (13, vint s.2)] _
  refine WC.block ?_
  refine WC.seq ?_
  refine WC.region ?_
  refine WL.u rfl rfl (Wt.plain rfl) (Ex.move rfl) ?_
  refine WL.u rfl rfl (Wt.plain rfl) (Ex.move rfl) ?_
  refine WL.u rfl rfl (Wt.plain rfl) (Ex.move rfl) ?_
  refine WL.u rfl rfl (Wt.plain rfl) (Ex.mul rfl rfl (by omega)) ?_
  refine WL.u rfl rfl (Wt.plain rfl) (Ex.move rfl) ?_
  refine WL.u rfl rfl (Wt.plain rfl) ((Ex.add rfl rfl (by omega)).to (congrArg vint hmd)) ?_
  refine WL.append1 (r := rNat) (u := s.1) Try.underlying38 ty3 rfl rfl (fun _ => rfl) (fun _ => rfl) rfl rfl (Wt.plain rfl) (fun _ => (Wt.plain rfl)) hH ho21 rfl (by omega) (by omega) (fun b21 cap21 cur21 wn x21 hb21 hk21 hH ho21 => ?_)
  refine WL.u rfl rfl (Wt.plain rfl) (Ex.assign rfl) ?_
  refine WL.next ?_
  refine WC.seq ?_
  refine WC.region ?_
  refine WL.u rfl rfl (Wt.plain rfl) (Ex.move rfl) ?_
  refine WL.u rfl rfl (Wt.plain rfl) (Ex.move rfl) ?_
  replace hH := hH.f1
  refine WL.append1 (r := rNat) (u := s.2) Try.underlying38 ty3 rfl rfl (fun _ => rfl) (fun _ => rfl) rfl rfl (Wt.plain rfl) (fun _ => (Wt.plain rfl)) hH ho22 rfl (by omega) (by omega) (fun b22 cap22 cur22 wn x22 hb22 hk22 hH ho22 => ?_)
  refine WL.u rfl rfl (Wt.plain rfl) (Ex.assign rfl) ?_
  refine WL.next ?_
  refine WC.seq ?_
  refine WC.region ?_
  refine WL.u rfl rfl (Wt.plain rfl) (Ex.move rfl) ?_
  refine WL.u rfl rfl (Wt.plain rfl) (Ex.move rfl) ?_
  refine WL.u rfl rfl (Wt.plain rfl) (Ex.indexAddr Try.underlying22 ty9 rfl rfl (by omega)) ?_
  refine WL.u rfl rfl (Wt.plain rfl) (Ex.loadSl flat9 (hg.kept hH.keep) rfl rfl (getD_get g (s.1 / (g.getD 0 []).length) [] hrl)) ?_
  refine WL.u rfl rfl (Wt.plain rfl) (Ex.move rfl) ?_
  refine WL.u rfl rfl (Wt.plain rfl) (Ex.indexStr Try.underlying9 rfl rfl (by (try simp only [List.length_cons, List.length_nil]); omega)) ?_
  refine WL.u rfl rfl (Wt.plain rfl) (Ex.move rfl) ?_
  refine WL.call callable102 rfl (Wt.plain rfl) rfl rfl (sl2Bend (letter g s.1) s.2 _ hok.d) ?_
  rintro _ _ ⟨rfl, hw⟩; obtain rfl := hw.symm
  refine WL.u rfl rfl (Wt.plain rfl) (Ex.assign rfl) ?_
  refine WL.next ?_
  refine WC.seq ?_
  refine WC.region ?_
  refine WL.u rfl rfl (Wt.plain rfl) (Ex.move rfl) ?_
  refine WL.u rfl rfl (Wt.plain rfl) (Ex.move rfl) ?_
  refine WL.u rfl rfl (Wt.plain rfl) (Ex.move rfl) ?_
  refine WL.call callable115 rfl (Wt.plain rfl) rfl rfl (sl2Step ((s.1 / (g.getD 0 []).length : Nat) : Int) ((s.1 % (g.getD 0 []).length : Nat) : Int) (bend (letter g s.1) s.2) _ (by omega) (by omega) hb4) ?_
  rintro _ _ ⟨rfl, hw⟩; obtain rfl := hw.symm
  refine WL.u rfl rfl (Wt.plain rfl) (Ex.move rfl) ?_
  refine WL.u rfl rfl (Wt.plain rfl) (Ex.extract rfl rfl) ?_
  refine WL.u rfl rfl (Wt.plain rfl) (Ex.extract rfl rfl) ?_
  refine WL.u rfl rfl (Wt.plain rfl) (Ex.assign rfl) ?_
  refine WL.u rfl rfl (Wt.plain rfl) (Ex.assign rfl) ?_
  refine WL.next ?_
  refine WC.seq ?_
  have hsb : -100 ≤ (stepI ((s.1 / (g.getD 0 []).length : Nat) : Int) ((s.1 % (g.getD 0 []).length : Nat) : Int) (bend (letter g s.1) s.2)).1 ∧ (stepI ((s.1 / (g.getD 0 []).length : Nat) : Int) ((s.1 % (g.getD 0 []).length : Nat) : Int) (bend (letter g s.1) s.2)).1 ≤ 100 ∧ -100 ≤ (stepI ((s.1 / (g.getD 0 []).length : Nat) : Int) ((s.1 % (g.getD 0 []).length : Nat) : Int) (bend (letter g s.1) s.2)).2 ∧ (stepI ((s.1 / (g.getD 0 []).length : Nat) : Int) ((s.1 % (g.getD 0 []).length : Nat) : Int) (bend (letter g s.1) s.2)).2 ≤ 100 := by
    unfold stepI; split
    · exact ⟨by dsimp only; omega, by dsimp only; omega, by dsimp only; omega, by dsimp only; omega⟩
    · split
      · exact ⟨by dsimp only; omega, by dsimp only; omega, by dsimp only; omega, by dsimp only; omega⟩
      · split
        · exact ⟨by dsimp only; omega, by dsimp only; omega, by dsimp only; omega, by dsimp only; omega⟩
        · exact ⟨by dsimp only; omega, by dsimp only; omega, by dsimp only; omega, by dsimp only; omega⟩
  refine WC.region ?_
  refine WL.u rfl rfl (Wt.plain rfl) (Ex.move rfl) ?_
  refine WL.u rfl rfl (Wt.plain rfl) (Ex.move rfl) ?_
  refine WL.u rfl rfl (Wt.plain rfl) (Ex.move rfl) ?_
  refine WL.u rfl rfl (Wt.plain rfl) (Ex.move rfl) ?_
  refine WL.call callable114 rfl (Wt.plain rfl) rfl rfl (sl2Leave g.length (g.getD 0 []).length _ _ _ (by omega) (by omega) ⟨hsb.1, hsb.2.1⟩ ⟨hsb.2.2.1, hsb.2.2.2⟩) ?_
  rintro _ _ ⟨rfl, hw⟩; obtain rfl := hw.symm
  refine WL.u rfl rfl (Wt.plain rfl) (Ex.assign rfl) ?_
  refine WL.next ?_
  refine WC.seq ?_
  refine WC.region ?_
  refine WL.u rfl rfl (Wt.plain rfl) (Ex.move rfl) ?_
  refine WL.u rfl rfl (Wt.plain rfl) (Ex.geq rfl rfl) ?_
  refine WL.next ?_
  refine WC.cond rfl (fun hc1 => ?_) (fun hc1 => ?_)
  · have hc1' := hc1; try simp only [decide_eq_true_eq, decide_eq_false_iff_not, Bool.not_eq_true', Bool.not_eq_false', Bool.not_eq_true, Bool.not_eq_false] at hc1'
    have hex : 0 ≤ ex g s := by have := hst.1; omega
    refine WC.seq ?_
    refine WC.region ?_
    refine WL.u rfl rfl (Wt.plain rfl) (Ex.move rfl) ?_
    refine WL.u rfl rfl (Wt.plain rfl) (Ex.move rfl) ?_
    refine WL.u rfl rfl (Wt.plain rfl) (Ex.move rfl) ?_
    refine WL.u rfl rfl (Wt.plain rfl) (Ex.assign rfl) ?_
    refine WL.u rfl rfl (Wt.plain rfl) (Ex.assign rfl) ?_
    refine WL.u rfl rfl (Wt.plain rfl) (Ex.assign rfl) ?_
    refine WL.next ?_
    refine WC.ret ?_
    refine WN.retBlock ?_
    refine WN.retThen ?_
    refine WN.retBlock ?_
    refine WN.body3 rfl rfl rfl rfl ?_
    have hB2 := (hB.step hG (by omega)).1
    have hd := hB2.done (by omega)
    have e1 : (way g p).1.map (·.1) = c ++ [s.1] := by rw [hd.2, hc]; simp
    have e2 : (way g p).1.map (·.2) = ds ++ [s.2] := by rw [hd.2, hds]; simp
    exact ⟨_, _, by rw [hd.1, ← hst.1], hH.keep, by rw [e1]; exact New.of hH.f1 ho21 (hH.base 1 rfl), by rw [e2]; exact New.of hH ho22 (hH.base 0 rfl)⟩
  have hc1' := hc1; try simp only [decide_eq_true_eq, decide_eq_false_iff_not, Bool.not_eq_true', Bool.not_eq_false', Bool.not_eq_true, Bool.not_eq_false] at hc1'
  have hex : ex g s < 0 := by have := hst.1; omega
  have hst2 := hst.2 hex
  have hex1 : ex g s = -1 := by have hB2 := (hB.step hG (by omega)).1; exact (hB2.ok hex).1
  refine WC.skip ?_
  refine WN.normalBlock ?_
  replace hH := hH.f1
  refine WN.round (b21, cap21, cur21, b22, cap22, cur22, l ++ [s], c ++ [s.1], ds ++ [s.2], nx g s, nf g s f) (by exact ⟨rfl, rfl, rfl, rfl, rfl, congrArg (fun x => some (vint x)) hst2.1, congrArg (fun x => some (vint x)) hst2.2.1, congrArg (fun x : Nat => some (vint x)) hst2.2.2.symm, trivial⟩) ?_ ?_
  · have hB2 := (hB.step hG (by omega)).1
    rw [hex1] at hB2
    exact ⟨hH, ho21, ho22, by simp [hc], by simp [hds], hB2⟩
  · have := (hB.step hG (by omega)).2; dsimp only; omega

end Go.Proofs.Ytjejdebmlgjdeaa
