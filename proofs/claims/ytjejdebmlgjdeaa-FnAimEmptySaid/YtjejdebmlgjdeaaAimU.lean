/- Aiming by trying: the program's search; the laws' words on texts. -/
import Derived.Test.YtjejdebmlgjdeaaAimT
namespace Go.Proofs.Ytjejdebmlgjdeaa
set_option maxRecDepth 100000
set_option linter.unusedSimpArgs false
set_option linter.unusedVariables false
open Go Go.RowKit

theorem Sl.offAll {α : Type} {r : Rep α} {w : World} {a : Option Addr} {l : List α} (h : Sl r w a l) {S : List Nat} (hS : ∀ b ∈ S, w.heap.size ≤ b) : Off S a l := by
  by_cases hl : l = []
  · exact .inl hl
  · refine .inr fun p hp hm => ?_
    rcases h.offNew (hS _ hm) with h1 | h1
    · exact hl h1
    · exact h1 p hp (by simp)
def BestAt (g : Grid) (lo b10 b9 : Nat) (r : Option (Nat × Nat)) (x : Value) (w : World) : Prop := match r with
  | none => True
  | some r => ∃ b cap cur, x = vsl b (numG (nR g) (nC g) r.2).length cap ∧ b ∉ [b10, b9] ∧ lo ≤ b ∧ w.heap[b]? = some (.cells cur 9 (0, 0)) ∧ Own rStr cur cap (numG (nR g) (nC g) r.2)
theorem BestAt.keep {g : Grid} {lo b10 b9 : Nat} {r : Option (Nat × Nat)} {x : Value} {w w1 : World} (h : BestAt g lo b10 b9 r x w) {S : List Nat} (hk : Keep S w w1) (hS : ∀ k ∈ S, k ∈ [b10, b9]) : BestAt g lo b10 b9 r x w1 := by
  cases r with
  | none => trivial
  | some r =>
    obtain ⟨b, cap, cur, h1, h2, h3, h4, h5⟩ := h
    exact ⟨b, cap, cur, h1, h2, h3, hk.heap h4 (fun hm => h2 (hS _ hm)), h5⟩
structure TJ (g : Grid) (a : Option Addr) (cap p q b4 b5 b3 b10 b9 lo : Nat) (i : Nat) (U : List Nat) (w : World) : Prop where
  u : U = [b10, b9]
  c4 : w.cell? ⟨b4, 0, none⟩ = some (vint p)
  c5 : w.cell? ⟨b5, 0, none⟩ = some (vint q)
  c3 : w.cell? ⟨b3, 0, none⟩ = some (.slice a g.length cap)
  sl : Sl rStr w a g
  m10 : w.heap[b10]? = some (.cells #[vint (bestC (best g p q i))] 3 (0, 0))
  m9 : ∃ x, w.heap[b9]? = some (.cells #[x] 22 (0, 0)) ∧ BestAt g lo b10 b9 (best g p q i) x w
theorem eachAT {g : Grid} {a : Option Addr} {cap p q b4 b5 b3 b10 b9 lo : Nat} {w : World} (hG : GridOk g) (hp : p < ports g) (hlo : lo ≤ w.heap.size) (h10 : b10 < w.heap.size) (h9 : b9 < w.heap.size) (hga : Off [b10, b9] a g) (hn4 : b4 ∉ [b10, b9]) (hn5 : b5 ∉ [b10, b9]) (hn3 : b3 ∉ [b10, b9]) (hne : b10 ≠ b9)
    (h0 : TJ g a cap p q b4 b5 b3 b10 b9 lo 0 [b10, b9] w) : Each Try.prog 95 [vptr b4 0, vptr b5 0, vptr b3 0, vptr b10 0, vptr b9 0] (numG (nR g) (nC g)) (3 ^ (nR g * nC g)) [b10, b9] (TJ g a cap p q b4 b5 b3 b10 b9 lo) w where
  fn := callable95
  lt := fun k hk => by
    simp only [List.mem_cons, List.not_mem_nil, or_false] at hk
    rcases hk with rfl | rfl <;> assumption
  keep := fun i U w2 w3 h hk => by
    obtain ⟨x, h1, h2⟩ := h.m9
    exact ⟨h.u, hk.cell h.c4 (by simp), hk.cell h.c5 (by simp), hk.cell h.c3 (by simp), h.sl.kept hk, hk.heap h.m10 (by simp), x, hk.heap h1 (by simp), h2.keep hk (by simp)⟩
  start := h0
  call := fun w2 i b cap2 cur2 U hK hi h hl hbU hge hbg hog => by
    obtain rfl := h.u
    obtain ⟨x, h1, h2⟩ := h.m9
    have hGi := numG_ok i hG.n1 hG.n5 hG.m1 hG.m5
    have hni : nR (numG (nR g) (nC g) i) = nR g := gridOf_nR _ _ _
    have hmi : nC (numG (nR g) (nC g) i) = nC g := gridOf_nC _ _ hG.n1
    refine (iaimed1 (numG (nR g) (nC g) i) g (some ⟨b, 0, none⟩) a cap2 cap b4 b5 b3 b10 b9 p q _ x w2 (hog.sl0 hbg) (.inr fun p hp => by cases hp; exact hbU) h.sl hga hG hGi hni hmi (by rw [numG_ports _ _ hG.n1]; exact hp) h.m10 h1 h.c4 h.c5 h.c3 hn4 hn5 hn3 hne).mono fun v w3 ⟨lv1, x1, hk, k10, k9, hc⟩ => ?_
    refine ⟨[b10, b9], ?_, hk, fun k hk => .inl hk⟩
    have hsl := h.sl.keepO hk hga
    rcases hc with ⟨hc, rfl, rfl⟩ | ⟨hc, rfl, rfl⟩
    · have e := best_succ_yes (g := g) (p := p) (q := q) (i := i) hc
      refine ⟨rfl, hk.cell h.c4 hn4, hk.cell h.c5 hn5, hk.cell h.c3 hn3, hsl, by rw [e]; exact k10, _, k9, ?_⟩
      rw [e]
      exact ⟨b, cap2, cur2, rfl, hbU, Nat.le_trans hlo hge, hk.heap hbg hbU, hog⟩
    · have e := best_succ_no (g := g) (p := p) (q := q) (i := i) hc
      refine ⟨rfl, hk.cell h.c4 hn4, hk.cell h.c5 hn5, hk.cell h.c3 hn3, hsl, by rw [e]; exact k10, _, k9, ?_⟩
      rw [e]
      exact h2.keep hk (fun k hk => hk)

theorem iaimed (g : Grid) (a : Option Addr) (cap : Nat) (p q : Int) (w : World) (hg : Sl rStr w a g) (hs : Short g) : Fn Try.prog 65 [.slice a g.length cap, vint p, vint q] w (fun v w1 => ∃ x, v = .tuple #[x, vint (aimRes g p q).2.1, .bool (aimRes g p q).2.2] ∧ Keep [] w w1 ∧ New rStr 9 w w1 x (aimRes g p q).1) := by
  refine Fn.enter (n := 31) Try.func65 rfl rfl rfl ?_
  show WC _ _ _ _ [(0, .slice a g.length cap), (1, vint p), (2, vint q)] _
  have hH := Hp.start [] w
  refine WC.seq ?_
  refine WC.region ?_
  refine WL.box rfl rfl rfl (Wt.plain rfl) hH (fun b3 wn hb3 hk3 hH => ?_)
  refine WL.box rfl rfl rfl (Wt.plain rfl) hH (fun b4 wn hb4 hk4 hH => ?_)
  refine WL.box rfl rfl rfl (Wt.plain rfl) hH (fun b5 wn hb5 hk5 hH => ?_)
  refine WL.u rfl rfl (Wt.plain rfl) (Ex.assign rfl) ?_
  refine WL.u rfl rfl (Wt.plain rfl) (Ex.assign rfl) ?_
  refine WL.u rfl rfl (Wt.plain rfl) (Ex.assign rfl) ?_
  refine WL.next ?_
  refine WC.seq ?_
  refine WC.seq ?_
  refine WC.region ?_
  replace hH := hH.f2
  refine WL.u rfl rfl (Wt.plain rfl) (Ex.loadHp flat22 rfl hH rfl) ?_
  replace hH := hH.f2
  refine WL.u rfl rfl (Wt.plain rfl) (Ex.loadHp flat3 rfl hH rfl) ?_
  replace hH := hH.f2
  refine WL.u rfl rfl (Wt.plain rfl) (Ex.loadHp flat3 rfl hH rfl) ?_
  refine WL.call callable48 rfl (Wt.plain rfl) rfl rfl (iaimOk _ _ _ _ _ _ _ (hg.kept hH.keep) hs) ?_
  rintro _ _ ⟨rfl, hw⟩; obtain rfl := hw.symm
  refine WL.u rfl rfl (Wt.plain rfl) (Ex.not rfl) ?_
  refine WL.next ?_
  refine WC.cond rfl (fun hc1 => ?_) (fun hc1 => ?_)
  · have hc1' := hc1; try simp only [decide_eq_true_eq, decide_eq_false_iff_not, Bool.not_eq_true', Bool.not_eq_false', Bool.not_eq_true, Bool.not_eq_false] at hc1'
    have hai : aimB g p q 6 = false := by simpa using hc1
    refine WC.seq ?_
    refine WC.region ?_
    refine WL.lit0 Try.underlying22 ty9 rfl (Wt.plain rfl) hH (fun b16 wn hb16 hk16 hH => ?_)
    have ho16 := Own.nil rStr
    refine WL.u rfl rfl (Wt.plain rfl) (Ex.assign rfl) ?_
    refine WL.u rfl rfl (Wt.plain rfl) (Ex.assign rfl) ?_
    refine WL.u rfl rfl (Wt.plain rfl) (Ex.assign rfl) ?_
    refine WL.next ?_
    refine WC.ret ?_
    refine WN.retThen ?_
    refine WN.body3 rfl rfl rfl rfl ?_
    have e : aimRes g p q = ([], 0, false) := by rw [aimRes, hai]; rfl
    exact ⟨_, by rw [e], hH.keep, by rw [e]; exact New.of hH ho16 (hH.base 0 rfl)⟩
  have hc1' := hc1; try simp only [decide_eq_true_eq, decide_eq_false_iff_not, Bool.not_eq_true', Bool.not_eq_false', Bool.not_eq_true, Bool.not_eq_false] at hc1'
  have hai : aimB g p q 6 = true := by simpa using hc1
  obtain ⟨hG, p, q, rfl, rfl, hp, hq, hpq, h6⟩ := aimB_ex hai
  have hp6 := pow6 h6
  obtain ⟨h1, h2, h3, h4, _, _⟩ := id hG
  obtain ⟨b, off, rfl⟩ := hg.addr (by omega)
  have hle6 : nR g * nC g ≤ 9 := by omega
  refine WC.skip ?_
  refine WN.next ?_
  refine WC.seq ?_
  refine WC.region ?_
  refine WL.lit0 Try.underlying22 ty9 rfl (Wt.plain rfl) hH (fun b17 wn hb17 hk17 hH => ?_)
  refine WL.alloc ty22 rfl rfl (Wt.plain rfl) hH (fun b9 wn hb9 hk9 hH => ?_)
  refine WL.alloc ty3 rfl rfl (Wt.plain rfl) hH (fun b10 wn hb10 hk10 hH => ?_)
  replace hH := hH.f1
  refine WL.store1 ty22 rfl rfl rfl (Wt.plain rfl) hH (by first | decide | simp) rfl (fun wn hk hH => ?_)
  replace hH := hH.f1
  refine WL.store1 ty3 rfl rfl rfl (Wt.plain rfl) hH (by first | decide | simp) rfl (fun wn hk hH => ?_)
  refine WL.next ?_
  refine WC.seq ?_
  refine WC.tail 7 rfl (by kernel_rfl) ?_
  replace hH := hH.drew
  replace hH := hH.f5
  refine WS.u rfl rfl (Wt.plain rfl) (Ex.loadHp flat22 rfl hH rfl) ?_
  refine WS.u rfl rfl (Wt.plain rfl) (Ex.lenSl Try.underlying22 rfl) ?_
  refine WS.u rfl rfl (Wt.plain rfl) (Ex.loadHp flat22 rfl hH rfl) ?_
  refine WS.u rfl rfl (Wt.plain rfl) (Ex.indexAddr Try.underlying22 ty9 rfl rfl (by omega)) ?_
  refine WS.u rfl rfl (Wt.plain rfl) (Ex.loadSl flat9 (hg.kept hH.keep) rfl rfl (getD_get g 0 [] (by omega))) ?_
  refine WS.u rfl rfl (Wt.plain rfl) (Ex.lenStr Try.underlying9 rfl) ?_
  refine WS.u rfl rfl (Wt.plain rfl) (Ex.makeFunc rfl) ?_
  refine WS.nil ?_
  refine WL.call callable94 rfl (Wt.plain rfl) rfl rfl (iallGrids (nR g) (nC g) 95 _ [vptr b4 0, vptr b5 0, vptr b3 0, vptr b10 0, vptr b9 0] [b10, b9] (TJ g (some ⟨b, off, none⟩) cap p q b4 b5 b3 b10 b9 w.heap.size) _ rfl h1 h2 h3 h4 (eachAT hG hp hH.keep.size (hH.lt 1 rfl) (hH.lt 2 rfl) (hg.offAll (by intro k hk; simp only [List.mem_cons, List.not_mem_nil, or_false] at hk; rcases hk with rfl | rfl; exact hH.base 1 rfl; exact hH.base 2 rfl)) (hH.nin2 5 1 2 rfl rfl rfl rfl rfl) (hH.nin2 4 1 2 rfl rfl rfl rfl rfl) (hH.nin2 0 1 2 rfl rfl rfl rfl rfl) (fun e => hH.nin 1 2 rfl rfl rfl (by rw [e]; simp)) ⟨rfl, hH.cellAt 5 rfl 0 rfl, hH.cellAt 4 rfl 0 rfl, hH.cellAt 0 rfl 0 rfl, hg.kept hH.keep, hH.at 1 rfl, _, hH.at 2 rfl, trivial⟩)) ?_
  rintro _ wn ⟨U, hT, hK, hU⟩; replace hH : Hp [] w wn [] := ((hH.f2.f2).rest (L1 := [_, _]) rfl (by intro k hk; simpa [or_comm] using hk) hK).first0; obtain ⟨x9, h9, hB⟩ := hT.m9; have h10 := hT.m10; obtain ⟨r, hr⟩ := best_some hG hp hq hpq hle6; rw [hr] at h10 hB; obtain ⟨b2, cap2, cur2, rfl, hn2, hlo2, hbb2, ho2⟩ := hB
  refine WL.next ?_
  refine WC.seq ?_
  refine WC.seq ?_
  refine WC.region ?_
  refine WL.u rfl rfl (Wt.plain rfl) (Ex.load flat3 rfl ((cell_of_row _ _ _ _ _ _ h10).trans rfl)) ?_
  refine WL.u rfl rfl (Wt.plain rfl) (Ex.lss rfl rfl) ?_
  refine WL.next ?_
  refine WC.condF rfl (decide_eq_false (by show ¬ ((r.1 : Int) < 0); omega)) ?_
  refine WC.skip ?_
  refine WN.next ?_
  refine WC.seq ?_
  refine WC.quietK rfl (by kernel_rfl) ?_
  refine WQ.u rfl rfl (Wt.plain rfl) (fun w hC => Ex.load flat22 rfl ((cell_of_row _ _ _ _ _ _ (hC.heap h9 (by simp))).trans rfl)) ?_
  refine WQ.u rfl rfl (Wt.plain rfl) (fun w hC => Ex.load flat3 rfl ((cell_of_row _ _ _ _ _ _ (hC.heap h10 (by simp))).trans rfl)) ?_
  refine WQ.u rfl rfl (Wt.plain rfl) (fun w hC => Ex.assign rfl) ?_
  refine WQ.u rfl rfl (Wt.plain rfl) (fun w hC => Ex.assign rfl) ?_
  refine WQ.u rfl rfl (Wt.plain rfl) (fun w hC => Ex.assign rfl) ?_
  refine WQ.nil ?_
  intro wn hC; replace hH := hH.call hC; replace hbb2 := hC.heap hbb2 (by simp); clear hC
  refine WN.next ?_
  refine WC.ret ?_
  refine WN.body3 rfl rfl rfl rfl ?_
  have e := aimRes_at hai hr
  exact ⟨_, by rw [e]; rfl, hH.keep, by rw [e]; exact ⟨b2, cap2, cur2, rfl, hlo2, hbb2, ho2.size, ho2.le, by have := ho2.max; simpa [maxLen] using this, ho2.rw⟩⟩


def aimTry (g : Grid) (p q : Int) : Int × Bool := (aimRes g p q).2
theorem aimRes_not {g : Grid} {p q : Int} (h : aimB g p q 6 = false) : aimRes g p q = ([], 0, false) := by rw [aimRes, h]; rfl

theorem iAimTry (g : Grid) (a : Option Addr) (cap : Nat) (p q : Int) (w : World) (hg : Sl rStr w a g) (hs : Short g) : Fn Try.prog 27 [.slice a g.length cap, vint p, vint q] w (fun v w1 => v = .tuple #[vint (aimTry g p q).1, .bool (aimTry g p q).2] ∧ Keep [] w w1) := by
  refine Fn.enter (n := 21) Try.func27 rfl rfl rfl ?_
  show WC _ _ _ _ [(0, .slice a g.length cap), (1, vint p), (2, vint q)] _
  have hH := Hp.start [] w
  refine WC.seq ?_
  refine WC.region ?_
  refine WL.u rfl rfl (Wt.plain rfl) (Ex.assign rfl) ?_
  refine WL.u rfl rfl (Wt.plain rfl) (Ex.assign rfl) ?_
  refine WL.next ?_
  refine WC.seq ?_
  refine WC.region ?_
  refine WL.u rfl rfl (Wt.plain rfl) (Ex.move rfl) ?_
  refine WL.u rfl rfl (Wt.plain rfl) (Ex.move rfl) ?_
  refine WL.u rfl rfl (Wt.plain rfl) (Ex.move rfl) ?_
  refine WL.call callable65 rfl (Wt.plain rfl) rfl rfl (iaimed _ _ _ _ _ _ (hg.kept hH.keep) hs) ?_
  rintro _ wn ⟨x, rfl, hC, hN⟩; obtain ⟨b15, cap15, cur15, rfl, hge15, hbb15, ho15⟩ := hN.own; replace hH := hH.push hC hge15 hbb15; clear hC hN
  refine WL.u rfl rfl (Wt.plain rfl) (Ex.move rfl) ?_
  refine WL.u rfl rfl (Wt.plain rfl) (Ex.extract rfl rfl) ?_
  refine WL.u rfl rfl (Wt.plain rfl) (Ex.extract rfl rfl) ?_
  refine WL.u rfl rfl (Wt.plain rfl) (Ex.extract rfl rfl) ?_
  refine WL.u rfl rfl (Wt.plain rfl) (Ex.assign rfl) ?_
  refine WL.u rfl rfl (Wt.plain rfl) (Ex.assign rfl) ?_
  refine WL.u rfl rfl (Wt.plain rfl) (Ex.assign rfl) ?_
  refine WL.next ?_
  refine WC.seq ?_
  refine WC.region ?_
  refine WL.u rfl rfl (Wt.plain rfl) (Ex.move rfl) ?_
  refine WL.u rfl rfl (Wt.plain rfl) (Ex.move rfl) ?_
  refine WL.u rfl rfl (Wt.plain rfl) (Ex.assign rfl) ?_
  refine WL.u rfl rfl (Wt.plain rfl) (Ex.assign rfl) ?_
  refine WL.next ?_
  refine WC.ret ?_
  refine WN.body2 rfl rfl rfl ?_
  exact ⟨rfl, hH.keep⟩

theorem sAimTry (g : Grid) (a : Option Addr) (cap : Nat) (p q : Int) (w : World) (hg : Sl rStr w a g) (hs : Short g) : Fn Try.prog 28 [.slice a g.length cap, vint p, vint q] w (fun v w1 => v = .tuple #[vint (aimTry g p q).1, .bool (aimTry g p q).2] ∧ Keep [] w w1) := by
  refine Fn.enter (n := 23) Try.func28 rfl rfl rfl ?_
  show WC _ _ _ _ [(0, .slice a g.length cap), (1, vint p), (2, vint q)] _
  have hH := Hp.start [] w
  refine WC.seq ?_
  refine WC.region ?_
  refine WL.u rfl rfl (Wt.plain rfl) (Ex.assign rfl) ?_
  refine WL.u rfl rfl (Wt.plain rfl) (Ex.assign rfl) ?_
  refine WL.next ?_
  refine WC.seq ?_
  refine WC.seq ?_
  refine WC.region ?_
  refine WL.u rfl rfl (Wt.plain rfl) (Ex.move rfl) ?_
  refine WL.u rfl rfl (Wt.plain rfl) (Ex.move rfl) ?_
  refine WL.u rfl rfl (Wt.plain rfl) (Ex.move rfl) ?_
  refine WL.call callable46 rfl (Wt.plain rfl) rfl rfl (sl9Given g _ _ p q 6 _ (hg.kept hH.keep) hs) ?_
  rintro _ wn ⟨rfl, hC⟩; replace hH := hH.dr hC; clear hC
  refine WL.u rfl rfl (Wt.plain rfl) (Ex.not rfl) ?_
  refine WL.next ?_
  refine WC.cond rfl (fun hc1 => ?_) (fun hc1 => ?_)
  · have hc1' := hc1; try simp only [decide_eq_true_eq, decide_eq_false_iff_not, Bool.not_eq_true', Bool.not_eq_false', Bool.not_eq_true, Bool.not_eq_false] at hc1'
    have hai : aimB g p q 6 = false := by simpa using hc1
    refine WC.seq ?_
    refine WC.region ?_
    refine WL.u rfl rfl (Wt.plain rfl) (Ex.assign rfl) ?_
    refine WL.u rfl rfl (Wt.plain rfl) (Ex.assign rfl) ?_
    refine WL.next ?_
    refine WC.ret ?_
    refine WN.retThen ?_
    refine WN.body2 rfl rfl rfl ?_
    exact ⟨by rw [aimTry, aimRes_not hai] <;> rfl, hH.keep⟩
  have hc1' := hc1; try simp only [decide_eq_true_eq, decide_eq_false_iff_not, Bool.not_eq_true', Bool.not_eq_false', Bool.not_eq_true, Bool.not_eq_false] at hc1'
  have hai : aimB g p q 6 = true := by simpa using hc1
  obtain ⟨hG, p, q, rfl, rfl, hp, hq, hpq, h6⟩ := aimB_ex hai
  have hp6 := pow6 h6
  obtain ⟨h1, h2, h3, h4, _, _⟩ := id hG
  obtain ⟨b, off, rfl⟩ := hg.addr (by omega)
  obtain ⟨r, hr⟩ := best_some hG hp hq hpq (show nR g * nC g ≤ 9 by omega)
  have hres := aimRes_at hai hr
  refine WC.skip ?_
  refine WN.next ?_
  refine WC.seq ?_
  refine WC.region ?_
  refine WL.u rfl rfl (Wt.plain rfl) (Ex.move rfl) ?_
  refine WL.u rfl rfl (Wt.plain rfl) (Ex.move rfl) ?_
  refine WL.u rfl rfl (Wt.plain rfl) (Ex.move rfl) ?_
  refine WL.call callable66 rfl (Wt.plain rfl) rfl rfl (sl9Try _ _ _ _ _ _ (hg.kept hH.keep) hG hp h6) ?_
  rintro _ wn ⟨rfl, hC⟩; replace hH := hH.call hC; clear hC
  refine WL.u rfl rfl (Wt.plain rfl) (Ex.move rfl) ?_
  refine WL.u rfl rfl (Wt.plain rfl) (Ex.extract rfl rfl) ?_
  refine WL.u rfl rfl (Wt.plain rfl) (Ex.extract rfl rfl) ?_
  refine WL.u rfl rfl (Wt.plain rfl) (Ex.assign rfl) ?_
  refine WL.u rfl rfl (Wt.plain rfl) (Ex.assign rfl) ?_
  refine WL.next ?_
  refine WC.seq ?_
  refine WC.region ?_
  refine WL.u rfl rfl (Wt.plain rfl) (Ex.move rfl) ?_
  refine WL.u rfl rfl (Wt.plain rfl) (Ex.assign rfl) ?_
  refine WL.u rfl rfl (Wt.plain rfl) (Ex.assign rfl) ?_
  refine WL.next ?_
  refine WC.ret ?_
  refine WN.body2 rfl rfl rfl ?_
  exact ⟨by rw [aimTry, hres, hr] <;> rfl, hH.keep⟩

end Go.Proofs.Ytjejdebmlgjdeaa
