/- The grids that fit: the program's list and the reference's. -/
import Derived.Test.YtmlefpddjfonlaaAsk
namespace Go.Proofs.Ytmlefpddjfonlaa
set_option maxRecDepth 100000
set_option linter.unusedSimpArgs false
set_option linter.unusedVariables false
open Go Go.RowKit
def askFit (n m : Int) (ans : List Int) : Int × Bool := if ansB n m ans = true then (((fits n.toNat m.toNat ans).length : Int), true) else (0, false)
theorem askFit_at {n m : Nat} {ans : List Int} (h : AnsOk n m ans) : askFit n m ans = (((fits n m ans).length : Int), true) := by rw [askFit, if_pos h.b]; rfl
theorem askFit_not {n m : Int} {ans : List Int} (h : ansB n m ans = false) : askFit n m ans = (0, false) := by rw [askFit, if_neg (by rw [h]; decide)]
theorem Gs.move {lo b b' : Nat} {w w' : World} {hs : List Hd} {L : List Grid} (a : Gs lo [b] w hs L) (hb : b' = b ∨ w.heap.size ≤ b') (k : Keep [b] w w') : Gs lo [b'] w' hs L :=
  ((a.reX (X' := [b', b]) (fun x hx => by
    rcases List.mem_cons.1 hx with rfl | hx
    · rcases hb with rfl | hb
      · exact .inl (by simp)
      · exact .inr hb
    · exact .inl hx)).keep k (fun x hx => .inl (by simp at hx; simp [hx]))).reX (fun x hx => .inl (by simp at hx; simp [hx]))
theorem Gs.move2 {lo b b' c : Nat} {w w' : World} {hs : List Hd} {L : List Grid} (a : Gs lo [b, c] w hs L) (hb : b' = b ∨ w.heap.size ≤ b') (k : Keep [b, c] w w') : Gs lo [b', c] w' hs L :=
  ((a.reX (X' := [b', b, c]) (fun x hx => by
    rcases List.mem_cons.1 hx with rfl | hx
    · rcases hb with rfl | hb
      · exact .inl (by simp)
      · exact .inr hb
    · exact .inl hx)).keep k (fun x hx => .inl (by simp at hx; rcases hx with rfl | rfl <;> simp))).reX (fun x hx => .inl (by simp at hx; rcases hx with rfl | rfl <;> simp))

theorem ifits1 (g : Grid) (a a3 : Option Addr) (cap cap3 b5 bvc bvr capvr : Nat) (curvr : Array Value) (hs : List Hd) (ans : List Int) (w : World) (hg : Sl rStr w a g) (hga : Off [bvr, bvc] a g) (hG : GridOk g) (hal : ans.length = ports g) (ha : Sl rInt w a3 ans) (haa : Off [bvr, bvc] a3 ans) (hne : bvr ≠ bvc) (hbr : w.heap[bvr]? = some (.cells curvr 22 (0, 0))) (hbc : w.heap[bvc]? = some (.cells #[vsl bvr hs.length capvr] 56 (0, 0))) (hovr : Own rHd curvr capvr hs) (hlen : hs.length ≤ 1000) (hn5 : b5 ∉ [bvr, bvc]) (h5 : w.cell? ⟨b5, 0, none⟩ = some (.slice a3 ans.length cap3)) : Fn Try.prog 94 [.slice a g.length cap, vptr b5 0, vptr bvc 0] w (fun v w1 => ∃ b81 cap81 cur81 hs1, Keep [bvr, bvc] w w1 ∧ (b81 = bvr ∨ w.heap.size ≤ b81) ∧ b81 ≠ bvc ∧ w1.heap[bvc]? = some (.cells #[vsl b81 hs1.length cap81] 56 (0, 0)) ∧ w1.heap[b81]? = some (.cells cur81 22 (0, 0)) ∧ Own rHd cur81 cap81 hs1 ∧ hs1 = (if fitB g ans = true then hs ++ [((a, g.length, cap) : Hd)] else hs)) := by
  refine Fn.enter (n := 32) Try.func94 rfl rfl rfl ?_
  show WC _ _ _ _ [(0, .slice a g.length cap), (1, vptr b5 0), (2, vptr bvc 0)] _
  have hH := Hp.pair hbr hbc hne
  have hpl := ports_le hG
  obtain ⟨b3, off3, rfl⟩ := ha.addr (show 0 < ans.length by have := hG.n1; rw [hal]; unfold ports; dsimp only [nR]; omega)
  refine WC.seq ?_
  refine WC.seq ?_
  refine WC.region ?_
  refine WL.u rfl rfl (Wt.plain rfl) (Ex.move rfl) ?_
  refine WL.call callable60 rfl (Wt.plain rfl) rfl rfl (ipairsOf g _ _ _ (hg.keepO hH.keep hga) hG) ?_
  rintro _ wn ⟨hC, hN⟩; obtain ⟨bvp, capvp, curvp, rfl, hgep, hbbp, hovp⟩ := hN.own; rw [pairsI_len]; replace hH := hH.push hC hgep hbbp; clear hC hN
  refine WL.u rfl rfl (Wt.plain rfl) (Ex.lenSl Try.underlying24 rfl) ?_
  refine WL.u rfl rfl (Wt.plain rfl) (Ex.move rfl) ?_
  refine WL.next ?_
  refine WC.block ?_
  replace hH := hH.f2
  replace hH := hH.f2
  refine WC.loop (ι := Nat) (fun i => [(0, .slice a g.length cap), (1, vptr b5 0), (2, vptr bvc 0), (7, vsl bvp (ports g) capvp), (8, vint (ports g)), (9, vint i)]) (fun i wn => Hp [bvr, bvc] w wn [(bvr, .cells curvr 22 (0, 0)), (bvc, .cells #[vsl bvr hs.length capvr] 56 (0, 0)), (bvp, .cells curvp 3 (0, 0))] ∧ fitTo g ans i = true ∧ i ≤ ports g) (fun i => ports g - i) (0) (by exact ⟨rfl, rfl, rfl, rfl, rfl, rfl, trivial⟩) ?_ ?_
  · exact ⟨hH, rfl, Nat.zero_le _⟩
  rintro i wn ⟨hH, hf, hi⟩
  intro mu0 hmu; try dsimp only at hmu
  show WC _ _ _ _ [(0, .slice a g.length cap), (1, vptr b5 0), (2, vptr bvc 0), (7, vsl bvp (ports g) capvp), (8, vint (ports g)), (9, vint i)] _
  refine WC.seq ?_
  refine WC.region ?_
  refine WL.u rfl rfl (Wt.plain rfl) (Ex.lss rfl rfl) ?_
  refine WL.next ?_
  refine WC.seq ?_
  refine WC.cond rfl (fun hc1 => ?_) (fun hc1 => ?_)
  · have hc1' := hc1; try simp only [decide_eq_true_eq, decide_eq_false_iff_not, Bool.not_eq_true', Bool.not_eq_false', Bool.not_eq_true, Bool.not_eq_false] at hc1'
    have hlt : i < ports g := by omega
    have hpe := pairsI_get g hlt
    refine WC.skip ?_
    refine WN.next ?_
    refine WC.seq ?_
    refine WC.block ?_
    refine WC.seq ?_
    refine WC.region ?_
    refine WL.u rfl rfl (Wt.plain rfl) (Ex.move rfl) ?_
    refine WL.u rfl rfl (Wt.plain rfl) (Ex.indexAddr Try.underlying24 ty3 rfl rfl (by omega)) ?_
    replace hH := hH.f2
    refine WL.u rfl rfl (Wt.plain rfl) (Ex.loadHp flat3 rfl hH (hovp.get rfl (getD_get (pairsI g) i 0 (by rw [pairsI_len]; exact hlt)))) ?_
    refine WL.u rfl rfl (Wt.plain rfl) (Ex.assign rfl) ?_
    refine WL.u rfl rfl (Wt.plain rfl) (Ex.assign rfl) ?_
    refine WL.next ?_
    refine WC.seq ?_
    refine WC.region ?_
    refine WL.u rfl rfl (Wt.plain rfl) (Ex.load flat24 rfl (hH.keep.cell h5 hn5)) ?_
    refine WL.u rfl rfl (Wt.plain rfl) (Ex.move rfl) ?_
    refine WL.u rfl rfl (Wt.plain rfl) (Ex.indexAddr Try.underlying24 ty3 rfl rfl (by omega)) ?_
    refine WL.u rfl rfl (Wt.plain rfl) (Ex.loadSl flat3 (ha.keepO hH.keep haa) rfl rfl (getD_get ans i 0 (by omega))) ?_
    refine WL.u rfl rfl (Wt.plain rfl) (Ex.neq rfl rfl) ?_
    refine WL.u rfl rfl (Wt.plain rfl) (Ex.move rfl) ?_
    refine WL.split (t := 19) rfl (fun hg3_5 => ?_) (fun hg3_5 => ?_)
    · have hg3_5' := hg3_5; try simp only [decide_eq_true_eq, decide_eq_false_iff_not, Bool.not_eq_true', Bool.not_eq_false', Bool.not_eq_true, Bool.not_eq_false] at hg3_5'
      refine WL.u rfl rfl (Wt.guard' rfl rfl rfl hg3_5 rfl) (Ex.load flat24 rfl (hH.keep.cell h5 hn5)) ?_
      refine WL.u rfl rfl (Wt.guard' rfl rfl rfl hg3_5 rfl) (Ex.move rfl) ?_
      refine WL.u rfl rfl (Wt.guard' rfl rfl rfl hg3_5 rfl) (Ex.indexAddr Try.underlying24 ty3 rfl rfl (by omega)) ?_
      refine WL.u rfl rfl (Wt.guard' rfl rfl rfl hg3_5 rfl) (Ex.loadSl flat3 (ha.keepO hH.keep haa) rfl rfl (getD_get ans i 0 (by omega))) ?_
      refine WL.u rfl rfl (Wt.guard' rfl rfl rfl hg3_5 rfl) (Ex.move rfl) ?_
      refine WL.u rfl rfl (Wt.guard' rfl rfl rfl hg3_5 rfl) (Ex.neq rfl rfl) ?_
      refine WL.u rfl rfl (Wt.plain rfl) (Ex.pickT rfl hg3_5 rfl) ?_
      refine WL.next ?_
      refine WC.cond rfl (fun hc2 => ?_) (fun hc2 => ?_)
      · have hc2' := hc2; try simp only [decide_eq_true_eq, decide_eq_false_iff_not, Bool.not_eq_true', Bool.not_eq_false', Bool.not_eq_true, Bool.not_eq_false] at hc2'
        refine WC.ret ?_
        refine WN.retBlock ?_
        refine WN.retThen ?_
        refine WN.retThen ?_
        refine WN.retBlock ?_
        refine WN.retThen ?_
        refine WN.body0 rfl ?_
        have hk : keepB g ans i = false := by unfold keepB; rw [decide_eq_false (by omega), decide_eq_false (by omega)]; rfl
        exact ⟨bvr, capvr, curvr, hs, hH.keep, .inl rfl, hne, (hH.at 2 rfl), (hH.at 1 rfl), hovr, by rw [show fitB g ans = false from fitTo_false hlt hk]; rfl⟩
      have hc2' := hc2; try simp only [decide_eq_true_eq, decide_eq_false_iff_not, Bool.not_eq_true', Bool.not_eq_false', Bool.not_eq_true, Bool.not_eq_false] at hc2'
      refine WC.skip ?_
      refine WN.normalBlock ?_
      refine WN.next ?_
      refine WC.region ?_
      refine WL.u rfl rfl (Wt.plain rfl) (Ex.add rfl rfl (by omega)) ?_
      refine WL.u rfl rfl (Wt.plain rfl) (Ex.move rfl) ?_
      refine WL.last ?_
      replace hH := hH.f2
      replace hH := hH.f2
      refine WN.round (i + 1) (by exact ⟨rfl, rfl, rfl, rfl, rfl, rfl, trivial⟩) ?_ ?_
      · exact ⟨hH, by rw [fitTo, hf]; exact (keepB_iff _ _ _).2 (by omega), by omega⟩
      · (try dsimp only); omega
    have hg3_5' := hg3_5; try simp only [decide_eq_true_eq, decide_eq_false_iff_not, Bool.not_eq_true', Bool.not_eq_false', Bool.not_eq_true, Bool.not_eq_false] at hg3_5'
    refine WL.pass rfl rfl (Wt.guard' rfl rfl rfl hg3_5 rfl) ?_
    refine WL.pass rfl rfl (Wt.guard' rfl rfl rfl hg3_5 rfl) ?_
    refine WL.pass rfl rfl (Wt.guard' rfl rfl rfl hg3_5 rfl) ?_
    refine WL.pass rfl rfl (Wt.guard' rfl rfl rfl hg3_5 rfl) ?_
    refine WL.pass rfl rfl (Wt.guard' rfl rfl rfl hg3_5 rfl) ?_
    refine WL.pass rfl rfl (Wt.guard' rfl rfl rfl hg3_5 rfl) ?_
    refine WL.u rfl rfl (Wt.plain rfl) (Ex.pickF rfl hg3_5 rfl) ?_
    refine WL.next ?_
    refine WC.condF rfl rfl ?_
    refine WC.skip ?_
    refine WN.normalBlock ?_
    refine WN.next ?_
    refine WC.region ?_
    refine WL.u rfl rfl (Wt.plain rfl) (Ex.add rfl rfl (by omega)) ?_
    refine WL.u rfl rfl (Wt.plain rfl) (Ex.move rfl) ?_
    refine WL.last ?_
    replace hH := hH.f2
    replace hH := hH.f2
    refine WN.round (i + 1) (by exact ⟨rfl, rfl, rfl, rfl, rfl, rfl, trivial⟩) ?_ ?_
    · exact ⟨hH, by rw [fitTo, hf]; exact (keepB_iff _ _ _).2 (by omega), by omega⟩
    · (try dsimp only); omega
  have hc1' := hc1; try simp only [decide_eq_true_eq, decide_eq_false_iff_not, Bool.not_eq_true', Bool.not_eq_false', Bool.not_eq_true, Bool.not_eq_false] at hc1'
  obtain rfl : i = ports g := by omega
  have hfit : fitB g ans = true := hf
  have hsz := hH.keep.size
  refine WC.exit ?_
  refine WN.exitThen ?_
  refine WN.exitThen ?_
  refine WN.exitHere ?_
  refine WN.next ?_
  refine WC.region ?_
  replace hH := hH.f1
  refine WL.u rfl rfl (Wt.plain rfl) (Ex.loadHp flat56 rfl hH rfl) ?_
  refine WL.u rfl rfl (Wt.plain rfl) (Ex.move rfl) ?_
  replace hH := hH.f1
  refine WL.append1 (r := rHd) (u := ((a, g.length, cap) : Hd)) Try.underlying56 ty22 rfl rfl (fun _ => rfl) (fun _ => rfl) rfl rfl (Wt.plain rfl) (fun _ => (Wt.plain rfl)) hH hovr rfl (by omega) (by omega) (fun bvr capvr curvr wn xvr hbvr hkvr hH hovr => ?_)
  replace hH := hH.f1
  refine WL.store1 ty56 rfl rfl rfl (Wt.plain rfl) hH (by first | decide | simp) rfl (fun wn hk hH => ?_)
  refine WL.last ?_
  refine WN.body0n rfl ?_
  exact ⟨bvr, capvr, curvr, _, hH.keep, hbvr.imp id (fun h => Nat.le_trans hsz h), (fun e => hH.nin 1 0 rfl rfl rfl (by rw [e]; simp)), (hH.at 0 rfl), (hH.at 1 rfl), hovr, by rw [if_pos hfit]⟩


def FJ (n m lo b5 b7 : Nat) (a3 : Option Addr) (cap3 : Nat) (ans : List Int) (i : Nat) (U : List Nat) (w : World) : Prop := ∃ b8 cap8 cur8 hs, U = [b8, b7] ∧ b8 ≠ b7 ∧ w.heap[b7]? = some (.cells #[vsl b8 hs.length cap8] 56 (0, 0)) ∧ w.heap[b8]? = some (.cells cur8 22 (0, 0)) ∧ Own rHd cur8 cap8 hs ∧ Gs lo [b8, b7] w hs (fitL n m ans i) ∧ b5 ∉ [b8, b7] ∧ w.cell? ⟨b5, 0, none⟩ = some (.slice a3 ans.length cap3) ∧ Sl rInt w a3 ans ∧ Off [b8, b7] a3 ans
theorem eachFits {n m lo b5 b7 b8 : Nat} {a3 : Option Addr} {cap3 : Nat} {ans : List Int} {w : World} (hA : AnsOk n m ans) (hlo : lo ≤ w.heap.size) (h8 : b8 < w.heap.size) (h7 : b7 < w.heap.size) (h0 : FJ n m lo b5 b7 a3 cap3 ans 0 [b8, b7] w) : Each Try.prog 94 [vptr b5 0, vptr b7 0] (numG n m) (3 ^ (n * m)) [b8, b7] (FJ n m lo b5 b7 a3 cap3 ans) w where
  fn := callable94
  lt := fun k hk => by
    rcases List.mem_cons.1 hk with rfl | hk
    · exact h8
    · rw [List.mem_singleton.1 hk]; exact h7
  keep := fun i U w2 w3 ⟨b, c, cur, hs, h1, h2, h3, h4, h5, h6, h7, h8, h9, h10⟩ hk => ⟨b, c, cur, hs, h1, h2, hk.heap h3 (by simp), hk.heap h4 (by simp), h5, h6.kept hk, h7, hk.cell h8 (by simp), h9.kept hk, h10⟩
  start := h0
  call := fun w2 i b cap cur2 U hK hi ⟨b8, cap8, cur8, hs, hU, hne, hb7, hb8, ho, hgs, hn5, h5, ha, haa⟩ hl hbU hbw hbg hog => by
    have hg := hog.sl0 hbg
    subst hU
    have hfl := fitL_le n m ans i
    have hp81 := hA.pow
    have hblt := (Array.getElem?_eq_some_iff.1 hbg).1
    refine (ifits1 (numG n m i) _ a3 cap cap3 b5 b7 b8 cap8 cur8 hs ans w2 hg (.inr (fun p hp => by cases hp; exact hbU)) (hA.grid i) (hA.ports i).symm ha haa hne hb8 hb7 ho (by rw [hgs.len]; omega) hn5 h5).mono fun v w3 ⟨b81, cap81, cur81, hs1, k1, k2, k3, k4, k5, k6, k7⟩ => ?_
    have hlt81 := (Array.getElem?_eq_some_iff.1 k5).1
    have hlt5 := World.block_lt_of_cell? w2 _ h5
    dsimp only at hlt5
    have hg1 := hgs.move2 k2 k1
    have hb81 : b ∉ [b81, b7] := fun hm => by
      rcases List.mem_cons.1 hm with e | e
      · rcases k2 with e2 | e2
        · exact hbU (by rw [e, e2]; simp)
        · omega
      · exact hbU (by rw [List.mem_singleton.1 e]; simp)
    have hlt7 := (Array.getElem?_eq_some_iff.1 k4).1
    refine ⟨[b81, b7], ⟨b81, cap81, cur81, hs1, rfl, k3, k4, k5, k6, ?_, ?_, k1.cell h5 hn5, ha.keepO k1 haa, haa.swap ha k2⟩, k1, ?_⟩
    · rw [k7, fitL]
      by_cases hf : fitB (numG n m i) ans = true
      · rw [if_pos hf, if_pos hf]
        exact hg1.snoc ⟨b, cap, cur2, rfl, hb81, by omega, k1.heap hbg hbU, hog⟩
      · rw [if_neg hf, if_neg hf]; exact hg1
    · intro hm
      rcases List.mem_cons.1 hm with e | e
      · rcases k2 with e2 | e2
        · exact hn5 (by rw [e, e2]; simp)
        · omega
      · exact hn5 (by rw [List.mem_singleton.1 e]; simp)
    · intro k hk
      rcases List.mem_cons.1 hk with rfl | hk
      · rcases k2 with e2 | e2
        · exact .inl (by rw [e2]; simp)
        · exact .inr ⟨e2, hlt81⟩
      · exact .inl (by rw [List.mem_singleton.1 hk]; simp)

theorem ifits (n m : Nat) (ans : List Int) (a : Option Addr) (cap : Nat) (w : World) (ha : Sl rInt w a ans) (hA : AnsOk n m ans) : Fn Try.prog 65 [vint n, vint m, .slice a ans.length cap] w (fun v w1 => Keep [] w w1 ∧ NewGs w w1 v (fits n m ans)) := by
  refine Fn.enter (n := 14) Try.func65 rfl rfl rfl ?_
  show WC _ _ _ _ [(0, vint n), (1, vint m), (2, .slice a ans.length cap)] _
  have hH := Hp.start [] w
  obtain ⟨h1, h2, h3, h4, h9, hl, hbd⟩ := id hA
  have hp81 := hA.pow
  refine WC.seq ?_
  refine WC.region ?_
  refine WL.box rfl rfl rfl (Wt.plain rfl) hH (fun b5 wn hb5 hk5 hH => ?_)
  refine WL.u rfl rfl (Wt.plain rfl) (Ex.assign rfl) ?_
  refine WL.next ?_
  refine WC.seq ?_
  refine WC.region ?_
  refine WL.lit0 Try.underlying56 ty22 rfl (Wt.plain rfl) hH (fun b8 wn hb8 hk8 hH => ?_)
  have ho8 := Own.nil rHd
  refine WL.alloc ty56 rfl rfl (Wt.plain rfl) hH (fun b7 wn hb7 hk7 hH => ?_)
  refine WL.store1 ty56 rfl rfl rfl (Wt.plain rfl) hH (by first | decide | simp) rfl (fun wn hk hH => ?_)
  refine WL.next ?_
  refine WC.seq ?_
  have hne87 := hH.nin 1 0 rfl rfl rfl
  have hc5 := hH.cellAt 2 rfl 0 rfl
  have hn5 := hH.nin2 2 1 0 rfl rfl rfl rfl rfl
  have hb8t := (hH.at 1 rfl)
  have hb7t := (hH.at 0 rfl)
  have hlt8 := (Array.getElem?_eq_some_iff.1 hb8t).1
  have hlt7 := (Array.getElem?_eq_some_iff.1 hb7t).1
  have hge8 := hH.base 1 rfl
  have hge7 := hH.base 0 rfl
  have hsz0 := hH.keep.size
  dsimp only at hlt8 hlt7 hge8 hge7 hb8t hb7t
  refine WC.region ?_
  refine WL.u rfl rfl (Wt.plain rfl) (Ex.move rfl) ?_
  refine WL.u rfl rfl (Wt.plain rfl) (Ex.move rfl) ?_
  refine WL.u rfl rfl (Wt.plain rfl) (Ex.makeFunc rfl) ?_
  refine WL.call callable93 rfl (Wt.plain rfl) rfl rfl (iallGrids n m 94 _ [vptr b5 0, vptr b7 0] [b8, b7] (FJ n m w.heap.size b5 b7 a cap ans) _ rfl h1 h2 h3 h4 (eachFits hA hsz0 hlt8 hlt7 ⟨b8, 0, #[], [], rfl, (fun e => hne87 (by rw [e]; simp)), hb7t, hb8t, ho8, Gs.nil _ _ _, hn5, hc5, ha.kept hH.keep, ha.offNews hge8 hge7⟩)) ?_
  rintro _ wn ⟨U, ⟨b81, cap81, cur81, hs, hUe, hne, hb7, hb8, ho, hgs, _⟩, hK, hU⟩; have hk81 := hU b81 (by rw [hUe]; simp); have hfin : Keep [] w wn := hH.keep.shrink hK (by intro x hx; simp only [List.mem_cons, List.not_mem_nil, or_false] at hx; rcases hx with rfl | rfl <;> assumption); have hge81 : w.heap.size ≤ b81 := (by rcases hk81.2 with h | h; simp only [List.mem_cons, List.not_mem_nil, or_false] at h; rcases h with rfl | rfl <;> assumption; omega)
  refine WL.next ?_
  refine WC.seq ?_
  refine WC.region ?_
  refine WL.u rfl rfl (Wt.plain rfl) (Ex.load flat56 rfl ((cell_of_row _ b7 0 _ _ _ hb7).trans rfl)) ?_
  refine WL.u rfl rfl (Wt.plain rfl) (Ex.assign rfl) ?_
  refine WL.next ?_
  refine WC.ret ?_
  refine WN.body1 rfl rfl ?_
  exact ⟨hfin, hs, b81, cap81, cur81, rfl, hge81, hb8, ho, hgs.reX (fun x hx => .inl (by simp at hx; simp [hx]))⟩

theorem sl8Fits (g : Grid) (ans : List Int) (a a2 : Option Addr) (cap cap2 : Nat) (w : World) (hp : Sl rInt w a (pairsI g)) (ha : Sl rInt w a2 ans) (hG : GridOk g) (hal : ans.length = ports g) (hbd : ∀ j, j < ans.length → -1 ≤ ans.getD j 0 ∧ ans.getD j 0 ≤ (ans.length : Int) - 1) : Fn Try.prog 91 [.slice a (pairsI g).length cap, .slice a2 ans.length cap2] w (fun v w1 => v = .bool (fitB g ans) ∧ Dr w w1) := by
  refine Fn.enter (n := 28) Try.func91 rfl rfl rfl ?_
  show WC _ _ _ _ [(0, .slice a (pairsI g).length cap), (1, .slice a2 ans.length cap2)] _
  have hD := Dr.refl w
  have hpl := ports_le hG
  have hpll := pairsI_len g
  have hp0 : 0 < ports g := by have := hG.n1; unfold ports; dsimp only [nR]; omega
  obtain ⟨b, off, rfl⟩ := hp.addr (by omega)
  obtain ⟨b2, off2, rfl⟩ := ha.addr (by omega)
  refine WC.seq ?_
  refine WC.region ?_
  refine WL.u rfl rfl (Wt.plain rfl) (Ex.assign rfl) ?_
  refine WL.next ?_
  refine WC.seq ?_
  refine WC.seq ?_
  refine WC.region ?_
  refine WL.u rfl rfl (Wt.plain rfl) (Ex.assign rfl) ?_
  refine WL.next ?_
  refine WC.block ?_
  refine WC.loop (ι := Nat) (fun i => [(0, .slice (some ⟨b, off, none⟩) (pairsI g).length cap), (1, .slice (some ⟨b2, off2, none⟩) ans.length cap2), (5, vint i)]) (fun i wn => Dr w wn ∧ fitTo g ans i = true ∧ i ≤ ports g) (fun i => ports g - i) (0) (by exact ⟨rfl, rfl, rfl, trivial⟩) ?_ ?_
  · exact ⟨hD, rfl, Nat.zero_le _⟩
  rintro i wn ⟨hD, hf, hi⟩
  intro mu0 hmu; try dsimp only at hmu
  show WC _ _ _ _ [(0, .slice (some ⟨b, off, none⟩) (pairsI g).length cap), (1, .slice (some ⟨b2, off2, none⟩) ans.length cap2), (5, vint i)] _
  refine WC.seq ?_
  refine WC.seq ?_
  refine WC.region ?_
  refine WL.u rfl rfl (Wt.plain rfl) (Ex.move rfl) ?_
  refine WL.u rfl rfl (Wt.plain rfl) (Ex.move rfl) ?_
  refine WL.u rfl rfl (Wt.plain rfl) (Ex.lenSl Try.underlying24 rfl) ?_
  refine WL.u rfl rfl (Wt.plain rfl) (Ex.lss rfl rfl) ?_
  refine WL.next ?_
  refine WC.cond rfl (fun hc1 => ?_) (fun hc1 => ?_)
  · have hc1' := hc1; try simp only [decide_eq_true_eq, decide_eq_false_iff_not, Bool.not_eq_true', Bool.not_eq_false', Bool.not_eq_true, Bool.not_eq_false] at hc1'
    have hlt : i < ports g := by omega
    have hpe := pairsI_get g hlt
    have hbi := hbd i (by omega)
    refine WC.skip ?_
    refine WN.next ?_
    refine WC.seq ?_
    refine WC.block ?_
    refine WC.seq ?_
    refine WC.quiet rfl (by kernel_rfl) ?_
    refine WQ.u rfl rfl (Wt.plain rfl) (fun w hC => Ex.move rfl) ?_
    refine WQ.u rfl rfl (Wt.plain rfl) (fun w hC => Ex.move rfl) ?_
    refine WQ.u rfl rfl (Wt.plain rfl) (fun w hC => Ex.indexAddr Try.underlying24 ty3 rfl rfl (by omega)) ?_
    refine WQ.u rfl rfl (Wt.plain rfl) (fun w hC => Ex.loadSl flat3 (ha.dr (hD.trans hC)) rfl rfl (getD_get ans i 0 (by omega))) ?_
    refine WQ.u rfl rfl (Wt.plain rfl) (fun w hC => Ex.geq rfl rfl) ?_
    refine WQ.u rfl rfl (Wt.plain rfl) (fun w hC => Ex.move rfl) ?_
    refine WQ.split (t := 17) rfl (fun hg4_5 => ?_) (fun hg4_5 => ?_)
    · have hg4_5' := hg4_5; try simp only [decide_eq_true_eq, decide_eq_false_iff_not, Bool.not_eq_true', Bool.not_eq_false', Bool.not_eq_true, Bool.not_eq_false] at hg4_5'
      refine WQ.u rfl rfl (Wt.guard' rfl rfl rfl hg4_5 rfl) (fun w hC => Ex.move rfl) ?_
      refine WQ.u rfl rfl (Wt.guard' rfl rfl rfl hg4_5 rfl) (fun w hC => Ex.move rfl) ?_
      refine WQ.u rfl rfl (Wt.guard' rfl rfl rfl hg4_5 rfl) (fun w hC => Ex.indexAddr Try.underlying24 ty3 rfl rfl (by omega)) ?_
      refine WQ.u rfl rfl (Wt.guard' rfl rfl rfl hg4_5 rfl) (fun w hC => Ex.loadSl flat3 (ha.dr (hD.trans hC)) rfl rfl (getD_get ans i 0 (by omega))) ?_
      refine WQ.u rfl rfl (Wt.guard' rfl rfl rfl hg4_5 rfl) (fun w hC => Ex.move rfl) ?_
      refine WQ.u rfl rfl (Wt.guard' rfl rfl rfl hg4_5 rfl) (fun w hC => Ex.move rfl) ?_
      refine WQ.u rfl rfl (Wt.guard' rfl rfl rfl hg4_5 rfl) (fun w hC => Ex.indexAddr Try.underlying24 ty3 rfl rfl (by omega)) ?_
      refine WQ.u rfl rfl (Wt.guard' rfl rfl rfl hg4_5 rfl) (fun w hC => Ex.loadSl flat3 (hp.dr (hD.trans hC)) rfl rfl (getD_get (pairsI g) i 0 (by omega))) ?_
      refine WQ.u rfl rfl (Wt.guard' rfl rfl rfl hg4_5 rfl) (fun w hC => Ex.neq rfl rfl) ?_
      refine WQ.u rfl rfl (Wt.plain rfl) (fun w hC => Ex.pickT rfl hg4_5 rfl) ?_
      refine WQ.nil ?_
      intro wn hC; replace hD := hD.trans hC; clear hC
      refine WN.next ?_
      refine WC.cond rfl (fun hc2 => ?_) (fun hc2 => ?_)
      · have hc2' := hc2; try simp only [decide_eq_true_eq, decide_eq_false_iff_not, Bool.not_eq_true', Bool.not_eq_false', Bool.not_eq_true, Bool.not_eq_false] at hc2'
        refine WC.seq ?_
        refine WC.region ?_
        refine WL.u rfl rfl (Wt.plain rfl) (Ex.assign rfl) ?_
        refine WL.next ?_
        refine WC.ret ?_
        refine WN.retBlock ?_
        refine WN.retThen ?_
        refine WN.retThen ?_
        refine WN.retBlock ?_
        refine WN.retThen ?_
        refine WN.body1 rfl rfl ?_
        have hk : keepB g ans i = false := by unfold keepB; rw [decide_eq_false (by omega), decide_eq_false (by omega)]; rfl
        exact ⟨by rw [show fitB g ans = false from fitTo_false hlt hk], hD⟩
      have hc2' := hc2; try simp only [decide_eq_true_eq, decide_eq_false_iff_not, Bool.not_eq_true', Bool.not_eq_false', Bool.not_eq_true, Bool.not_eq_false] at hc2'
      refine WC.skip ?_
      refine WN.normalBlock ?_
      refine WN.next ?_
      refine WC.region ?_
      refine WL.u rfl rfl (Wt.plain rfl) (Ex.move rfl) ?_
      refine WL.u rfl rfl (Wt.plain rfl) (Ex.add rfl rfl (by omega)) ?_
      refine WL.u rfl rfl (Wt.plain rfl) (Ex.assign rfl) ?_
      refine WL.last ?_
      refine WN.round (i + 1) (by exact ⟨rfl, rfl, rfl, trivial⟩) ?_ ?_
      · exact ⟨hD, by rw [fitTo, hf]; exact (keepB_iff _ _ _).2 (by omega), by omega⟩
      · (try dsimp only); omega
    have hg4_5' := hg4_5; try simp only [decide_eq_true_eq, decide_eq_false_iff_not, Bool.not_eq_true', Bool.not_eq_false', Bool.not_eq_true, Bool.not_eq_false] at hg4_5'
    refine WQ.pass rfl rfl (Wt.guard' rfl rfl rfl hg4_5 rfl) ?_
    refine WQ.pass rfl rfl (Wt.guard' rfl rfl rfl hg4_5 rfl) ?_
    refine WQ.pass rfl rfl (Wt.guard' rfl rfl rfl hg4_5 rfl) ?_
    refine WQ.pass rfl rfl (Wt.guard' rfl rfl rfl hg4_5 rfl) ?_
    refine WQ.pass rfl rfl (Wt.guard' rfl rfl rfl hg4_5 rfl) ?_
    refine WQ.pass rfl rfl (Wt.guard' rfl rfl rfl hg4_5 rfl) ?_
    refine WQ.pass rfl rfl (Wt.guard' rfl rfl rfl hg4_5 rfl) ?_
    refine WQ.pass rfl rfl (Wt.guard' rfl rfl rfl hg4_5 rfl) ?_
    refine WQ.pass rfl rfl (Wt.guard' rfl rfl rfl hg4_5 rfl) ?_
    refine WQ.u rfl rfl (Wt.plain rfl) (fun w hC => Ex.pickF rfl hg4_5 rfl) ?_
    refine WQ.nil ?_
    intro wn hC; replace hD := hD.trans hC; clear hC
    refine WN.next ?_
    refine WC.condF rfl rfl ?_
    refine WC.skip ?_
    refine WN.normalBlock ?_
    refine WN.next ?_
    refine WC.region ?_
    refine WL.u rfl rfl (Wt.plain rfl) (Ex.move rfl) ?_
    refine WL.u rfl rfl (Wt.plain rfl) (Ex.add rfl rfl (by omega)) ?_
    refine WL.u rfl rfl (Wt.plain rfl) (Ex.assign rfl) ?_
    refine WL.last ?_
    refine WN.round (i + 1) (by exact ⟨rfl, rfl, rfl, trivial⟩) ?_ ?_
    · exact ⟨hD, by rw [fitTo, hf]; exact (keepB_iff _ _ _).2 (by omega), by omega⟩
    · (try dsimp only); omega
  have hc1' := hc1; try simp only [decide_eq_true_eq, decide_eq_false_iff_not, Bool.not_eq_true', Bool.not_eq_false', Bool.not_eq_true, Bool.not_eq_false] at hc1'
  refine WC.exit ?_
  refine WN.exitThen ?_
  refine WN.exitThen ?_
  refine WN.exitHere ?_
  refine WN.next ?_
  refine WC.seq ?_
  refine WC.region ?_
  refine WL.u rfl rfl (Wt.plain rfl) (Ex.assign rfl) ?_
  refine WL.next ?_
  refine WC.ret ?_
  refine WN.body1 rfl rfl ?_
  have hiN : i = ports g := by omega
  subst hiN
  exact ⟨by rw [show fitB g ans = true from hf], hD⟩

theorem sl8All (n m : Nat) (ans : List Int) (a : Option Addr) (cap : Nat) (w : World) (ha : Sl rInt w a ans) (hA : AnsOk n m ans) : Fn Try.prog 63 [vint n, vint m, .slice a ans.length cap] w (fun v w1 => Keep [] w w1 ∧ NewGs w w1 v (fits n m ans)) := by
  refine Fn.enter (n := 32) Try.func63 rfl rfl rfl ?_
  show WC _ _ _ _ [(0, vint n), (1, vint m), (2, .slice a ans.length cap)] _
  have hH := Hp.start [] w
  obtain ⟨h1, h2, h3, h4, h9, hl, hbd⟩ := id hA
  have hp81 := hA.pow
  have hmI : (n : Int) * (m : Int) = ((n * m : Nat) : Int) := (Int.natCast_mul n m).symm
  refine WC.seq ?_
  refine WC.region ?_
  refine WL.u rfl rfl (Wt.plain rfl) (Ex.assign rfl) ?_
  refine WL.next ?_
  refine WC.seq ?_
  refine WC.region ?_
  refine WL.lit0 Try.underlying56 ty22 rfl (Wt.plain rfl) hH (fun b10 wn hb10 hk10 hH => ?_)
  have ho10 := Own.nil rHd
  refine WL.u rfl rfl (Wt.plain rfl) (Ex.assign rfl) ?_
  refine WL.next ?_
  refine WC.seq ?_
  refine WC.seq ?_
  refine WC.region ?_
  refine WL.u rfl rfl (Wt.plain rfl) (Ex.assign rfl) ?_
  refine WL.next ?_
  refine WC.block ?_
  refine WC.loop (ι := Nat × Nat × Nat × (Array Value) × (List Hd)) (fun (i, b10, cap10, cur10, hs) => [(0, vint n), (1, vint m), (2, .slice a ans.length cap), (7, vsl b10 hs.length cap10), (8, vint i)]) (fun (i, b10, cap10, cur10, hs) wn => Hp [] w wn [(b10, .cells cur10 22 (0, 0))] ∧ Own rHd cur10 cap10 hs ∧ Gs w.heap.size [b10] wn hs (fitL n m ans i) ∧ i ≤ 3 ^ (n * m)) (fun (i, b10, cap10, cur10, hs) => 3 ^ (n * m) - i) ((0, b10, 0, #[], [])) (by exact ⟨rfl, rfl, rfl, rfl, rfl, trivial⟩) ?_ ?_
  · exact ⟨hH, ho10, Gs.nil _ _ _, Nat.zero_le _⟩
  rintro ⟨i, b10, cap10, cur10, hs⟩ wn ⟨hH, ho10, hgs, hi⟩
  have hfl := fitL_le n m ans i
  have hsl := hgs.len
  intro mu0 hmu; try dsimp only at hmu
  show WC _ _ _ _ [(0, vint n), (1, vint m), (2, .slice a ans.length cap), (7, vsl b10 hs.length cap10), (8, vint i)] _
  refine WC.seq ?_
  refine WC.seq ?_
  refine WC.region ?_
  refine WL.u rfl rfl (Wt.plain rfl) (Ex.move rfl) ?_
  refine WL.u rfl rfl (Wt.plain rfl) (Ex.move rfl) ?_
  refine WL.u rfl rfl (Wt.plain rfl) (Ex.move rfl) ?_
  refine WL.u rfl rfl (Wt.plain rfl) ((Ex.mul rfl rfl (by omega)).to (congrArg (Value.int IntKind.i64) hmI)) ?_
  refine WL.call callable80 rfl (Wt.plain rfl) rfl rfl (sl1Power (n * m) _ _ rfl (by omega)) ?_
  rintro _ _ ⟨rfl, hw⟩; obtain rfl := hw.symm
  refine WL.u rfl rfl (Wt.plain rfl) (Ex.lss rfl rfl) ?_
  refine WL.next ?_
  refine WC.cond rfl (fun hc1 => ?_) (fun hc1 => ?_)
  · have hc1' := hc1; try simp only [decide_eq_true_eq, decide_eq_false_iff_not, Bool.not_eq_true', Bool.not_eq_false', Bool.not_eq_true, Bool.not_eq_false] at hc1'
    have hlt : i < 3 ^ (n * m) := by omega
    have hGi := hA.grid i
    have hPi := hA.ports i
    refine WC.skip ?_
    refine WN.next ?_
    refine WC.seq ?_
    refine WC.block ?_
    refine WC.seq ?_
    refine WC.region ?_
    refine WL.u rfl rfl (Wt.plain rfl) (Ex.move rfl) ?_
    refine WL.u rfl rfl (Wt.plain rfl) (Ex.move rfl) ?_
    refine WL.u rfl rfl (Wt.plain rfl) (Ex.move rfl) ?_
    refine WL.call callable81 rfl (Wt.plain rfl) rfl rfl (sl1Of n m i _ h2 h4 (by omega)) ?_
    rintro _ wn ⟨hC, hN⟩; obtain ⟨b22, cap22, cur22, rfl, hge22, hbb22, ho22⟩ := hN.own; replace hgs := hgs.kept hC; have hsz1 := hH.keep.size; replace hH := hH.push hC hge22 hbb22; clear hC hN
    refine WL.u rfl rfl (Wt.plain rfl) (Ex.assign rfl) ?_
    refine WL.next ?_
    refine WC.seq ?_
    refine WC.region ?_
    refine WL.u rfl rfl (Wt.plain rfl) (Ex.move rfl) ?_
    refine WL.call callable55 rfl (Wt.plain rfl) rfl rfl (sl2Pairs (numG n m i) _ _ _ (ho22.slAt hH 0 rfl) hGi) ?_
    rintro _ wn ⟨hC, hN⟩; obtain ⟨b24, cap24, cur24, rfl, hge24, hbb24, ho24⟩ := hN.own; replace hgs := hgs.kept hC; replace hH := hH.push hC hge24 hbb24; clear hC hN
    refine WL.u rfl rfl (Wt.plain rfl) (Ex.move rfl) ?_
    refine WL.call callable91 rfl (Wt.plain rfl) rfl rfl (sl8Fits (numG n m i) ans _ _ _ _ _ (ho24.slAt hH 0 rfl) (ha.kept hH.keep) hGi hPi.symm hbd) ?_
    rintro _ wn ⟨rfl, hC⟩; replace hgs := hgs.kept (hC.keep _); replace hH := hH.dr hC; clear hC
    refine WL.next ?_
    refine WC.cond rfl (fun hc2 => ?_) (fun hc2 => ?_)
    · have hc2' := hc2; try simp only [decide_eq_true_eq, decide_eq_false_iff_not, Bool.not_eq_true', Bool.not_eq_false', Bool.not_eq_true, Bool.not_eq_false] at hc2'
      have hblt := hH.lt 1 rfl
      dsimp only at hblt
      refine WC.region ?_
      refine WL.u rfl rfl (Wt.plain rfl) (Ex.move rfl) ?_
      refine WL.u rfl rfl (Wt.plain rfl) (Ex.move rfl) ?_
      replace hH := hH.f2
      refine WL.append1 (r := rHd) (u := ((some ⟨b22, 0, none⟩, (numG n m i).length, cap22) : Hd)) Try.underlying56 ty22 rfl rfl (fun _ => rfl) (fun _ => rfl) rfl rfl (Wt.plain rfl) (fun _ => (Wt.plain rfl)) hH ho10 rfl (by omega) (by omega) (fun b10 cap10 cur10 wn x10 hb10 hk10 hH ho10 => ?_)
      replace hgs := hgs.move hb10 hk10
      refine WL.u rfl rfl (Wt.plain rfl) (Ex.assign rfl) ?_
      refine WL.last ?_
      refine WN.normalBlock ?_
      refine WN.next ?_
      have hbb22b := (hH.at 2 rfl)
      have hnb2 := hH.nin 2 0 rfl rfl rfl
      dsimp only at hbb22b hnb2
      refine WC.region ?_
      refine WL.u rfl rfl (Wt.plain rfl) (Ex.move rfl) ?_
      refine WL.u rfl rfl (Wt.plain rfl) (Ex.add rfl rfl (by omega)) ?_
      refine WL.u rfl rfl (Wt.plain rfl) (Ex.assign rfl) ?_
      refine WL.last ?_
      replace hH := hH.first1
      refine WN.round (i + 1, b10, cap10, cur10, hs ++ [((some ⟨b22, 0, none⟩, (numG n m i).length, cap22) : Hd)]) (by exact ⟨rfl, rfl, rfl, rfl, rfl, trivial⟩) ?_ ?_
      · refine ⟨hH, ho10, ?_, by omega⟩
        rw [fitL, if_pos hc2]
        exact hgs.snoc ⟨b22, cap22, cur22, rfl, hnb2, by omega, hbb22b, ho22⟩
      · (try dsimp only); omega
    have hc2' := hc2; try simp only [decide_eq_true_eq, decide_eq_false_iff_not, Bool.not_eq_true', Bool.not_eq_false', Bool.not_eq_true, Bool.not_eq_false] at hc2'
    refine WC.skip ?_
    refine WN.normalBlock ?_
    refine WN.next ?_
    refine WC.region ?_
    refine WL.u rfl rfl (Wt.plain rfl) (Ex.move rfl) ?_
    refine WL.u rfl rfl (Wt.plain rfl) (Ex.add rfl rfl (by omega)) ?_
    refine WL.u rfl rfl (Wt.plain rfl) (Ex.assign rfl) ?_
    refine WL.last ?_
    replace hH := hH.f2
    replace hH := hH.first1
    refine WN.round (i + 1, b10, cap10, cur10, hs) (by exact ⟨rfl, rfl, rfl, rfl, rfl, trivial⟩) ?_ ?_
    · exact ⟨hH, ho10, by rw [fitL, if_neg (by rw [hc2]; decide)]; exact hgs, by omega⟩
    · (try dsimp only); omega
  have hc1' := hc1; try simp only [decide_eq_true_eq, decide_eq_false_iff_not, Bool.not_eq_true', Bool.not_eq_false', Bool.not_eq_true, Bool.not_eq_false] at hc1'
  refine WC.exit ?_
  refine WN.exitThen ?_
  refine WN.exitThen ?_
  refine WN.exitHere ?_
  refine WN.next ?_
  refine WC.seq ?_
  refine WC.region ?_
  refine WL.u rfl rfl (Wt.plain rfl) (Ex.move rfl) ?_
  refine WL.u rfl rfl (Wt.plain rfl) (Ex.assign rfl) ?_
  refine WL.next ?_
  refine WC.ret ?_
  refine WN.body1 rfl rfl ?_
  have hiN : i = 3 ^ (n * m) := by omega
  rw [hiN] at hgs
  exact ⟨hH.keep, hs, b10, cap10, cur10, rfl, hH.base 0 rfl, hH.at 0 rfl, ho10, hgs⟩

theorem iAskFit (n m : Int) (ans : List Int) (a : Option Addr) (cap : Nat) (w : World) (ha : Sl rInt w a ans) : Fn Try.prog 28 [vint n, vint m, .slice a ans.length cap] w (fun v w1 => v = .tuple #[vint (askFit n m ans).1, .bool (askFit n m ans).2] ∧ Keep [] w w1) := by
  refine Fn.enter (n := 18) Try.func28 rfl rfl rfl ?_
  show WC _ _ _ _ [(0, vint n), (1, vint m), (2, .slice a ans.length cap)] _
  have hH := Hp.start [] w
  refine WC.seq ?_
  refine WC.region ?_
  refine WL.u rfl rfl (Wt.plain rfl) (Ex.assign rfl) ?_
  refine WL.u rfl rfl (Wt.plain rfl) (Ex.assign rfl) ?_
  refine WL.next ?_
  refine WC.seq ?_
  refine WC.seq ?_
  refine WC.region ?_
  refine WL.u rfl rfl (Wt.plain rfl) (Ex.move rfl) ?_
  refine WL.u rfl rfl (Wt.plain rfl) (Ex.move rfl) ?_
  refine WL.u rfl rfl (Wt.plain rfl) (Ex.move rfl) ?_
  refine WL.call callable64 rfl (Wt.plain rfl) rfl rfl (ianswersOk n m ans _ _ _ (ha.kept hH.keep)) ?_
  rintro _ _ ⟨rfl, hw⟩; obtain rfl := hw.symm
  refine WL.u rfl rfl (Wt.plain rfl) (Ex.not rfl) ?_
  refine WL.next ?_
  refine WC.cond rfl (fun hc1 => ?_) (fun hc1 => ?_)
  · have hc1' := hc1; try simp only [decide_eq_true_eq, decide_eq_false_iff_not, Bool.not_eq_true', Bool.not_eq_false', Bool.not_eq_true, Bool.not_eq_false] at hc1'
    have hab : ansB n m ans = false := by simpa using hc1
    refine WC.seq ?_
    refine WC.region ?_
    refine WL.u rfl rfl (Wt.plain rfl) (Ex.assign rfl) ?_
    refine WL.u rfl rfl (Wt.plain rfl) (Ex.assign rfl) ?_
    refine WL.next ?_
    refine WC.ret ?_
    refine WN.retThen ?_
    refine WN.body2 rfl rfl rfl ?_
    exact ⟨by rw [askFit_not hab] <;> rfl, hH.keep⟩
  have hc1' := hc1; try simp only [decide_eq_true_eq, decide_eq_false_iff_not, Bool.not_eq_true', Bool.not_eq_false', Bool.not_eq_true, Bool.not_eq_false] at hc1'
  have hab : ansB n m ans = true := by simpa using hc1
  obtain ⟨n, m, rfl, rfl, hA⟩ := ansB_ex hab
  refine WC.skip ?_
  refine WN.next ?_
  refine WC.seq ?_
  refine WC.region ?_
  refine WL.u rfl rfl (Wt.plain rfl) (Ex.move rfl) ?_
  refine WL.u rfl rfl (Wt.plain rfl) (Ex.move rfl) ?_
  refine WL.u rfl rfl (Wt.plain rfl) (Ex.move rfl) ?_
  refine WL.call callable65 rfl (Wt.plain rfl) rfl rfl (ifits n m ans _ _ _ (ha.kept hH.keep) hA) ?_
  rintro _ wn ⟨hC, hN⟩; obtain ⟨hs, b16, cap16, cur16, rfl, hge16, hbb16, ho16, hgs⟩ := hN; replace hH := hH.push hC hge16 hbb16; clear hC
  refine WL.u rfl rfl (Wt.plain rfl) (Ex.lenSl Try.underlying56 rfl) ?_
  refine WL.u rfl rfl (Wt.plain rfl) (Ex.assign rfl) ?_
  refine WL.u rfl rfl (Wt.plain rfl) (Ex.assign rfl) ?_
  refine WL.next ?_
  refine WC.ret ?_
  refine WN.body2 rfl rfl rfl ?_
  exact ⟨by rw [askFit_at hA, ← hgs.len] <;> rfl, hH.keep⟩

theorem sAskFit (n m : Int) (ans : List Int) (a : Option Addr) (cap : Nat) (w : World) (ha : Sl rInt w a ans) : Fn Try.prog 26 [vint n, vint m, .slice a ans.length cap] w (fun v w1 => v = .tuple #[vint (askFit n m ans).1, .bool (askFit n m ans).2] ∧ Keep [] w w1) := by
  refine Fn.enter (n := 18) Try.func26 rfl rfl rfl ?_
  show WC _ _ _ _ [(0, vint n), (1, vint m), (2, .slice a ans.length cap)] _
  have hH := Hp.start [] w
  refine WC.seq ?_
  refine WC.region ?_
  refine WL.u rfl rfl (Wt.plain rfl) (Ex.assign rfl) ?_
  refine WL.u rfl rfl (Wt.plain rfl) (Ex.assign rfl) ?_
  refine WL.next ?_
  refine WC.seq ?_
  refine WC.seq ?_
  refine WC.region ?_
  refine WL.u rfl rfl (Wt.plain rfl) (Ex.move rfl) ?_
  refine WL.u rfl rfl (Wt.plain rfl) (Ex.move rfl) ?_
  refine WL.u rfl rfl (Wt.plain rfl) (Ex.move rfl) ?_
  refine WL.call callable62 rfl (Wt.plain rfl) rfl rfl (sl8Given n m ans _ _ _ (ha.kept hH.keep)) ?_
  rintro _ _ ⟨rfl, hw⟩; obtain rfl := hw.symm
  refine WL.u rfl rfl (Wt.plain rfl) (Ex.not rfl) ?_
  refine WL.next ?_
  refine WC.cond rfl (fun hc1 => ?_) (fun hc1 => ?_)
  · have hc1' := hc1; try simp only [decide_eq_true_eq, decide_eq_false_iff_not, Bool.not_eq_true', Bool.not_eq_false', Bool.not_eq_true, Bool.not_eq_false] at hc1'
    have hab : ansB n m ans = false := by simpa using hc1
    refine WC.seq ?_
    refine WC.region ?_
    refine WL.u rfl rfl (Wt.plain rfl) (Ex.assign rfl) ?_
    refine WL.u rfl rfl (Wt.plain rfl) (Ex.assign rfl) ?_
    refine WL.next ?_
    refine WC.ret ?_
    refine WN.retThen ?_
    refine WN.body2 rfl rfl rfl ?_
    exact ⟨by rw [askFit_not hab] <;> rfl, hH.keep⟩
  have hc1' := hc1; try simp only [decide_eq_true_eq, decide_eq_false_iff_not, Bool.not_eq_true', Bool.not_eq_false', Bool.not_eq_true, Bool.not_eq_false] at hc1'
  have hab : ansB n m ans = true := by simpa using hc1
  obtain ⟨n, m, rfl, rfl, hA⟩ := ansB_ex hab
  refine WC.skip ?_
  refine WN.next ?_
  refine WC.seq ?_
  refine WC.region ?_
  refine WL.u rfl rfl (Wt.plain rfl) (Ex.move rfl) ?_
  refine WL.u rfl rfl (Wt.plain rfl) (Ex.move rfl) ?_
  refine WL.u rfl rfl (Wt.plain rfl) (Ex.move rfl) ?_
  refine WL.call callable63 rfl (Wt.plain rfl) rfl rfl (sl8All n m ans _ _ _ (ha.kept hH.keep) hA) ?_
  rintro _ wn ⟨hC, hN⟩; obtain ⟨hs, b16, cap16, cur16, rfl, hge16, hbb16, ho16, hgs⟩ := hN; replace hH := hH.push hC hge16 hbb16; clear hC
  refine WL.u rfl rfl (Wt.plain rfl) (Ex.lenSl Try.underlying56 rfl) ?_
  refine WL.u rfl rfl (Wt.plain rfl) (Ex.assign rfl) ?_
  refine WL.u rfl rfl (Wt.plain rfl) (Ex.assign rfl) ?_
  refine WL.next ?_
  refine WC.ret ?_
  refine WN.body2 rfl rfl rfl ?_
  exact ⟨by rw [askFit_at hA, ← hgs.len] <;> rfl, hH.keep⟩

theorem toIntS (l : List Int) (a : Option Addr) (cap : Nat) (w : World) (hl : Sl rInt w a l) (hlen : l.length ≤ 1048576) : Fn Try.prog 27 [.slice a l.length cap] w (fun v w1 => Keep [] w w1 ∧ New rInt 3 w w1 v l) := by
  refine Fn.enter (n := 22) Try.func27 rfl rfl rfl ?_
  show WC _ _ _ _ [(0, .slice a l.length cap)] _
  have hH := Hp.start [] w
  refine WC.seq ?_
  refine WC.region ?_
  refine WL.u rfl rfl (Wt.plain rfl) (Ex.assign rfl) ?_
  refine WL.next ?_
  refine WC.seq ?_
  refine WC.region ?_
  refine WL.u rfl rfl (Wt.plain rfl) (Ex.move rfl) ?_
  refine WL.u rfl rfl (Wt.plain rfl) (Ex.lenSl Try.underlying24 rfl) ?_
  refine WL.makeSlice Try.underlying24 ty3 rfl rfl (by omega) (by omega) rfl (Wt.plain rfl) hH (fun b7 wn hb7 hk7 hH => ?_)
  have ho7 := Own.made rInt (z := vint 0) 0 rfl rfl (k := l.length) (by omega)
  refine WL.u rfl rfl (Wt.plain rfl) (Ex.assign rfl) ?_
  refine WL.next ?_
  refine WC.seq ?_
  refine WC.seq ?_
  refine WC.region ?_
  refine WL.u rfl rfl (Wt.plain rfl) (Ex.assign rfl) ?_
  refine WL.next ?_
  refine WC.block ?_
  refine WC.loop (ι := Nat × (Array Value) × (List Int)) (fun (i, cur7, q) => [(0, .slice a l.length cap), (3, vsl b7 l.length l.length), (4, vint i)]) (fun (i, cur7, q) wn => Hp [] w wn [(b7, .cells cur7 3 (0, 0))] ∧ Own rInt cur7 l.length q ∧ q.length = l.length ∧ i ≤ l.length ∧ ∀ j, j < i → q.getD j 0 = l.getD j 0) (fun (i, cur7, q) => l.length - i) ((0, madeCells (vint 0).cells (l.length * 1), List.replicate l.length 0)) (by exact ⟨rfl, rfl, rfl, trivial⟩) ?_ ?_
  · exact ⟨hH, ho7, by simp, by omega, fun j hj => by omega⟩
  rintro ⟨i, cur7, q⟩ wn ⟨hH, ho7, hll, hi, hI⟩
  intro mu0 hmu; try dsimp only at hmu
  show WC _ _ _ _ [(0, .slice a l.length cap), (3, vsl b7 l.length l.length), (4, vint i)] _
  refine WC.seq ?_
  refine WC.seq ?_
  refine WC.region ?_
  refine WL.u rfl rfl (Wt.plain rfl) (Ex.move rfl) ?_
  refine WL.u rfl rfl (Wt.plain rfl) (Ex.move rfl) ?_
  refine WL.u rfl rfl (Wt.plain rfl) (Ex.lenSl Try.underlying24 rfl) ?_
  refine WL.u rfl rfl (Wt.plain rfl) (Ex.lss rfl rfl) ?_
  refine WL.next ?_
  refine WC.cond rfl (fun hc1 => ?_) (fun hc1 => ?_)
  · have hc1' := hc1; try simp only [decide_eq_true_eq, decide_eq_false_iff_not, Bool.not_eq_true', Bool.not_eq_false', Bool.not_eq_true, Bool.not_eq_false] at hc1'
    have hlt : i < l.length := by omega
    obtain ⟨b, off, rfl⟩ := hl.addr (by omega)
    refine WC.skip ?_
    refine WN.next ?_
    refine WC.seq ?_
    refine WC.block ?_
    refine WC.region ?_
    refine WL.u rfl rfl (Wt.plain rfl) (Ex.move rfl) ?_
    refine WL.u rfl rfl (Wt.plain rfl) (Ex.move rfl) ?_
    refine WL.u rfl rfl (Wt.plain rfl) (Ex.move rfl) ?_
    refine WL.u rfl rfl (Wt.plain rfl) (Ex.move rfl) ?_
    refine WL.u rfl rfl (Wt.plain rfl) (Ex.indexAddr Try.underlying24 ty3 rfl rfl (by omega)) ?_
    refine WL.u rfl rfl (Wt.plain rfl) (Ex.loadSl flat3 (hl.kept hH.keep) rfl rfl (getD_get l i 0 hlt)) ?_
    refine WL.u rfl rfl (Wt.plain rfl) (Ex.indexAddr Try.underlying24 ty3 rfl rfl (by omega)) ?_
    refine WL.store1 ty3 rfl rfl rfl (Wt.plain rfl) hH (ho7.idx rfl (by omega)) (by simp) (fun wn hk hH => ?_)
    replace ho7 := ho7.set rfl i (l.getD i 0)
    refine WL.last ?_
    refine WN.normalBlock ?_
    refine WN.next ?_
    refine WC.region ?_
    refine WL.u rfl rfl (Wt.plain rfl) (Ex.move rfl) ?_
    refine WL.u rfl rfl (Wt.plain rfl) (Ex.add rfl rfl (by omega)) ?_
    refine WL.u rfl rfl (Wt.plain rfl) (Ex.assign rfl) ?_
    refine WL.last ?_
    refine WN.round (i + 1, cur7.setIfInBounds (0 + (i : Int).toNat * 1) (rInt.val (l.getD i 0)), q.set i (l.getD i 0)) (by exact ⟨rfl, rfl, rfl, trivial⟩) ?_ ?_
    · refine ⟨hH, ho7, by simp [hll], by omega, fun j hj => ?_⟩
      rw [List.getD_eq_getElem?_getD, List.getElem?_set]
      by_cases e : i = j
      · subst e; rw [if_pos rfl, if_pos (by omega)]; rfl
      · rw [if_neg e, ← List.getD_eq_getElem?_getD]; exact hI j (by omega)
    · (try dsimp only); omega
  have hc1' := hc1; try simp only [decide_eq_true_eq, decide_eq_false_iff_not, Bool.not_eq_true', Bool.not_eq_false', Bool.not_eq_true, Bool.not_eq_false] at hc1'
  refine WC.exit ?_
  refine WN.exitThen ?_
  refine WN.exitThen ?_
  refine WN.exitHere ?_
  refine WN.next ?_
  refine WC.seq ?_
  refine WC.region ?_
  refine WL.u rfl rfl (Wt.plain rfl) (Ex.move rfl) ?_
  refine WL.u rfl rfl (Wt.plain rfl) (Ex.assign rfl) ?_
  refine WL.next ?_
  refine WC.ret ?_
  refine WN.body1 rfl rfl ?_
  have e := ext_int hll (fun j hj => hI j (by omega))
  have hN := New.of hH ho7 (hH.base 0 rfl)
  rw [e] at hN
  exact ⟨hH.keep, hN⟩

theorem lawExactAskFit (n m : Int) (ans : List Int) (a : Option Addr) (cap : Nat) (w : World) (ha : Sl rInt w a ans) (hb : ∀ x ∈ ans, -9223372036854775808 ≤ x ∧ x ≤ 9223372036854775807) : Fn Try.prog 4 [vint n, vint m, .slice a ans.length cap] w (fun v w1 => v = .bool true ∧ Keep [] w w1) := by
  refine Fn.enter (n := 45) Try.func4 rfl rfl rfl ?_
  show WC _ _ _ _ [(0, vint n), (1, vint m), (2, .slice a ans.length cap)] _
  have hH := Hp.start [] w
  refine WC.seq ?_
  refine WC.region ?_
  refine WL.u rfl rfl (Wt.plain rfl) (Ex.assign rfl) ?_
  refine WL.next ?_
  refine WC.seq ?_
  refine WC.seq ?_
  refine WC.region ?_
  refine WL.u rfl rfl (Wt.plain rfl) (Ex.move rfl) ?_
  refine WL.u rfl rfl (Wt.plain rfl) (Ex.lenSl Try.underlying24 rfl) ?_
  refine WL.u rfl rfl (Wt.plain rfl) (Ex.gtr rfl rfl) ?_
  refine WL.next ?_
  refine WC.cond rfl (fun hc1 => ?_) (fun hc1 => ?_)
  · have hc1' := hc1; try simp only [decide_eq_true_eq, decide_eq_false_iff_not, Bool.not_eq_true', Bool.not_eq_false', Bool.not_eq_true, Bool.not_eq_false] at hc1'
    refine WC.seq ?_
    refine WC.region ?_
    refine WL.u rfl rfl (Wt.plain rfl) (Ex.assign rfl) ?_
    refine WL.next ?_
    refine WC.ret ?_
    refine WN.retThen ?_
    refine WN.body1 rfl rfl ?_
    exact ⟨rfl, hH.keep⟩
  have hc1' := hc1; try simp only [decide_eq_true_eq, decide_eq_false_iff_not, Bool.not_eq_true', Bool.not_eq_false', Bool.not_eq_true, Bool.not_eq_false] at hc1'
  refine WC.skip ?_
  refine WN.next ?_
  refine WC.seq ?_
  refine WC.region ?_
  refine WL.u rfl rfl (Wt.plain rfl) (Ex.move rfl) ?_
  refine WL.u rfl rfl (Wt.plain rfl) (Ex.move rfl) ?_
  refine WL.u rfl rfl (Wt.plain rfl) (Ex.move rfl) ?_
  refine WL.call callable27 rfl (Wt.plain rfl) rfl rfl (toIntS ans _ _ _ (ha.kept hH.keep) (by omega)) ?_
  rintro _ wn ⟨hC, hN⟩; obtain ⟨b101, cap101, cur101, rfl, hge, hbb, ho101⟩ := hN.own; replace hH := hH.push hC hge hbb; clear hC hN
  refine WL.call callable26 rfl (Wt.plain rfl) rfl rfl (sAskFit n m ans _ _ _ (ho101.slAt hH 0 rfl)) ?_
  rintro _ wn ⟨rfl, hC⟩; replace hH := hH.call hC; clear hC
  refine WL.u rfl rfl (Wt.plain rfl) (Ex.move rfl) ?_
  refine WL.u rfl rfl (Wt.plain rfl) (Ex.extract rfl rfl) ?_
  refine WL.u rfl rfl (Wt.plain rfl) (Ex.extract rfl rfl) ?_
  refine WL.u rfl rfl (Wt.plain rfl) (Ex.assign rfl) ?_
  refine WL.u rfl rfl (Wt.plain rfl) (Ex.assign rfl) ?_
  refine WL.next ?_
  refine WC.seq ?_
  refine WC.region ?_
  refine WL.u rfl rfl (Wt.plain rfl) (Ex.move rfl) ?_
  refine WL.call callable27 rfl (Wt.plain rfl) rfl rfl (toIntS ans _ _ _ (ha.kept hH.keep) (by omega)) ?_
  rintro _ wn ⟨hC, hN⟩; obtain ⟨b102, cap102, cur102, rfl, hge, hbb, ho102⟩ := hN.own; replace hH := hH.push hC hge hbb; clear hC hN
  refine WL.u rfl rfl (Wt.plain rfl) (Ex.assign rfl) ?_
  refine WL.next ?_
  refine WC.seq ?_
  refine WC.region ?_
  refine WL.u rfl rfl (Wt.plain rfl) (Ex.move rfl) ?_
  refine WL.u rfl rfl (Wt.plain rfl) (Ex.move rfl) ?_
  refine WL.u rfl rfl (Wt.plain rfl) (Ex.move rfl) ?_
  refine WL.call callable28 rfl (Wt.plain rfl) rfl rfl (iAskFit n m ans _ _ _ (ho102.slAt hH 0 rfl)) ?_
  rintro _ wn ⟨rfl, hC⟩; replace hH := hH.call hC; clear hC
  refine WL.u rfl rfl (Wt.plain rfl) (Ex.move rfl) ?_
  refine WL.u rfl rfl (Wt.plain rfl) (Ex.extract rfl rfl) ?_
  refine WL.u rfl rfl (Wt.plain rfl) (Ex.extract rfl rfl) ?_
  refine WL.u rfl rfl (Wt.plain rfl) (Ex.assign rfl) ?_
  refine WL.u rfl rfl (Wt.plain rfl) (Ex.assign rfl) ?_
  refine WL.next ?_
  refine WC.seq ?_
  refine WC.seq ?_
  refine WC.region ?_
  refine WL.u rfl rfl (Wt.plain rfl) (Ex.move rfl) ?_
  refine WL.u rfl rfl (Wt.plain rfl) (Ex.move rfl) ?_
  refine WL.u rfl rfl (Wt.plain rfl) (Ex.neq rfl rfl) ?_
  refine WL.u rfl rfl (Wt.plain rfl) (Ex.move rfl) ?_
  refine WL.split (t := 35) rfl (fun hg6_3 => ?_) (fun hg6_3 => ?_)
  · exfalso; simp at hg6_3
  have hg6_3' := hg6_3; try simp only [decide_eq_true_eq, decide_eq_false_iff_not, Bool.not_eq_true', Bool.not_eq_false', Bool.not_eq_true, Bool.not_eq_false] at hg6_3'
  refine WL.u rfl rfl (Wt.guard' rfl rfl rfl hg6_3 rfl) (Ex.move rfl) ?_
  refine WL.u rfl rfl (Wt.guard' rfl rfl rfl hg6_3 rfl) (Ex.move rfl) ?_
  refine WL.u rfl rfl (Wt.guard' rfl rfl rfl hg6_3 rfl) (Ex.neqB Try.underlying4 rfl rfl) ?_
  refine WL.u rfl rfl (Wt.plain rfl) (Ex.pickF rfl hg6_3 rfl) ?_
  refine WL.next ?_
  refine WC.condF rfl (by simp) ?_
  refine WC.skip ?_
  refine WN.next ?_
  refine WC.seq ?_
  refine WC.seq ?_
  refine WC.region ?_
  refine WL.u rfl rfl (Wt.plain rfl) (Ex.move rfl) ?_
  refine WL.u rfl rfl (Wt.plain rfl) (Ex.move rfl) ?_
  refine WL.call callable27 rfl (Wt.plain rfl) rfl rfl (toIntS ans _ _ _ (ha.kept hH.keep) (by omega)) ?_
  rintro _ wn ⟨hC, hN⟩; obtain ⟨b103, cap103, cur103, rfl, hge, hbb, ho103⟩ := hN.own; replace hH := hH.push hC hge hbb; clear hC hN
  refine WL.call callable21 rfl (Wt.plain rfl) rfl rfl (eqIntS ans ans _ _ _ _ _ (ho102.slAt hH 1 rfl) (ho103.slAt hH 0 rfl)) ?_
  rintro _ wn ⟨rfl, hC⟩; replace hH := hH.dr hC; clear hC
  refine WL.u rfl rfl (Wt.plain rfl) (Ex.not rfl) ?_
  refine WL.next ?_
  refine WC.condF rfl (by simp) ?_
  refine WC.skip ?_
  refine WN.next ?_
  refine WC.seq ?_
  refine WC.region ?_
  refine WL.u rfl rfl (Wt.plain rfl) (Ex.assign rfl) ?_
  refine WL.next ?_
  refine WC.ret ?_
  refine WN.body1 rfl rfl ?_
  exact ⟨rfl, hH.keep⟩

end Go.Proofs.Ytmlefpddjfonlaa
