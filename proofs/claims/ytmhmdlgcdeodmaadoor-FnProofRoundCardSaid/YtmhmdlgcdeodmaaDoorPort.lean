/- Are there a grid and a port; the ways of a beam as letters; proofs of beams. -/
import Derived.Test.YtmhmdlgcdeodmaaDoorWays
namespace Go.Proofs.YtmhmdlgcdeodmaaDoor
set_option maxRecDepth 100000
set_option linter.unusedSimpArgs false
set_option linter.unusedVariables false
open Go Go.RowKit

theorem urdl {d : Nat} (hd : d < 4) : vstr ((([117, 114, 100, 108] : List UInt8).drop (d : Int).toNat).take (((d : Int) + 1).toNat - (d : Int).toNat)) = vstr [dirL d] := by
  obtain h | h | h | h : d = 0 ∨ d = 1 ∨ d = 2 ∨ d = 3 := by omega
  all_goals (subst h; rfl)
theorem take_snoc {α : Type} {l : List α} {i : Nat} {x : α} (h : l[i]? = some x) : l.take (i + 1) = l.take i ++ [x] := by
  have hi := (List.getElem?_eq_some_iff.1 h)
  obtain ⟨h1, h2⟩ := hi
  rw [List.take_add_one, h]; rfl
theorem getD_get' {α : Type} [Inhabited α] (l : List α) (i : Nat) (h : i < l.length) : l[i]? = some (l.getD i default) := getD_get l i default h

theorem iportOk (g : Grid) (a : Option Addr) (cap : Nat) (port : Int) (w : World) (hg : Sl rStr w a g) (hs : Short g) : Fn Tryd.prog 81 [.slice a g.length cap, vint port] w (fun v w1 => v = .bool (portIn g port) ∧ w1 = w) := by
  refine Fn.enter (n := 14) Tryd.func81 rfl rfl rfl ?_
  show WC _ _ _ _ [(0, .slice a g.length cap), (1, vint port)] _
  refine WC.seq ?_
  refine WC.region ?_
  refine WL.u rfl rfl (Wt.plain rfl) (Ex.assign rfl) ?_
  refine WL.next ?_
  refine WC.seq ?_
  refine WC.region ?_
  refine WL.u rfl rfl (Wt.plain rfl) (Ex.move rfl) ?_
  refine WL.call callable34 rfl (Wt.plain rfl) rfl rfl (iGridIn _ _ _ _ hg hs) ?_
  rintro _ _ ⟨rfl, hw⟩; obtain rfl := hw.symm
  refine WL.u rfl rfl (Wt.plain rfl) (Ex.move rfl) ?_
  refine WL.split (t := 7) rfl (fun hg1_2 => ?_) (fun hg1_2 => ?_)
  · have hg1_2' := hg1_2; try simp only [decide_eq_true_eq, decide_eq_false_iff_not, Bool.not_eq_true', Bool.not_eq_false', Bool.not_eq_true, Bool.not_eq_false] at hg1_2'
    have hG := (gridOk_iff g).1 hg1_2
    have hpl := ports_le hG
    refine WL.u rfl rfl (Wt.guard' rfl rfl rfl hg1_2 rfl) (Ex.move rfl) ?_
    refine WL.u rfl rfl (Wt.guard' rfl rfl rfl hg1_2 rfl) (Ex.move rfl) ?_
    refine WL.call callable65 rfl (Wt.guard' rfl rfl rfl hg1_2 rfl) rfl rfl (iportMany _ _ _ _ hg hG) ?_
    rintro _ _ ⟨rfl, hw⟩; obtain rfl := hw.symm
    refine WL.u rfl rfl (Wt.guard' rfl rfl rfl hg1_2 rfl) (Ex.sub rfl rfl (by omega)) ?_
    refine WL.call callable58 rfl (Wt.guard' rfl rfl rfl hg1_2 rfl) rfl rfl (iwithin _ _ _ _) ?_
    rintro _ _ ⟨rfl, hw⟩; obtain rfl := hw.symm
    refine WL.u rfl rfl (Wt.plain rfl) (Ex.pickT rfl hg1_2 rfl) ?_
    refine WL.u rfl rfl (Wt.plain rfl) (Ex.assign rfl) ?_
    refine WL.next ?_
    refine WC.ret ?_
    refine WN.body1 rfl rfl ?_
    refine ⟨congrArg Value.bool ?_, rfl⟩
    rw [portIn, hg1_2, Bool.true_and, decide_eq_decide]; omega
  have hg1_2' := hg1_2; try simp only [decide_eq_true_eq, decide_eq_false_iff_not, Bool.not_eq_true', Bool.not_eq_false', Bool.not_eq_true, Bool.not_eq_false] at hg1_2'
  refine WL.pass rfl rfl (Wt.guard' rfl rfl rfl hg1_2 rfl) ?_
  refine WL.pass rfl rfl (Wt.guard' rfl rfl rfl hg1_2 rfl) ?_
  refine WL.pass rfl rfl (Wt.guard' rfl rfl rfl hg1_2 rfl) ?_
  refine WL.pass rfl rfl (Wt.guard' rfl rfl rfl hg1_2 rfl) ?_
  refine WL.pass rfl rfl (Wt.guard' rfl rfl rfl hg1_2 rfl) ?_
  refine WL.u rfl rfl (Wt.plain rfl) (Ex.pickF rfl hg1_2 rfl) ?_
  refine WL.u rfl rfl (Wt.plain rfl) (Ex.assign rfl) ?_
  refine WL.next ?_
  refine WC.ret ?_
  refine WN.body1 rfl rfl ?_
  exact ⟨congrArg Value.bool (by rw [portIn, hg1_2]; rfl), rfl⟩

theorem iwaysOf (l : List (Nat × Nat)) (a : Option Addr) (cap : Nat) (w : World) (hl : Sl rStep w a l) (hd : ∀ s ∈ l, s.2 < 4) (hlen : l.length ≤ 1000) : Fn Tryd.prog 64 [.slice a l.length cap] w (fun v w1 => v = vstr (l.map fun s => dirL s.2) ∧ Keep [] w w1) := by
  refine Fn.enter (n := 22) Tryd.func64 rfl rfl rfl ?_
  show WC _ _ _ _ [(0, .slice a l.length cap)] _
  have hH := Hp.start [] w
  refine WC.seq ?_
  refine WC.region ?_
  refine WL.u rfl rfl (Wt.plain rfl) (Ex.assign rfl) ?_
  refine WL.next ?_
  refine WC.seq ?_
  refine WC.region ?_
  refine WL.u rfl rfl (Wt.plain rfl) (Ex.assign rfl) ?_
  refine WL.next ?_
  refine WC.seq ?_
  refine WC.seq ?_
  refine WC.region ?_
  refine WL.u rfl rfl (Wt.plain rfl) (Ex.move rfl) ?_
  refine WL.u rfl rfl (Wt.plain rfl) (Ex.lenSl Tryd.underlying61 rfl) ?_
  refine WL.u rfl rfl (Wt.plain rfl) (Ex.move rfl) ?_
  refine WL.next ?_
  refine WC.block ?_
  refine WC.loop (ι := Nat) (fun i => [(3, vstr ((l.take i).map fun s => dirL s.2)), (6, .slice a l.length cap), (7, vint l.length), (8, vint i)]) (fun i wn => Hp [] w wn [] ∧ i ≤ l.length) (fun i => l.length - i) (0) (by exact ⟨rfl, rfl, rfl, rfl, trivial⟩) ?_ ?_
  · exact ⟨hH, by omega⟩
  rintro i wn ⟨hH, hi⟩
  intro mu0 hmu; try dsimp only at hmu
  show WC _ _ _ _ [(3, vstr ((l.take i).map fun s => dirL s.2)), (6, .slice a l.length cap), (7, vint l.length), (8, vint i)] _
  refine WC.seq ?_
  refine WC.region ?_
  refine WL.u rfl rfl (Wt.plain rfl) (Ex.lss rfl rfl) ?_
  refine WL.next ?_
  refine WC.seq ?_
  refine WC.cond rfl (fun hc1 => ?_) (fun hc1 => ?_)
  · have hc1' := hc1; try simp only [decide_eq_true_eq, decide_eq_false_iff_not, Bool.not_eq_true', Bool.not_eq_false', Bool.not_eq_true, Bool.not_eq_false] at hc1'
    have hlt : i < l.length := by omega
    obtain ⟨b, off, rfl⟩ := hl.addr (by omega)
    have hget := getD_get l i (0, 0) hlt
    have hd4 := hd _ (List.mem_of_getElem? hget)
    have hts : (l.take (i + 1)).map (fun s => dirL s.2) = (l.take i).map (fun s => dirL s.2) ++ [dirL (l.getD i (0, 0)).2] := by rw [take_snoc hget, List.map_append]; rfl
    have hlm : ((l.take i).map (fun s => dirL s.2)).length ≤ 1000 := by rw [List.length_map, List.length_take]; omega
    refine WC.skip ?_
    refine WN.next ?_
    refine WC.seq ?_
    refine WC.block ?_
    refine WC.seq ?_
    refine WC.region ?_
    refine WL.u rfl rfl (Wt.plain rfl) (Ex.indexAddr Tryd.underlying61 ty48 rfl rfl (by omega)) ?_
    refine WL.u rfl rfl (Wt.plain rfl) (Ex.loadSlS Tryd.underlying48 ty48 (hl.kept hH.keep) rfl (hget) rfl) ?_
    refine WL.alloc ty48 rfl rfl (Wt.plain rfl) hH (fun b5 wn hb5 hk5 hH => ?_)
    refine WL.store2 ty48 rfl rfl rfl rfl (Wt.plain rfl) hH (fun wn hk hH => ?_)
    refine WL.next ?_
    refine WC.region ?_
    refine WL.u rfl rfl (Wt.plain rfl) (Ex.move rfl) ?_
    refine WL.u rfl rfl (Wt.plain rfl) (Ex.fieldAddr fd48_1 rfl) ?_
    refine WL.u rfl rfl (Wt.plain rfl) (Ex.loadHp flat3 rfl hH rfl) ?_
    refine WL.u rfl rfl (Wt.plain rfl) (Ex.fieldAddr fd48_1 rfl) ?_
    refine WL.u rfl rfl (Wt.plain rfl) (Ex.loadHp flat3 rfl hH rfl) ?_
    refine WL.u rfl rfl (Wt.plain rfl) (Ex.add rfl rfl (by omega)) ?_
    refine WL.u rfl rfl (Wt.plain rfl) ((Ex.sliceStr Tryd.underlying9 rfl rfl rfl (by simp only [List.length_cons, List.length_nil]; omega)).to (urdl hd4)) ?_
    refine WL.u rfl rfl (Wt.plain rfl) (Ex.concat rfl rfl (by simp only [List.length_singleton]; omega)) ?_
    refine WL.u rfl rfl (Wt.plain rfl) (Ex.assign rfl) ?_
    refine WL.last ?_
    refine WN.normalBlock ?_
    refine WN.next ?_
    refine WC.region ?_
    refine WL.u rfl rfl (Wt.plain rfl) (Ex.add rfl rfl (by omega)) ?_
    refine WL.u rfl rfl (Wt.plain rfl) (Ex.move rfl) ?_
    refine WL.last ?_
    replace hH := hH.first0
    refine WN.round (i + 1) (by exact ⟨congrArg (fun x => some (vstr x)) hts.symm, rfl, rfl, rfl, trivial⟩) ?_ ?_
    · exact ⟨hH, by omega⟩
    · (try dsimp only); omega
  have hc1' := hc1; try simp only [decide_eq_true_eq, decide_eq_false_iff_not, Bool.not_eq_true', Bool.not_eq_false', Bool.not_eq_true, Bool.not_eq_false] at hc1'
  refine WC.exit ?_
  refine WN.exitThen ?_
  refine WN.exitThen ?_
  refine WN.exitHere ?_
  refine WN.next ?_
  refine WC.seq ?_
  refine WC.region ?_
  refine WL.u rfl rfl (Wt.plain rfl) (Ex.move rfl) ?_
  refine WL.u rfl rfl (Wt.plain rfl) (Ex.assign rfl) ?_
  refine WL.next ?_
  refine WC.ret ?_
  refine WN.body1 rfl rfl ?_
  have hieq : i = l.length := by omega
  subst hieq
  exact ⟨by rw [List.take_length], hH.keep⟩

theorem sl12Ways (l : List Nat) (a : Option Addr) (cap : Nat) (w : World) (hl : Sl rNat w a l) (hd : ∀ s ∈ l, s < 4) (hlen : l.length ≤ 1000) : Fn Tryd.prog 49 [.slice a l.length cap] w (fun v w1 => v = vstr (l.map dirL) ∧ Dr w w1) := by
  refine Fn.enter (n := 24) Tryd.func49 rfl rfl rfl ?_
  show WC _ _ _ _ [(0, .slice a l.length cap)] _
  have hD := Dr.refl w
  refine WC.seq ?_
  refine WC.region ?_
  refine WL.u rfl rfl (Wt.plain rfl) (Ex.assign rfl) ?_
  refine WL.next ?_
  refine WC.seq ?_
  refine WC.region ?_
  refine WL.u rfl rfl (Wt.plain rfl) (Ex.assign rfl) ?_
  refine WL.next ?_
  refine WC.seq ?_
  refine WC.seq ?_
  refine WC.region ?_
  refine WL.u rfl rfl (Wt.plain rfl) (Ex.assign rfl) ?_
  refine WL.next ?_
  refine WC.block ?_
  refine WC.loop (ι := Nat) (fun i => [(0, .slice a l.length cap), (3, vstr ((l.take i).map dirL)), (4, vint i)]) (fun i wn => Dr w wn ∧ i ≤ l.length) (fun i => l.length - i) (0) (by exact ⟨rfl, rfl, rfl, trivial⟩) ?_ ?_
  · exact ⟨hD, by omega⟩
  rintro i wn ⟨hD, hi⟩
  intro mu0 hmu; try dsimp only at hmu
  show WC _ _ _ _ [(0, .slice a l.length cap), (3, vstr ((l.take i).map dirL)), (4, vint i)] _
  refine WC.seq ?_
  refine WC.seq ?_
  refine WC.region ?_
  refine WL.u rfl rfl (Wt.plain rfl) (Ex.move rfl) ?_
  refine WL.u rfl rfl (Wt.plain rfl) (Ex.move rfl) ?_
  refine WL.u rfl rfl (Wt.plain rfl) (Ex.lenSl Tryd.underlying34 rfl) ?_
  refine WL.u rfl rfl (Wt.plain rfl) (Ex.lss rfl rfl) ?_
  refine WL.next ?_
  refine WC.cond rfl (fun hc1 => ?_) (fun hc1 => ?_)
  · have hc1' := hc1; try simp only [decide_eq_true_eq, decide_eq_false_iff_not, Bool.not_eq_true', Bool.not_eq_false', Bool.not_eq_true, Bool.not_eq_false] at hc1'
    have hlt : i < l.length := by omega
    obtain ⟨b, off, rfl⟩ := hl.addr (by omega)
    have hget := getD_get l i 0 hlt
    have hd4 := hd _ (List.mem_of_getElem? hget)
    have hts : (l.take (i + 1)).map dirL = (l.take i).map dirL ++ [dirL (l.getD i 0)] := by rw [take_snoc hget, List.map_append]; rfl
    have hlm : ((l.take i).map dirL).length ≤ 1000 := by rw [List.length_map, List.length_take]; omega
    refine WC.skip ?_
    refine WN.next ?_
    refine WC.seq ?_
    refine WC.block ?_
    refine WC.quiet rfl (by kernel_rfl) ?_
    refine WQ.u rfl rfl (Wt.plain rfl) (fun w hC => Ex.move rfl) ?_
    refine WQ.u rfl rfl (Wt.plain rfl) (fun w hC => Ex.move rfl) ?_
    refine WQ.u rfl rfl (Wt.plain rfl) (fun w hC => Ex.move rfl) ?_
    refine WQ.u rfl rfl (Wt.plain rfl) (fun w hC => Ex.indexAddr Tryd.underlying34 ty3 rfl rfl (by omega)) ?_
    refine WQ.u rfl rfl (Wt.plain rfl) (fun w hC => Ex.loadSl flat3 (hl.dr (hD.trans hC)) rfl rfl (hget)) ?_
    refine WQ.u rfl rfl (Wt.plain rfl) (fun w hC => Ex.move rfl) ?_
    refine WQ.u rfl rfl (Wt.plain rfl) (fun w hC => Ex.move rfl) ?_
    refine WQ.u rfl rfl (Wt.plain rfl) (fun w hC => Ex.indexAddr Tryd.underlying34 ty3 rfl rfl (by omega)) ?_
    refine WQ.u rfl rfl (Wt.plain rfl) (fun w hC => Ex.loadSl flat3 (hl.dr (hD.trans hC)) rfl rfl (hget)) ?_
    refine WQ.u rfl rfl (Wt.plain rfl) (fun w hC => Ex.add rfl rfl (by omega)) ?_
    refine WQ.u rfl rfl (Wt.plain rfl) (fun w hC => (Ex.sliceStr Tryd.underlying9 rfl rfl rfl (by simp only [List.length_cons, List.length_nil]; omega)).to (urdl hd4)) ?_
    refine WQ.u rfl rfl (Wt.plain rfl) (fun w hC => Ex.concat rfl rfl (by simp only [List.length_singleton]; omega)) ?_
    refine WQ.u rfl rfl (Wt.plain rfl) (fun w hC => Ex.assign rfl) ?_
    refine WQ.nil ?_
    intro wn hC; replace hD := hD.trans hC; clear hC
    refine WN.normalBlock ?_
    refine WN.next ?_
    refine WC.region ?_
    refine WL.u rfl rfl (Wt.plain rfl) (Ex.move rfl) ?_
    refine WL.u rfl rfl (Wt.plain rfl) (Ex.add rfl rfl (by omega)) ?_
    refine WL.u rfl rfl (Wt.plain rfl) (Ex.assign rfl) ?_
    refine WL.last ?_
    refine WN.round (i + 1) (by exact ⟨rfl, congrArg (fun x => some (vstr x)) hts.symm, rfl, trivial⟩) ?_ ?_
    · exact ⟨hD, by omega⟩
    · (try dsimp only); omega
  have hc1' := hc1; try simp only [decide_eq_true_eq, decide_eq_false_iff_not, Bool.not_eq_true', Bool.not_eq_false', Bool.not_eq_true, Bool.not_eq_false] at hc1'
  refine WC.exit ?_
  refine WN.exitThen ?_
  refine WN.exitThen ?_
  refine WN.exitHere ?_
  refine WN.next ?_
  refine WC.seq ?_
  refine WC.region ?_
  refine WL.u rfl rfl (Wt.plain rfl) (Ex.move rfl) ?_
  refine WL.u rfl rfl (Wt.plain rfl) (Ex.assign rfl) ?_
  refine WL.next ?_
  refine WC.ret ?_
  refine WN.body1 rfl rfl ?_
  have hieq : i = l.length := by omega
  subst hieq
  exact ⟨by rw [List.take_length], hD⟩

end Go.Proofs.YtmhmdlgcdeodmaaDoor
