/- Are there a grid and a port; the ways of a beam as letters; proofs of beams. -/
import Derived.Test.YtjejdebmlgjdeaaWays
namespace Go.Proofs.Ytjejdebmlgjdeaa
set_option maxRecDepth 100000
set_option linter.unusedSimpArgs false
set_option linter.unusedVariables false
open Go Go.RowKit

theorem urdl {d : Nat} (hd : d < 4) : vstr ((([117, 114, 100, 108] : List UInt8).drop (d : Int).toNat).take (((d : Int) + 1).toNat - (d : Int).toNat)) = vstr [dirL d] := by
  obtain h | h | h | h : d = 0 ∨ d = 1 ∨ d = 2 ∨ d = 3 := by omega
  all_goals (subst h; rfl)
theorem take_snoc {α : Type} {l : List α} {i : Nat} {x : α} (h : l[i]? = some x) : l.take (i + 1) = l.take i ++ [x] := by
  have hi := (List.getElem?_eq_some_iff.1 h)
  obtain ⟨h1, h2⟩ := hi
  rw [List.take_add_one, h]; rfl
theorem getD_get' {α : Type} [Inhabited α] (l : List α) (i : Nat) (h : i < l.length) : l[i]? = some (l.getD i default) := getD_get l i default h

theorem iportOk (g : Grid) (a : Option Addr) (cap : Nat) (port : Int) (w : World) (hg : Sl rStr w a g) (hs : Short g) : Fn Try.prog 57 [.slice a g.length cap, vint port] w (fun v w1 => v = .bool (portIn g port) ∧ w1 = w) := by
  refine Fn.enter (n := 14) Try.func57 rfl rfl rfl ?_
  show WC _ _ _ _ [(0, .slice a g.length cap), (1, vint port)] _
  refine WC.seq ?_
  refine WC.region ?_
  refine WL.u rfl rfl (Wt.plain rfl) (Ex.assign rfl) ?_
  refine WL.next ?_
  refine WC.seq ?_
  refine WC.region ?_
  refine WL.u rfl rfl (Wt.plain rfl) (Ex.move rfl) ?_
  refine WL.call callable76 rfl (Wt.plain rfl) rfl rfl (iGridIn _ _ _ _ hg hs) ?_
  rintro _ _ ⟨rfl, hw⟩; obtain rfl := hw.symm
  refine WL.u rfl rfl (Wt.plain rfl) (Ex.move rfl) ?_
  refine WL.split (t := 7) rfl (fun hg1_2 => ?_) (fun hg1_2 => ?_)
  · have hg1_2' := hg1_2; try simp only [decide_eq_true_eq, decide_eq_false_iff_not, Bool.not_eq_true', Bool.not_eq_false', Bool.not_eq_true, Bool.not_eq_false] at hg1_2'
    have hG := (gridOk_iff g).1 hg1_2
    have hpl := ports_le hG
    refine WL.u rfl rfl (Wt.guard' rfl rfl rfl hg1_2 rfl) (Ex.move rfl) ?_
    refine WL.u rfl rfl (Wt.guard' rfl rfl rfl hg1_2 rfl) (Ex.move rfl) ?_
    refine WL.call callable92 rfl (Wt.guard' rfl rfl rfl hg1_2 rfl) rfl rfl (iportMany _ _ _ _ hg hG) ?_
    rintro _ _ ⟨rfl, hw⟩; obtain rfl := hw.symm
    refine WL.u rfl rfl (Wt.guard' rfl rfl rfl hg1_2 rfl) (Ex.sub rfl rfl (by omega)) ?_
    refine WL.call callable91 rfl (Wt.guard' rfl rfl rfl hg1_2 rfl) rfl rfl (iwithin _ _ _ _) ?_
    rintro _ _ ⟨rfl, hw⟩; obtain rfl := hw.symm
    refine WL.u rfl rfl (Wt.plain rfl) (Ex.pickT rfl hg1_2 rfl) ?_
    refine WL.u rfl rfl (Wt.plain rfl) (Ex.assign rfl) ?_
    refine WL.next ?_
    refine WC.ret ?_
    refine WN.body1 rfl rfl ?_
    refine ⟨congrArg Value.bool ?_, rfl⟩
    rw [portIn, hg1_2, Bool.true_and, decide_eq_decide]; omega
  have hg1_2' := hg1_2; try simp only [decide_eq_true_eq, decide_eq_false_iff_not, Bool.not_eq_true', Bool.not_eq_false', Bool.not_eq_true, Bool.not_eq_false] at hg1_2'
  refine WL.pass rfl rfl (Wt.guard' rfl rfl rfl hg1_2 rfl) ?_
  refine WL.pass rfl rfl (Wt.guard' rfl rfl rfl hg1_2 rfl) ?_
  refine WL.pass rfl rfl (Wt.guard' rfl rfl rfl hg1_2 rfl) ?_
  refine WL.pass rfl rfl (Wt.guard' rfl rfl rfl hg1_2 rfl) ?_
  refine WL.pass rfl rfl (Wt.guard' rfl rfl rfl hg1_2 rfl) ?_
  refine WL.u rfl rfl (Wt.plain rfl) (Ex.pickF rfl hg1_2 rfl) ?_
  refine WL.u rfl rfl (Wt.plain rfl) (Ex.assign rfl) ?_
  refine WL.next ?_
  refine WC.ret ?_
  refine WN.body1 rfl rfl ?_
  exact ⟨congrArg Value.bool (by rw [portIn, hg1_2]; rfl), rfl⟩

theorem sl2Given (g : Grid) (a : Option Addr) (cap : Nat) (port : Int) (w : World) (hg : Sl rStr w a g) (hs : Short g) : Fn Try.prog 82 [.slice a g.length cap, vint port] w (fun v w1 => v = .bool (portIn g port) ∧ Dr w w1) := by
  refine Fn.enter (n := 19) Try.func82 rfl rfl rfl ?_
  show WC _ _ _ _ [(0, .slice a g.length cap), (1, vint port)] _
  have hD := Dr.refl w
  refine WC.seq ?_
  refine WC.region ?_
  refine WL.u rfl rfl (Wt.plain rfl) (Ex.assign rfl) ?_
  refine WL.next ?_
  refine WC.seq ?_
  refine WC.region ?_
  refine WL.u rfl rfl (Wt.plain rfl) (Ex.move rfl) ?_
  refine WL.call callable113 rfl (Wt.plain rfl) rfl rfl (sGridIn _ _ _ _ (hg.dr hD) hs) ?_
  rintro _ wn ⟨rfl, hC⟩; replace hD := hD.trans hC; clear hC
  refine WL.u rfl rfl (Wt.plain rfl) (Ex.move rfl) ?_
  refine WL.split (t := 7) rfl (fun hg1_2 => ?_) (fun hg1_2 => ?_)
  · have hg1_2' := hg1_2; try simp only [decide_eq_true_eq, decide_eq_false_iff_not, Bool.not_eq_true', Bool.not_eq_false', Bool.not_eq_true, Bool.not_eq_false] at hg1_2'
    have hG := (gridOk_iff g).1 hg1_2
    have hpl := ports_le hG
    have hn1 := hG.n1
    have hn5 := hG.n5
    have hm5 := hG.m5
    obtain ⟨b, off, rfl⟩ := hg.addr (by omega)
    have hpe : ports g = 2 * (g.length + (g.getD 0 []).length) := by unfold ports; dsimp only [nR, nC]; omega
    refine WL.u rfl rfl (Wt.guard' rfl rfl rfl hg1_2 rfl) (Ex.move rfl) ?_
    refine WL.u rfl rfl (Wt.guard' rfl rfl rfl hg1_2 rfl) (Ex.move rfl) ?_
    refine WL.u rfl rfl (Wt.guard' rfl rfl rfl hg1_2 rfl) (Ex.lenSl Try.underlying22 rfl) ?_
    refine WL.u rfl rfl (Wt.guard' rfl rfl rfl hg1_2 rfl) (Ex.move rfl) ?_
    refine WL.u rfl rfl (Wt.guard' rfl rfl rfl hg1_2 rfl) (Ex.indexAddr Try.underlying22 ty9 rfl rfl (by omega)) ?_
    refine WL.u rfl rfl (Wt.guard' rfl rfl rfl hg1_2 rfl) (Ex.loadSl flat9 (hg.dr hD) rfl rfl (getD_get g 0 [] (by omega))) ?_
    refine WL.u rfl rfl (Wt.guard' rfl rfl rfl hg1_2 rfl) (Ex.lenStr Try.underlying9 rfl) ?_
    refine WL.call callable61 rfl (Wt.guard' rfl rfl rfl hg1_2 rfl) rfl rfl (sl2Ports _ _ _ (by first | assumption | omega) (by first | assumption | omega)) ?_
    rintro _ _ ⟨rfl, hw⟩; obtain rfl := hw.symm
    refine WL.u rfl rfl (Wt.guard' rfl rfl rfl hg1_2 rfl) (Ex.sub rfl rfl (by omega)) ?_
    refine WL.call callable51 rfl (Wt.guard' rfl rfl rfl hg1_2 rfl) rfl rfl (sl6In _ _ _ _) ?_
    rintro _ _ ⟨rfl, hw⟩; obtain rfl := hw.symm
    refine WL.u rfl rfl (Wt.plain rfl) (Ex.pickT rfl hg1_2 rfl) ?_
    refine WL.u rfl rfl (Wt.plain rfl) (Ex.assign rfl) ?_
    refine WL.next ?_
    refine WC.ret ?_
    refine WN.body1 rfl rfl ?_
    refine ⟨congrArg Value.bool ?_, hD⟩
    rw [portIn, hg1_2, Bool.true_and, decide_eq_decide, hpe]; omega
  have hg1_2' := hg1_2; try simp only [decide_eq_true_eq, decide_eq_false_iff_not, Bool.not_eq_true', Bool.not_eq_false', Bool.not_eq_true, Bool.not_eq_false] at hg1_2'
  refine WL.pass rfl rfl (Wt.guard' rfl rfl rfl hg1_2 rfl) ?_
  refine WL.pass rfl rfl (Wt.guard' rfl rfl rfl hg1_2 rfl) ?_
  refine WL.pass rfl rfl (Wt.guard' rfl rfl rfl hg1_2 rfl) ?_
  refine WL.pass rfl rfl (Wt.guard' rfl rfl rfl hg1_2 rfl) ?_
  refine WL.pass rfl rfl (Wt.guard' rfl rfl rfl hg1_2 rfl) ?_
  refine WL.pass rfl rfl (Wt.guard' rfl rfl rfl hg1_2 rfl) ?_
  refine WL.pass rfl rfl (Wt.guard' rfl rfl rfl hg1_2 rfl) ?_
  refine WL.pass rfl rfl (Wt.guard' rfl rfl rfl hg1_2 rfl) ?_
  refine WL.pass rfl rfl (Wt.guard' rfl rfl rfl hg1_2 rfl) ?_
  refine WL.pass rfl rfl (Wt.guard' rfl rfl rfl hg1_2 rfl) ?_
  refine WL.u rfl rfl (Wt.plain rfl) (Ex.pickF rfl hg1_2 rfl) ?_
  refine WL.u rfl rfl (Wt.plain rfl) (Ex.assign rfl) ?_
  refine WL.next ?_
  refine WC.ret ?_
  refine WN.body1 rfl rfl ?_
  exact ⟨congrArg Value.bool (by rw [portIn, hg1_2]; rfl), hD⟩

end Go.Proofs.Ytjejdebmlgjdeaa
