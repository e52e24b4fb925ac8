/- The program's search, walked. -/
import Derived.Test.YtmlkabddhdkpaaaJnGs
import Derived.Test.YtmlkabddhdkpaaaJnGo
import Derived.Test.YtmlkabddhdkpaaaMapI
import Derived.Test.YtmlkabddhdkpaaaPlan2
import Derived.Test.YtmlkabddhdkpaaaAimT
namespace Go.Proofs.Ytmlkabddhdkpaaa
set_option maxRecDepth 100000
set_option linter.unusedSimpArgs false
set_option linter.unusedVariables false
open Go Go.RowKit

end Go.Proofs.Ytmlkabddhdkpaaa

/- The program's search goes on. -/
namespace Go.Proofs.Ytmlkabddhdkpaaa
set_option maxRecDepth 100000
set_option linter.unusedSimpArgs false
set_option linter.unusedVariables false
open Go Go.RowKit
theorem Own.three : Own rByte #[.int .u8 46, .int .u8 114, .int .u8 102] 3 ([46, 114, 102] : List UInt8) := ⟨by decide, by decide, by decide, by unfold Rw; rw [flat_one rfl]; rfl⟩
theorem goM_met {q f : Nat} {h : Grid} {F : List Bool} {s : Nat × Nat} {c b : Nat} (hs : F.getD s.1 false = true) : goM q (f + 1) h F s c b = leaveW (goM q f) q h F s c b := by
  conv => lhs; unfold goM
  rw [if_pos hs]
theorem cst_letter {g h : Grid} {cell : Nat} (x : UInt8) (e : letter h cell = letter g cell) : (x = letter g cell → cst h cell x = 0) ∧ (x ≠ letter g cell → cst h cell x = 1) := by
  unfold cst
  exact ⟨fun h1 => by rw [e, if_pos h1], fun h1 => by rw [e, if_neg h1]⟩

theorem iletterAt (g : Grid) (a : Option Addr) (cap cell : Nat) (w : World) (hg : Sl rStr w a g) (hG : GridOk g) (hc : cell < nR g * nC g) : Fn Try.prog 61 [.slice a g.length cap, vint cell] w (fun v w1 => v = .int .u8 (letter g cell).toNat ∧ Dr w w1) := by
  refine Fn.enter (n := 21) Try.func61 rfl rfl rfl ?_
  show WC _ _ _ _ [(0, .slice a g.length cap), (1, vint cell)] _
  have hD := Dr.refl w
  obtain ⟨h1, h2, h3, h4, h5, h6⟩ := id hG
  obtain ⟨b, off, rfl⟩ := hg.addr (by omega)
  have hF := cellF hG hc
  obtain ⟨hc25, hrl, hcl, hrow, hdi, hmi⟩ := hF
  have hrowN : (g.getD (cell / nC g) []).length = nC g := hrow
  have hclN : cell % nC g < nC g := hcl
  have hrlN : cell / nC g < g.length := hrl
  refine WC.seq ?_
  refine WC.region ?_
  refine WL.u rfl rfl (Wt.plain rfl) (Ex.assign rfl) ?_
  refine WL.next ?_
  refine WC.seq ?_
  refine WC.quiet rfl (by kernel_rfl) ?_
  refine WQ.u rfl rfl (Wt.plain rfl) (fun w hC => Ex.move rfl) ?_
  refine WQ.u rfl rfl (Wt.plain rfl) (fun w hC => Ex.move rfl) ?_
  refine WQ.u rfl rfl (Wt.plain rfl) (fun w hC => Ex.move rfl) ?_
  refine WQ.u rfl rfl (Wt.plain rfl) (fun w hC => Ex.indexAddr Try.underlying35 ty9 rfl rfl (by omega)) ?_
  refine WQ.u rfl rfl (Wt.plain rfl) (fun w hC => Ex.loadSl flat9 (hg.dr (hD.trans hC)) rfl rfl (getD_get g 0 [] (by omega))) ?_
  refine WQ.u rfl rfl (Wt.plain rfl) (fun w hC => Ex.lenStr Try.underlying9 rfl) ?_
  refine WQ.u rfl rfl (Wt.plain rfl) (fun w hC => (Ex.quo rfl rfl (by omega) (by omega)).to (congrArg (Value.int IntKind.i64) (show _ = ((cell / nC g : Nat) : Int) from rfl))) ?_
  refine WQ.u rfl rfl (Wt.plain rfl) (fun w hC => Ex.indexAddr Try.underlying35 ty9 rfl rfl (⟨Int.natCast_nonneg _, Int.ofNat_lt.2 hrlN⟩)) ?_
  refine WQ.u rfl rfl (Wt.plain rfl) (fun w hC => Ex.loadSl flat9 (hg.dr (hD.trans hC)) rfl rfl (show g[(((cell / nC g : Nat) : Int)).toNat]? = some (g.getD (cell / nC g) []) from getD_get g (cell / nC g) [] hrl)) ?_
  refine WQ.u rfl rfl (Wt.plain rfl) (fun w hC => Ex.move rfl) ?_
  refine WQ.u rfl rfl (Wt.plain rfl) (fun w hC => Ex.move rfl) ?_
  refine WQ.u rfl rfl (Wt.plain rfl) (fun w hC => Ex.indexAddr Try.underlying35 ty9 rfl rfl (by omega)) ?_
  refine WQ.u rfl rfl (Wt.plain rfl) (fun w hC => Ex.loadSl flat9 (hg.dr (hD.trans hC)) rfl rfl (getD_get g 0 [] (by omega))) ?_
  refine WQ.u rfl rfl (Wt.plain rfl) (fun w hC => Ex.lenStr Try.underlying9 rfl) ?_
  refine WQ.u rfl rfl (Wt.plain rfl) (fun w hC => (Ex.rem rfl rfl (by omega) (by omega)).to (congrArg (Value.int IntKind.i64) (show _ = ((cell % nC g : Nat) : Int) from rfl))) ?_
  refine WQ.u rfl rfl (Wt.plain rfl) (fun w hC => Ex.indexStr Try.underlying9 rfl rfl (⟨Int.natCast_nonneg _, by rw [hrowN]; exact Int.ofNat_lt.2 hclN⟩)) ?_
  refine WQ.u rfl rfl (Wt.plain rfl) (fun w hC => Ex.assign rfl) ?_
  refine WQ.nil ?_
  intro wn hC; replace hD := hD.trans hC; clear hC
  refine WN.next ?_
  refine WC.ret ?_
  refine WN.body1 rfl rfl ?_
  exact ⟨rfl, hD⟩

end Go.Proofs.Ytmlkabddhdkpaaa
