/- The reference's search: a changed copy, going on, the least cost. -/
import Derived.Test.YtjejdebmlgjdeaaConv
import Derived.Test.YtjejdebmlgjdeaaPutW
import Derived.Test.YtjejdebmlgjdeaaGoMin
import Derived.Test.YtjejdebmlgjdeaaLawAM
namespace Go.Proofs.Ytjejdebmlgjdeaa
set_option maxRecDepth 100000
set_option linter.unusedSimpArgs false
set_option linter.unusedVariables false
open Go Go.RowKit
/-- a row with another letter, put back into its grid -/
theorem putG_rows {g : Grid} (hG : GridOk g) {cell : Nat} (hc : cell < nR g * nC g) (c : UInt8) : g.set (cell / nC g) ((g.getD (cell / nC g) []).set (cell % nC g) c) = putG g cell c := by
  have hm0 := hG.m1
  have hi : cell / nC g < nR g := Nat.div_lt_of_lt_mul (by rw [Nat.mul_comm]; exact hc)
  have hj : cell % nC g < nC g := Nat.mod_lt _ hm0
  have hdm : cell / nC g * nC g + cell % nC g = cell := by rw [Nat.mul_comm]; exact Nat.div_add_mod _ _
  refine ext_getD (by rw [List.length_set]; exact (putG_nR g cell c).symm) fun i hi' => ?_
  rw [show (putG g cell c).length = nR g from putG_nR g cell c] at hi'
  have hrow := hG.row i hi'
  have hP : ((putG g cell c).getD i []).length = nC g := by unfold putG; rw [gridOf_row _ _ _ hi']; simp
  have key : ∀ k, k < nC g → ((g.set (cell / nC g) ((g.getD (cell / nC g) []).set (cell % nC g) c)).getD i []).getD k 0 = ((putG g cell c).getD i []).getD k 0 := fun k hk => by
    rw [putG_at cell c hi' hk]
    by_cases e : cell / nC g = i
    · subst e
      rw [List.getD_eq_getElem?_getD (l := g.set _ _), List.getElem?_set_self hi, Option.getD_some]
      by_cases e2 : cell % nC g = k
      · subst e2
        rw [if_pos hdm, List.getD_eq_getElem?_getD, List.getElem?_set_self (by rw [hrow]; exact hk), Option.getD_some]
      · rw [if_neg (fun h => e2 (by omega)), List.getD_eq_getElem?_getD, List.getElem?_set_ne e2, ← List.getD_eq_getElem?_getD]
    · rw [List.getD_eq_getElem?_getD (l := g.set _ _), List.getElem?_set_ne e, ← List.getD_eq_getElem?_getD (l := g), if_neg]
      intro h
      exact e (cell_inj hk hj (h.trans hdm.symm)).1.symm
  have hlen : ((g.set (cell / nC g) ((g.getD (cell / nC g) []).set (cell % nC g) c)).getD i []).length = nC g := by
    by_cases e : cell / nC g = i
    · subst e
      rw [List.getD_eq_getElem?_getD (l := g.set _ _), List.getElem?_set_self hi, Option.getD_some, List.length_set]; exact hrow
    · rw [List.getD_eq_getElem?_getD (l := g.set _ _), List.getElem?_set_ne e, ← List.getD_eq_getElem?_getD]; exact hrow
  apply List.ext_getElem (by rw [hlen, hP])
  intro k h1 h2
  have h3 := key k (by rw [← hlen]; exact h1)
  have g1 := getD_get _ k 0 h1
  have g2 := getD_get _ k 0 h2
  rw [List.getElem?_eq_getElem h1] at g1
  rw [List.getElem?_eq_getElem h2] at g2
  rw [Option.some.inj g1, Option.some.inj g2, h3]

theorem sl1Put (g : Grid) (a : Option Addr) (cap cell : Nat) (c : UInt8) (w : World) (hg : Sl rStr w a g) (hG : GridOk g) (hc : cell < nR g * nC g) : Fn Try.prog 116 [.slice a g.length cap, vint cell, .int .u8 c.toNat] w (fun v w1 => Keep [] w w1 ∧ New rStr 9 w w1 v (putG g cell c)) := by
  refine Fn.enter (n := 39) Try.func116 rfl rfl rfl ?_
  show WC _ _ _ _ [(0, .slice a g.length cap), (1, vint cell), (2, .int .u8 c.toNat)] _
  have hH := Hp.start [] w
  have hn1 := hG.n1
  have hn5 := hG.n5
  have hm1 := hG.m1
  have hm5 := hG.m5
  obtain ⟨b, off, rfl⟩ := hg.addr (by omega)
  have hF := cellF hG hc
  obtain ⟨hc25, hrl, hcl, hrow, hdi, hmi⟩ := hF
  have hrowN : (g.getD (cell / nC g) []).length = nC g := hrow
  have hm5N : nC g ≤ 5 := hm5
  have hclN : cell % nC g < nC g := hcl
  have hrlN : cell / nC g < g.length := hrl
  refine WC.seq ?_
  refine WC.region ?_
  refine WL.u rfl rfl (Wt.plain rfl) (Ex.assign rfl) ?_
  refine WL.next ?_
  refine WC.seq ?_
  refine WC.region ?_
  refine WL.lit0 Try.underlying22 ty9 rfl (Wt.plain rfl) hH (fun b10 wn hb10 hk10 hH => ?_)
  have ho10 := Own.nil rStr
  refine WL.u rfl rfl (Wt.plain rfl) (Ex.move rfl) ?_
  have hs1 := hH.keep.size
  refine WL.appendS (r := rStr) (m := g) Try.underlying22 ty9 rfl rfl rfl ((hg.kept hH.keep)) rfl (Wt.plain rfl) hH ho10 (by simp only [List.length_nil]; omega) (by simp only [List.length_nil]; omega) (fun b10 cap10 cur10 wn x10 hk10 hH ho10 => ?_)
  rw [List.nil_append] at ho10
  have hge10 : w.heap.size ≤ b10 := by rcases x10 with rfl | h <;> omega
  refine WL.u rfl rfl (Wt.plain rfl) (Ex.assign rfl) ?_
  refine WL.next ?_
  refine WC.seq ?_
  refine WC.region ?_
  refine WL.u rfl rfl (Wt.plain rfl) (Ex.move rfl) ?_
  refine WL.u rfl rfl (Wt.plain rfl) (Ex.move rfl) ?_
  refine WL.u rfl rfl (Wt.plain rfl) (Ex.indexAddr Try.underlying22 ty9 rfl rfl (by omega)) ?_
  refine WL.u rfl rfl (Wt.plain rfl) (Ex.loadSl flat9 (hg.kept hH.keep) rfl rfl (getD_get g 0 [] (by omega))) ?_
  refine WL.u rfl rfl (Wt.plain rfl) (Ex.lenStr Try.underlying9 rfl) ?_
  refine WL.u rfl rfl (Wt.plain rfl) ((Ex.quo rfl rfl (by omega) (by omega)).to (congrArg (Value.int IntKind.i64) (show _ = ((cell / nC g : Nat) : Int) from rfl))) ?_
  refine WL.u rfl rfl (Wt.plain rfl) (Ex.assign rfl) ?_
  refine WL.next ?_
  refine WC.seq ?_
  refine WC.region ?_
  refine WL.u rfl rfl (Wt.plain rfl) (Ex.move rfl) ?_
  refine WL.u rfl rfl (Wt.plain rfl) (Ex.move rfl) ?_
  refine WL.u rfl rfl (Wt.plain rfl) (Ex.indexAddr Try.underlying22 ty9 rfl rfl (⟨Int.natCast_nonneg _, Int.ofNat_lt.2 hrlN⟩)) ?_
  refine WL.u rfl rfl (Wt.plain rfl) (Ex.loadSl flat9 (hg.kept hH.keep) rfl rfl (show g[(((cell / nC g : Nat) : Int)).toNat]? = some (g.getD (cell / nC g) []) from getD_get g (cell / nC g) [] hrl)) ?_
  refine WL.strBytes Try.underlying9 Try.underlying31 Try.underlying5 rfl rfl (Wt.plain rfl) (by omega) hH (fun b23 cap23 cur23 wn hb23 hk23 hH ho23 => ?_)
  refine WL.u rfl rfl (Wt.plain rfl) (Ex.assign rfl) ?_
  refine WL.next ?_
  refine WC.seq ?_
  refine WC.region ?_
  refine WL.u rfl rfl (Wt.plain rfl) (Ex.move rfl) ?_
  refine WL.u rfl rfl (Wt.plain rfl) (Ex.move rfl) ?_
  refine WL.u rfl rfl (Wt.plain rfl) (Ex.move rfl) ?_
  refine WL.u rfl rfl (Wt.plain rfl) (Ex.indexAddr Try.underlying22 ty9 rfl rfl (by omega)) ?_
  refine WL.u rfl rfl (Wt.plain rfl) (Ex.loadSl flat9 (hg.kept hH.keep) rfl rfl (getD_get g 0 [] (by omega))) ?_
  refine WL.u rfl rfl (Wt.plain rfl) (Ex.lenStr Try.underlying9 rfl) ?_
  refine WL.u rfl rfl (Wt.plain rfl) ((Ex.rem rfl rfl (by omega) (by omega)).to (congrArg (Value.int IntKind.i64) (show _ = ((cell % nC g : Nat) : Int) from rfl))) ?_
  refine WL.u rfl rfl (Wt.plain rfl) (Ex.move rfl) ?_
  refine WL.u rfl rfl (Wt.plain rfl) (Ex.indexAddr Try.underlying31 ty5 rfl rfl (by omega)) ?_
  refine WL.store1 ty5 rfl rfl rfl (Wt.plain rfl) hH (ho23.idx rfl (by omega)) (by have := ho23.size; have := ho23.le; rw [show rByte.sz = 1 from rfl] at *; simp; omega) (fun wn hk hH => ?_)
  replace ho23 := ho23.set rfl (cell % nC g) c
  refine WL.next ?_
  refine WC.seq ?_
  refine WC.region ?_
  refine WL.u rfl rfl (Wt.plain rfl) (Ex.move rfl) ?_
  refine WL.u rfl rfl (Wt.plain rfl) (Ex.move rfl) ?_
  refine WL.u rfl rfl (Wt.plain rfl) (Ex.move rfl) ?_
  refine WL.u rfl rfl (Wt.plain rfl) (Ex.bytesStr Try.underlying31 Try.underlying5 Try.underlying9 (by rw [List.length_set]; rfl) (ho23.slAt hH 0 rfl)) ?_
  refine WL.u rfl rfl (Wt.plain rfl) (Ex.indexAddr Try.underlying22 ty9 rfl rfl (⟨Int.natCast_nonneg _, Int.ofNat_lt.2 hrlN⟩)) ?_
  replace hH := hH.f1
  refine WL.store1 ty9 rfl rfl rfl (Wt.plain rfl) hH (ho10.idx rfl (by omega)) (by simp) (fun wn hk hH => ?_)
  replace ho10 := ho10.set rfl (cell / nC g) (((g.getD (cell / nC g) []).set (cell % nC g) c))
  refine WL.next ?_
  refine WC.seq ?_
  refine WC.region ?_
  refine WL.u rfl rfl (Wt.plain rfl) (Ex.move rfl) ?_
  refine WL.u rfl rfl (Wt.plain rfl) (Ex.assign rfl) ?_
  refine WL.next ?_
  refine WC.ret ?_
  refine WN.body1 rfl rfl ?_
  rw [putG_rows hG hc] at ho10
  have hN := New.of hH ho10 hge10
  rw [show (putG g cell c).length = nR g from putG_nR g cell c] at hN
  exact ⟨hH.keep, hN⟩

end Go.Proofs.Ytjejdebmlgjdeaa
