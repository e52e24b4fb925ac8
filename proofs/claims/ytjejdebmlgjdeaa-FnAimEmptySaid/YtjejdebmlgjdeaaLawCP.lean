/- The laws on the first port's partners. -/
import Derived.Test.YtjejdebmlgjdeaaCP
import Derived.Test.YtjejdebmlgjdeaaDraw
namespace Go.Proofs.Ytjejdebmlgjdeaa
set_option maxRecDepth 100000
set_option linter.unusedSimpArgs false
set_option linter.unusedVariables false
open Go Go.RowKit
theorem countPorts_len (n m : Int) : (countPorts n m).1.length ≤ 1000 := by
  unfold countPorts
  split
  · next h =>
    obtain ⟨n, m, rfl, rfl, h1, h2, h3, h4, h9⟩ := fewB_ex h
    show (cntBy _ _ _).length ≤ 1000
    rw [cntBy_len, Int.toNat_natCast, Int.toNat_natCast]; omega
  · simp

theorem sl92Counts (a : Option Addr) (l : List UInt8) (cap : Nat) (w : World) (hc : Sl rByte w a l) (hcap : l.length ≤ cap) : Fn Try.prog 75 [.slice a l.length cap] w (fun v w1 => ∃ n m : Nat, v = .tuple #[vint n, vint m] ∧ Keep [] w w1 ∧ 1 ≤ n ∧ n ≤ 4 ∧ 1 ≤ m ∧ m ≤ 12) := by
  refine Fn.enter (n := 25) Try.func75 rfl rfl rfl ?_
  show WC _ _ _ _ [(0, .slice a l.length cap)] _
  have hH := Hp.start [] w
  replace hc := hc.take 2000
  have hl := List.length_take_le 2000 l
  refine WC.seq ?_
  refine WC.region ?_
  refine WL.u rfl rfl (Wt.plain rfl) (Ex.assign rfl) ?_
  refine WL.u rfl rfl (Wt.plain rfl) (Ex.assign rfl) ?_
  refine WL.next ?_
  refine WC.seq ?_
  refine WC.region ?_
  refine WL.u rfl rfl (Wt.plain rfl) (Ex.move rfl) ?_
  refine WL.call callable59 rfl (Wt.plain rfl) rfl rfl (sl6Open _ _ _ _ hcap) ?_
  rintro _ wn ⟨r, rfl, hrn, hC, hro⟩; have hca := (hc.kept hH.keep).offNew hrn; replace hH := hH.push hC hrn hro; clear hC hro
  refine WL.u rfl rfl (Wt.plain rfl) (Ex.assign rfl) ?_
  refine WL.next ?_
  refine WC.seq ?_
  refine WC.region ?_
  refine WL.u rfl rfl (Wt.plain rfl) (Ex.move rfl) ?_
  refine WL.call callable60 rfl (Wt.plain rfl) rfl rfl (spick _ _ _ _ _ 4 _ (hH.at 0 rfl) (hc.kept hH.keep) hca hl (by omega) (by omega)) ?_
  rintro _ wn ⟨k10, rfl, hk10, hKK, ho⟩; replace hH := hH.turn hKK ho; clear hKK ho
  refine WL.u rfl rfl (Wt.plain rfl) (Ex.add rfl rfl (by omega)) ?_
  refine WL.u rfl rfl (Wt.plain rfl) (Ex.assign rfl) ?_
  refine WL.next ?_
  refine WC.seq ?_
  have hq0 : (8 : Int) / (1 + (k10 : Int)) ≤ 8 := Int.ediv_le_self _ (by omega)
  have hmx : Max.max (1 : Int) (8 / (1 + (k10 : Int))) = ((Max.max (1 : Int) (8 / (1 + (k10 : Int)))).toNat : Int) := by omega
  have hmx2 : (Max.max (1 : Int) (8 / (1 + (k10 : Int)))).toNat ≤ 8 := by omega
  have hmx3 : 1 ≤ (Max.max (1 : Int) (8 / (1 + (k10 : Int)))).toNat := by omega
  generalize (Max.max (1 : Int) (8 / (1 + (k10 : Int)))).toNat = mx at hmx hmx2 hmx3
  refine WC.region ?_
  refine WL.u rfl rfl (Wt.plain rfl) (Ex.move rfl) ?_
  refine WL.u rfl rfl (Wt.plain rfl) (Ex.move rfl) ?_
  refine WL.u rfl rfl (Wt.plain rfl) (Ex.quo rfl rfl (by omega) (by omega)) ?_
  refine WL.u rfl rfl (Wt.plain rfl) ((Ex.max rfl rfl).to (congrArg (Value.int IntKind.i64) hmx)) ?_
  refine WL.call callable60 rfl (Wt.plain rfl) rfl rfl (spick _ _ _ _ _ mx _ (hH.at 0 rfl) (hc.kept hH.keep) hca hl (by omega) (by omega)) ?_
  rintro _ wn ⟨k16, rfl, hk16, hKK, ho⟩; replace hH := hH.turn hKK ho; clear hKK ho
  refine WL.u rfl rfl (Wt.plain rfl) (Ex.add rfl rfl (by omega)) ?_
  refine WL.u rfl rfl (Wt.plain rfl) (Ex.assign rfl) ?_
  refine WL.next ?_
  refine WC.seq ?_
  refine WC.region ?_
  refine WL.u rfl rfl (Wt.plain rfl) (Ex.move rfl) ?_
  refine WL.u rfl rfl (Wt.plain rfl) (Ex.move rfl) ?_
  refine WL.u rfl rfl (Wt.plain rfl) (Ex.move rfl) ?_
  refine WL.call callable60 rfl (Wt.plain rfl) rfl rfl (spick _ _ _ _ _ 40 _ (hH.at 0 rfl) (hc.kept hH.keep) hca hl (by omega) (by omega)) ?_
  rintro _ wn ⟨k21, rfl, hk21, hKK, ho⟩; replace hH := hH.turn hKK ho; clear hKK ho
  refine WL.u rfl rfl (Wt.plain rfl) (Ex.quo rfl rfl (by omega) (by omega)) ?_
  refine WL.u rfl rfl (Wt.plain rfl) (Ex.mul rfl rfl (by omega)) ?_
  refine WL.u rfl rfl (Wt.plain rfl) (Ex.add rfl rfl (by omega)) ?_
  refine WL.u rfl rfl (Wt.plain rfl) (Ex.assign rfl) ?_
  refine WL.u rfl rfl (Wt.plain rfl) (Ex.assign rfl) ?_
  refine WL.next ?_
  refine WC.ret ?_
  refine WN.body2 rfl rfl rfl ?_
  refine ⟨1 + k10, (1 + k16 + k21 / 39 * 4), ?_, hH.keep, by omega, by omega, by omega, by omega⟩
  rfl

theorem sDrawCountRounds (a : Option Addr) (l : List UInt8) (cap : Nat) (w : World) (hc : Sl rByte w a l) (hcap : l.length ≤ cap) : Fn Try.prog 38 [.slice a l.length cap] w (fun v w1 => ∃ n m : Nat, v = .tuple #[vint n, vint m] ∧ Keep [] w w1 ∧ 1 ≤ n ∧ n ≤ 4 ∧ 1 ≤ m ∧ m ≤ 12) := by
  refine Fn.enter (n := 8) Try.func38 rfl rfl rfl ?_
  show WC _ _ _ _ [(0, .slice a l.length cap)] _
  have hH := Hp.start [] w
  refine WC.seq ?_
  refine WC.region ?_
  refine WL.u rfl rfl (Wt.plain rfl) (Ex.assign rfl) ?_
  refine WL.u rfl rfl (Wt.plain rfl) (Ex.assign rfl) ?_
  refine WL.next ?_
  refine WC.seq ?_
  refine WC.region ?_
  refine WL.u rfl rfl (Wt.plain rfl) (Ex.move rfl) ?_
  refine WL.call callable75 rfl (Wt.plain rfl) rfl rfl (sl92Counts _ _ _ _ (hc.kept hH.keep) hcap) ?_
  rintro _ wn ⟨n, m, rfl, hC, hn1, hn4, hm1, hm12⟩; replace hH := hH.call hC; clear hC
  refine WL.u rfl rfl (Wt.plain rfl) (Ex.extract rfl rfl) ?_
  refine WL.u rfl rfl (Wt.plain rfl) (Ex.extract rfl rfl) ?_
  refine WL.u rfl rfl (Wt.plain rfl) (Ex.assign rfl) ?_
  refine WL.u rfl rfl (Wt.plain rfl) (Ex.assign rfl) ?_
  refine WL.next ?_
  refine WC.ret ?_
  refine WN.body2 rfl rfl rfl ?_
  exact ⟨n, m, rfl, hH.keep, hn1, hn4, hm1, hm12⟩

theorem sDrawCountTotal (a : Option Addr) (l : List UInt8) (cap : Nat) (w : World) (hc : Sl rByte w a l) (hcap : l.length ≤ cap) : Fn Try.prog 36 [.slice a l.length cap] w (fun v w1 => ∃ n m : Nat, v = .tuple #[vint n, vint m] ∧ Keep [] w w1 ∧ 1 ≤ n ∧ n ≤ 4 ∧ 1 ≤ m ∧ m ≤ 12) := by
  refine Fn.enter (n := 8) Try.func36 rfl rfl rfl ?_
  show WC _ _ _ _ [(0, .slice a l.length cap)] _
  have hH := Hp.start [] w
  refine WC.seq ?_
  refine WC.region ?_
  refine WL.u rfl rfl (Wt.plain rfl) (Ex.assign rfl) ?_
  refine WL.u rfl rfl (Wt.plain rfl) (Ex.assign rfl) ?_
  refine WL.next ?_
  refine WC.seq ?_
  refine WC.region ?_
  refine WL.u rfl rfl (Wt.plain rfl) (Ex.move rfl) ?_
  refine WL.call callable75 rfl (Wt.plain rfl) rfl rfl (sl92Counts _ _ _ _ (hc.kept hH.keep) hcap) ?_
  rintro _ wn ⟨n, m, rfl, hC, hn1, hn4, hm1, hm12⟩; replace hH := hH.call hC; clear hC
  refine WL.u rfl rfl (Wt.plain rfl) (Ex.extract rfl rfl) ?_
  refine WL.u rfl rfl (Wt.plain rfl) (Ex.extract rfl rfl) ?_
  refine WL.u rfl rfl (Wt.plain rfl) (Ex.assign rfl) ?_
  refine WL.u rfl rfl (Wt.plain rfl) (Ex.assign rfl) ?_
  refine WL.next ?_
  refine WC.ret ?_
  refine WN.body2 rfl rfl rfl ?_
  exact ⟨n, m, rfl, hH.keep, hn1, hn4, hm1, hm12⟩

theorem sDrawCountJoined (a : Option Addr) (l : List UInt8) (cap : Nat) (w : World) (hc : Sl rByte w a l) (hcap : l.length ≤ cap) : Fn Try.prog 45 [.slice a l.length cap] w (fun v w1 => ∃ n m : Nat, v = .tuple #[vint n, vint m] ∧ Keep [] w w1 ∧ 1 ≤ n ∧ n ≤ 4 ∧ 1 ≤ m ∧ m ≤ 12) := by
  refine Fn.enter (n := 8) Try.func45 rfl rfl rfl ?_
  show WC _ _ _ _ [(0, .slice a l.length cap)] _
  have hH := Hp.start [] w
  refine WC.seq ?_
  refine WC.region ?_
  refine WL.u rfl rfl (Wt.plain rfl) (Ex.assign rfl) ?_
  refine WL.u rfl rfl (Wt.plain rfl) (Ex.assign rfl) ?_
  refine WL.next ?_
  refine WC.seq ?_
  refine WC.region ?_
  refine WL.u rfl rfl (Wt.plain rfl) (Ex.move rfl) ?_
  refine WL.call callable75 rfl (Wt.plain rfl) rfl rfl (sl92Counts _ _ _ _ (hc.kept hH.keep) hcap) ?_
  rintro _ wn ⟨n, m, rfl, hC, hn1, hn4, hm1, hm12⟩; replace hH := hH.call hC; clear hC
  refine WL.u rfl rfl (Wt.plain rfl) (Ex.extract rfl rfl) ?_
  refine WL.u rfl rfl (Wt.plain rfl) (Ex.extract rfl rfl) ?_
  refine WL.u rfl rfl (Wt.plain rfl) (Ex.assign rfl) ?_
  refine WL.u rfl rfl (Wt.plain rfl) (Ex.assign rfl) ?_
  refine WL.next ?_
  refine WC.ret ?_
  refine WN.body2 rfl rfl rfl ?_
  exact ⟨n, m, rfl, hH.keep, hn1, hn4, hm1, hm12⟩


theorem countPorts_ok (n m : Int) : (countPorts n m).2 = fewB n m 9 := by
  unfold countPorts
  split
  · next h => exact h.symm
  · next h => simpa using h

end Go.Proofs.Ytjejdebmlgjdeaa
