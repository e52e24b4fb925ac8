/- Terms in memory: how they are read, their grids. -/
import Derived.Test.YtamkbmhgclpidaaTmG
import Derived.Test.YtamkbmhgclpidaaTermO
import Derived.Test.YtamkbmhgclpidaaPlan2
import Derived.Laws.Pointers
import Derived.Laws.Runes
namespace Go.Proofs.Ytamkbmhgclpidaa
set_option maxRecDepth 100000
set_option linter.unusedSimpArgs false
set_option linter.unusedVariables false
open Go Go.RowKit
section
variable {P : Program} {n : Nat} {σ : Env} {w : World} {d : Option Nat} {ty : TypeId} {pos : String} {af : Array Edge} {g : Option (Nat × Bool)} {x : Operand} {t t' e : TypeId}
theorem Ex.eqlNil {q : Option Addr} (ht : P.underlying t = some (.pointer e)) (hx : ev σ x = some (.pointer q)) : Ex P n ⟨d, .binOp .eql t x (.const (.pointer none)) t', ty, pos, af, g⟩ σ w (.bool q.isNone) w := fun a ha => by
  have hp : P.underlying t = some (.pointer (P.pointee t)) := by unfold Program.pointee; rw [ht]
  have h := run_eql_pointer_nil (P := P) w t q hp
  have hy : a.eval (.const (.pointer none)) = .pointer none := rfl
  simp only [execOp, ha.evl hx, hy]
  simp [eqGuard, h]
end
theorem ubT {c : UInt8} (k : Nat) (hk : k < 256) (h : decide ((c.toNat : Int) = (k : Int)) = true) : c = UInt8.ofNat k := (u8eq c k hk).1 (of_decide_eq_true h)
theorem ubF {c : UInt8} (k : Nat) (hk : k < 256) (h : decide ((c.toNat : Int) = (k : Int)) = false) : c ≠ UInt8.ofNat k := fun e => of_decide_eq_false h ((u8eq c k hk).2 e)
theorem nbT {c : UInt8} (k : Nat) (hk : k < 256) (h : decide ((c.toNat : Int) ≠ (k : Int)) = true) : c ≠ UInt8.ofNat k := fun e => of_decide_eq_true h ((u8eq c k hk).2 e)
theorem nbF {c : UInt8} (k : Nat) (hk : k < 256) (h : decide ((c.toNat : Int) ≠ (k : Int)) = false) : c = UInt8.ofNat k := (u8eq c k hk).1 (Classical.not_not.1 (of_decide_eq_false h))
def PV (ob : Option Nat) : Value := .pointer (ob.map fun b => ⟨b, 0, none⟩)
def TreeAt (w : World) : Nat → Tm → Prop
  | b, .leaf c => w.heap[b]? = some (.cells #[.int .u8 c.toNat, .pointer none, .pointer none] 80 (0, 0))
  | b, .una s a => ∃ ba, w.heap[b]? = some (.cells #[.int .u8 s.toNat, vptr ba 0, .pointer none] 80 (0, 0)) ∧ TreeAt w ba a
  | b, .bin s a c => ∃ ba bc, w.heap[b]? = some (.cells #[.int .u8 s.toNat, vptr ba 0, vptr bc 0] 80 (0, 0)) ∧ TreeAt w ba a ∧ TreeAt w bc c
theorem TreeAt.kept {w w' : World} (k : Keep [] w w') : ∀ {t : Tm} {b : Nat}, TreeAt w b t → TreeAt w' b t
  | .leaf _, b, h => k.heap h (by simp)
  | .una _ a, b, ⟨ba, h, ha⟩ => ⟨ba, k.heap h (by simp), TreeAt.kept k ha⟩
  | .bin _ a c, b, ⟨ba, bc, h, ha, hc⟩ => ⟨ba, bc, k.heap h (by simp), TreeAt.kept k ha, TreeAt.kept k hc⟩
/-- what readTerm returns -/
def RdR (w : World) (r : Option (Tm × Nat)) (ob : Option Nat) (e : Nat) : Prop := match r with
  | none => ob = none ∧ e = 0
  | some (t, q) => e = q ∧ ∃ b, ob = some b ∧ TreeAt w b t
theorem RdR.none {w : World} {r : Option (Tm × Nat)} {ob : Option Nat} {e : Nat} (h : RdR w r ob e) (ho : (ob.map fun b => (⟨b, 0, .none⟩ : Addr)).isNone = true) : r = .none := by
  match r, h with
  | .none, _ => rfl
  | some (t, q), ⟨_, b, hb, _⟩ => subst hb; cases ho
theorem RdR.some {w : World} {r : Option (Tm × Nat)} {ob : Option Nat} {e : Nat} (h : RdR w r ob e) (ho : (ob.map fun b => (⟨b, 0, .none⟩ : Addr)).isNone = false) : ∃ t b, r = .some (t, e) ∧ ob = .some b ∧ TreeAt w b t := by
  match r, h with
  | .none, ⟨hb, _⟩ => subst hb; cases ho
  | .some (t, q), ⟨he, b, hb, ht⟩ => subst he; exact ⟨t, b, rfl, hb, ht⟩

set_option maxHeartbeats 1000000 in
theorem ireadTerm1 (s : Str) (f p : Nat) (w : World) (ih : ∀ (p : Nat) (w2 : World), p ≤ s.length → s.length < p + f → Fn Try.prog 34 [vstr s, vint p] w2 (fun v w3 => ∃ ob e, v = .tuple #[PV ob, vint (e : Nat)] ∧ Keep [] w2 w3 ∧ RdR w3 (rdI s f p) ob e)) (h60 : s.length ≤ 60) (hpl : p ≤ s.length) (hf : s.length < p + (f + 1)) : Fn Try.prog 34 [vstr s, vint p] w (fun v w1 => ∃ ob e, v = .tuple #[PV ob, vint (e : Nat)] ∧ Keep [] w w1 ∧ RdR w1 (rdI s (f + 1) p) ob e) := by
  refine Fn.enter (n := 113) Try.func34 rfl rfl rfl ?_
  show WC _ _ _ _ [(0, vstr s), (1, vint p)] _
  have hH := Hp.start [] w
  refine WC.seq ?_
  refine WC.region ?_
  refine WL.u rfl rfl (Wt.plain rfl) (Ex.assign rfl) ?_
  refine WL.u rfl rfl (Wt.plain rfl) (Ex.assign rfl) ?_
  refine WL.next ?_
  refine WC.seq ?_
  refine WC.seq ?_
  refine WC.region ?_
  refine WL.u rfl rfl (Wt.plain rfl) (Ex.move rfl) ?_
  refine WL.u rfl rfl (Wt.plain rfl) (Ex.move rfl) ?_
  refine WL.u rfl rfl (Wt.plain rfl) (Ex.lenStr Try.underlying9 rfl) ?_
  refine WL.u rfl rfl (Wt.plain rfl) (Ex.geq rfl rfl) ?_
  refine WL.next ?_
  refine WC.cond rfl (fun hc1 => ?_) (fun hc1 => ?_)
  · have hc1' := hc1; try simp only [decide_eq_true_eq, decide_eq_false_iff_not, Bool.not_eq_true', Bool.not_eq_false', Bool.not_eq_true, Bool.not_eq_false] at hc1'
    refine WC.seq ?_
    refine WC.region ?_
    refine WL.u rfl rfl (Wt.plain rfl) (Ex.assign rfl) ?_
    refine WL.u rfl rfl (Wt.plain rfl) (Ex.assign rfl) ?_
    refine WL.next ?_
    refine WC.ret ?_
    refine WN.retThen ?_
    refine WN.body2 rfl rfl rfl ?_
    exact ⟨none, 0, rfl, hH.keep, by rw [rdI_end (by omega)]; exact ⟨rfl, rfl⟩⟩
  have hc1' := hc1; try simp only [decide_eq_true_eq, decide_eq_false_iff_not, Bool.not_eq_true', Bool.not_eq_false', Bool.not_eq_true, Bool.not_eq_false] at hc1'
  have hp : p < s.length := by omega
  have hcl := u8lt (s.getD p 0)
  refine WC.skip ?_
  refine WN.next ?_
  refine WC.seq ?_
  refine WC.region ?_
  refine WL.u rfl rfl (Wt.plain rfl) (Ex.move rfl) ?_
  refine WL.u rfl rfl (Wt.plain rfl) (Ex.move rfl) ?_
  refine WL.u rfl rfl (Wt.plain rfl) (Ex.indexStr Try.underlying9 rfl rfl (by omega)) ?_
  refine WL.u rfl rfl (Wt.plain rfl) (Ex.assign rfl) ?_
  refine WL.next ?_
  refine WC.seq ?_
  refine WC.block ?_
  refine WC.seq ?_
  refine WC.region ?_
  refine WL.u rfl rfl (Wt.plain rfl) (Ex.move rfl) ?_
  refine WL.call callable40 rfl (Wt.plain rfl) rfl rfl (iletterOk _ _) ?_
  rintro _ _ ⟨rfl, hw⟩; obtain rfl := hw.symm
  refine WL.u rfl rfl (Wt.plain rfl) (Ex.assign rfl) ?_
  refine WL.next ?_
  refine WC.cond rfl (fun hc2 => ?_) (fun hc2 => ?_)
  · have hc2' := hc2; try simp only [decide_eq_true_eq, decide_eq_false_iff_not, Bool.not_eq_true', Bool.not_eq_false', Bool.not_eq_true, Bool.not_eq_false] at hc2'
    refine WC.seq ?_
    refine WC.region ?_
    refine WL.u rfl rfl (Wt.plain rfl) (Ex.move rfl) ?_
    refine WL.u rfl rfl (Wt.plain rfl) (Ex.build (pv := [(0, _)]) bd80 rfl rfl rfl) ?_
    refine WL.box rfl rfl rfl (Wt.plain rfl) hH (fun b25 wn hb25 hk25 hH => ?_)
    refine WL.u rfl rfl (Wt.plain rfl) (Ex.move rfl) ?_
    refine WL.u rfl rfl (Wt.plain rfl) (Ex.add rfl rfl (by omega)) ?_
    refine WL.u rfl rfl (Wt.plain rfl) (Ex.assign rfl) ?_
    refine WL.u rfl rfl (Wt.plain rfl) (Ex.assign rfl) ?_
    refine WL.next ?_
    refine WC.ret ?_
    refine WN.retBlock ?_
    refine WN.retThen ?_
    refine WN.body2 rfl rfl rfl ?_
    exact ⟨some b25, p + 1, rfl, hH.keep, by rw [rdI_leaf hp hc2]; exact ⟨rfl, _, rfl, hH.at 0 rfl⟩⟩
  have hc2' := hc2; try simp only [decide_eq_true_eq, decide_eq_false_iff_not, Bool.not_eq_true', Bool.not_eq_false', Bool.not_eq_true, Bool.not_eq_false] at hc2'
  refine WC.seq ?_
  refine WC.region ?_
  refine WL.u rfl rfl (Wt.plain rfl) (Ex.move rfl) ?_
  refine WL.u rfl rfl (Wt.plain rfl) (Ex.eql rfl rfl) ?_
  refine WL.u rfl rfl (Wt.plain rfl) (Ex.move rfl) ?_
  refine WL.split (t := 31) rfl (fun hg6_2 => ?_) (fun hg6_2 => ?_)
  · have hg6_2' := hg6_2; try simp only [decide_eq_true_eq, decide_eq_false_iff_not, Bool.not_eq_true', Bool.not_eq_false', Bool.not_eq_true, Bool.not_eq_false] at hg6_2'
    have hu : isU (s.getD p 0) = true := by rw [(show s.getD p 0 = 62 from ubT 62 (by decide) hg6_2)]; rfl
    refine WL.pass rfl rfl (Wt.guard' rfl rfl rfl hg6_2 rfl) ?_
    refine WL.pass rfl rfl (Wt.guard' rfl rfl rfl hg6_2 rfl) ?_
    refine WL.u rfl rfl (Wt.plain rfl) (Ex.pickT rfl hg6_2 rfl) ?_
    refine WL.u rfl rfl (Wt.plain rfl) (Ex.move rfl) ?_
    refine WL.pass rfl rfl (Wt.guard' rfl rfl rfl rfl rfl) ?_
    refine WL.pass rfl rfl (Wt.guard' rfl rfl rfl rfl rfl) ?_
    refine WL.u rfl rfl (Wt.plain rfl) (Ex.pickT rfl rfl rfl) ?_
    refine WL.u rfl rfl (Wt.plain rfl) (Ex.assign rfl) ?_
    refine WL.next ?_
    refine WC.condT rfl rfl ?_
    refine WC.seq ?_
    refine WC.region ?_
    refine WL.u rfl rfl (Wt.plain rfl) (Ex.move rfl) ?_
    refine WL.u rfl rfl (Wt.plain rfl) (Ex.move rfl) ?_
    refine WL.u rfl rfl (Wt.plain rfl) (Ex.add rfl rfl (by omega)) ?_
    refine WL.call callable34 rfl (Wt.plain rfl) rfl rfl (ih (p + 1) _ (by omega) (by omega)) ?_
    rintro _ wn ⟨ob43, e43, rfl, hC, hR43⟩; replace hH := hH.call hC
    refine WL.u rfl rfl (Wt.plain rfl) (Ex.move rfl) ?_
    refine WL.u rfl rfl (Wt.plain rfl) (Ex.extract rfl rfl) ?_
    refine WL.u rfl rfl (Wt.plain rfl) (Ex.extract rfl rfl) ?_
    refine WL.u rfl rfl (Wt.plain rfl) (Ex.assign rfl) ?_
    refine WL.u rfl rfl (Wt.plain rfl) (Ex.assign rfl) ?_
    refine WL.next ?_
    refine WC.seq ?_
    refine WC.seq ?_
    refine WC.region ?_
    refine WL.u rfl rfl (Wt.plain rfl) (Ex.move rfl) ?_
    refine WL.u rfl rfl (Wt.plain rfl) (Ex.eqlNil Try.underlying40 rfl) ?_
    refine WL.next ?_
    refine WC.cond rfl (fun hc4 => ?_) (fun hc4 => ?_)
    · have hrn : rdI s (f + 1) p = none := by rw [rdI_una hp hc2 hu, hR43.none hc4]
      refine WC.seq ?_
      refine WC.region ?_
      refine WL.u rfl rfl (Wt.plain rfl) (Ex.assign rfl) ?_
      refine WL.u rfl rfl (Wt.plain rfl) (Ex.assign rfl) ?_
      refine WL.next ?_
      refine WC.ret ?_
      refine WN.retThen ?_
      refine WN.retBlock ?_
      refine WN.retThen ?_
      refine WN.body2 rfl rfl rfl ?_
      exact ⟨none, 0, rfl, hH.keep, by rw [hrn]; exact ⟨rfl, rfl⟩⟩
    obtain ⟨t1, b1, hr1, rfl, hT1⟩ := hR43.some hc4
    refine WC.skip ?_
    refine WN.next ?_
    refine WC.seq ?_
    refine WC.region ?_
    refine WL.u rfl rfl (Wt.plain rfl) (Ex.move rfl) ?_
    refine WL.u rfl rfl (Wt.plain rfl) (Ex.move rfl) ?_
    refine WL.u rfl rfl (Wt.plain rfl) (Ex.build (pv := [(0, _), (1, _)]) bd80 rfl rfl rfl) ?_
    refine WL.box rfl rfl rfl (Wt.plain rfl) hH (fun b51 wn hb51 hk51 hH => ?_)
    replace hT1 := hT1.kept hk51
    refine WL.u rfl rfl (Wt.plain rfl) (Ex.move rfl) ?_
    refine WL.u rfl rfl (Wt.plain rfl) (Ex.assign rfl) ?_
    refine WL.u rfl rfl (Wt.plain rfl) (Ex.assign rfl) ?_
    refine WL.next ?_
    refine WC.ret ?_
    refine WN.retBlock ?_
    refine WN.retThen ?_
    refine WN.body2 rfl rfl rfl ?_
    exact ⟨some b51, e43, rfl, hH.keep, by rw [rdI_una hp hc2 hu, hr1]; exact ⟨rfl, _, rfl, b1, hH.at 0 rfl, hT1⟩⟩
  have hg6_2' := hg6_2; try simp only [decide_eq_true_eq, decide_eq_false_iff_not, Bool.not_eq_true', Bool.not_eq_false', Bool.not_eq_true, Bool.not_eq_false] at hg6_2'
  refine WL.u rfl rfl (Wt.guard' rfl rfl rfl hg6_2 rfl) (Ex.move rfl) ?_
  refine WL.u rfl rfl (Wt.guard' rfl rfl rfl hg6_2 rfl) (Ex.eql rfl rfl) ?_
  refine WL.u rfl rfl (Wt.plain rfl) (Ex.pickF rfl hg6_2 rfl) ?_
  refine WL.u rfl rfl (Wt.plain rfl) (Ex.move rfl) ?_
  refine WL.split (t := 35) rfl (fun hg6_6 => ?_) (fun hg6_6 => ?_)
  · have hg6_6' := hg6_6; try simp only [decide_eq_true_eq, decide_eq_false_iff_not, Bool.not_eq_true', Bool.not_eq_false', Bool.not_eq_true, Bool.not_eq_false] at hg6_6'
    have hu : isU (s.getD p 0) = true := by rw [(show s.getD p 0 = 94 from ubT 94 (by decide) hg6_6)]; rfl
    refine WL.pass rfl rfl (Wt.guard' rfl rfl rfl hg6_6 rfl) ?_
    refine WL.pass rfl rfl (Wt.guard' rfl rfl rfl hg6_6 rfl) ?_
    refine WL.u rfl rfl (Wt.plain rfl) (Ex.pickT rfl hg6_6 rfl) ?_
    refine WL.u rfl rfl (Wt.plain rfl) (Ex.assign rfl) ?_
    refine WL.next ?_
    refine WC.condT rfl rfl ?_
    refine WC.seq ?_
    refine WC.region ?_
    refine WL.u rfl rfl (Wt.plain rfl) (Ex.move rfl) ?_
    refine WL.u rfl rfl (Wt.plain rfl) (Ex.move rfl) ?_
    refine WL.u rfl rfl (Wt.plain rfl) (Ex.add rfl rfl (by omega)) ?_
    refine WL.call callable34 rfl (Wt.plain rfl) rfl rfl (ih (p + 1) _ (by omega) (by omega)) ?_
    rintro _ wn ⟨ob43, e43, rfl, hC, hR43⟩; replace hH := hH.call hC
    refine WL.u rfl rfl (Wt.plain rfl) (Ex.move rfl) ?_
    refine WL.u rfl rfl (Wt.plain rfl) (Ex.extract rfl rfl) ?_
    refine WL.u rfl rfl (Wt.plain rfl) (Ex.extract rfl rfl) ?_
    refine WL.u rfl rfl (Wt.plain rfl) (Ex.assign rfl) ?_
    refine WL.u rfl rfl (Wt.plain rfl) (Ex.assign rfl) ?_
    refine WL.next ?_
    refine WC.seq ?_
    refine WC.seq ?_
    refine WC.region ?_
    refine WL.u rfl rfl (Wt.plain rfl) (Ex.move rfl) ?_
    refine WL.u rfl rfl (Wt.plain rfl) (Ex.eqlNil Try.underlying40 rfl) ?_
    refine WL.next ?_
    refine WC.cond rfl (fun hc4 => ?_) (fun hc4 => ?_)
    · have hrn : rdI s (f + 1) p = none := by rw [rdI_una hp hc2 hu, hR43.none hc4]
      refine WC.seq ?_
      refine WC.region ?_
      refine WL.u rfl rfl (Wt.plain rfl) (Ex.assign rfl) ?_
      refine WL.u rfl rfl (Wt.plain rfl) (Ex.assign rfl) ?_
      refine WL.next ?_
      refine WC.ret ?_
      refine WN.retThen ?_
      refine WN.retBlock ?_
      refine WN.retThen ?_
      refine WN.body2 rfl rfl rfl ?_
      exact ⟨none, 0, rfl, hH.keep, by rw [hrn]; exact ⟨rfl, rfl⟩⟩
    obtain ⟨t1, b1, hr1, rfl, hT1⟩ := hR43.some hc4
    refine WC.skip ?_
    refine WN.next ?_
    refine WC.seq ?_
    refine WC.region ?_
    refine WL.u rfl rfl (Wt.plain rfl) (Ex.move rfl) ?_
    refine WL.u rfl rfl (Wt.plain rfl) (Ex.move rfl) ?_
    refine WL.u rfl rfl (Wt.plain rfl) (Ex.build (pv := [(0, _), (1, _)]) bd80 rfl rfl rfl) ?_
    refine WL.box rfl rfl rfl (Wt.plain rfl) hH (fun b51 wn hb51 hk51 hH => ?_)
    replace hT1 := hT1.kept hk51
    refine WL.u rfl rfl (Wt.plain rfl) (Ex.move rfl) ?_
    refine WL.u rfl rfl (Wt.plain rfl) (Ex.assign rfl) ?_
    refine WL.u rfl rfl (Wt.plain rfl) (Ex.assign rfl) ?_
    refine WL.next ?_
    refine WC.ret ?_
    refine WN.retBlock ?_
    refine WN.retThen ?_
    refine WN.body2 rfl rfl rfl ?_
    exact ⟨some b51, e43, rfl, hH.keep, by rw [rdI_una hp hc2 hu, hr1]; exact ⟨rfl, _, rfl, b1, hH.at 0 rfl, hT1⟩⟩
  have hg6_6' := hg6_6; try simp only [decide_eq_true_eq, decide_eq_false_iff_not, Bool.not_eq_true', Bool.not_eq_false', Bool.not_eq_true, Bool.not_eq_false] at hg6_6'
  refine WL.u rfl rfl (Wt.guard' rfl rfl rfl hg6_6 rfl) (Ex.move rfl) ?_
  refine WL.u rfl rfl (Wt.guard' rfl rfl rfl hg6_6 rfl) (Ex.eql rfl rfl) ?_
  refine WL.u rfl rfl (Wt.plain rfl) (Ex.pickF rfl hg6_6 rfl) ?_
  refine WL.u rfl rfl (Wt.plain rfl) (Ex.assign rfl) ?_
  refine WL.next ?_
  refine WC.cond rfl (fun hc3 => ?_) (fun hc3 => ?_)
  · have hc3' := hc3; try simp only [decide_eq_true_eq, decide_eq_false_iff_not, Bool.not_eq_true', Bool.not_eq_false', Bool.not_eq_true, Bool.not_eq_false] at hc3'
    have hu : isU (s.getD p 0) = true := by rw [(show s.getD p 0 = 42 from ubT 42 (by decide) hc3)]; rfl
    refine WC.seq ?_
    refine WC.region ?_
    refine WL.u rfl rfl (Wt.plain rfl) (Ex.move rfl) ?_
    refine WL.u rfl rfl (Wt.plain rfl) (Ex.move rfl) ?_
    refine WL.u rfl rfl (Wt.plain rfl) (Ex.add rfl rfl (by omega)) ?_
    refine WL.call callable34 rfl (Wt.plain rfl) rfl rfl (ih (p + 1) _ (by omega) (by omega)) ?_
    rintro _ wn ⟨ob43, e43, rfl, hC, hR43⟩; replace hH := hH.call hC
    refine WL.u rfl rfl (Wt.plain rfl) (Ex.move rfl) ?_
    refine WL.u rfl rfl (Wt.plain rfl) (Ex.extract rfl rfl) ?_
    refine WL.u rfl rfl (Wt.plain rfl) (Ex.extract rfl rfl) ?_
    refine WL.u rfl rfl (Wt.plain rfl) (Ex.assign rfl) ?_
    refine WL.u rfl rfl (Wt.plain rfl) (Ex.assign rfl) ?_
    refine WL.next ?_
    refine WC.seq ?_
    refine WC.seq ?_
    refine WC.region ?_
    refine WL.u rfl rfl (Wt.plain rfl) (Ex.move rfl) ?_
    refine WL.u rfl rfl (Wt.plain rfl) (Ex.eqlNil Try.underlying40 rfl) ?_
    refine WL.next ?_
    refine WC.cond rfl (fun hc4 => ?_) (fun hc4 => ?_)
    · have hrn : rdI s (f + 1) p = none := by rw [rdI_una hp hc2 hu, hR43.none hc4]
      refine WC.seq ?_
      refine WC.region ?_
      refine WL.u rfl rfl (Wt.plain rfl) (Ex.assign rfl) ?_
      refine WL.u rfl rfl (Wt.plain rfl) (Ex.assign rfl) ?_
      refine WL.next ?_
      refine WC.ret ?_
      refine WN.retThen ?_
      refine WN.retBlock ?_
      refine WN.retThen ?_
      refine WN.body2 rfl rfl rfl ?_
      exact ⟨none, 0, rfl, hH.keep, by rw [hrn]; exact ⟨rfl, rfl⟩⟩
    obtain ⟨t1, b1, hr1, rfl, hT1⟩ := hR43.some hc4
    refine WC.skip ?_
    refine WN.next ?_
    refine WC.seq ?_
    refine WC.region ?_
    refine WL.u rfl rfl (Wt.plain rfl) (Ex.move rfl) ?_
    refine WL.u rfl rfl (Wt.plain rfl) (Ex.move rfl) ?_
    refine WL.u rfl rfl (Wt.plain rfl) (Ex.build (pv := [(0, _), (1, _)]) bd80 rfl rfl rfl) ?_
    refine WL.box rfl rfl rfl (Wt.plain rfl) hH (fun b51 wn hb51 hk51 hH => ?_)
    replace hT1 := hT1.kept hk51
    refine WL.u rfl rfl (Wt.plain rfl) (Ex.move rfl) ?_
    refine WL.u rfl rfl (Wt.plain rfl) (Ex.assign rfl) ?_
    refine WL.u rfl rfl (Wt.plain rfl) (Ex.assign rfl) ?_
    refine WL.next ?_
    refine WC.ret ?_
    refine WN.retBlock ?_
    refine WN.retThen ?_
    refine WN.body2 rfl rfl rfl ?_
    exact ⟨some b51, e43, rfl, hH.keep, by rw [rdI_una hp hc2 hu, hr1]; exact ⟨rfl, _, rfl, b1, hH.at 0 rfl, hT1⟩⟩
  have hc3' := hc3; try simp only [decide_eq_true_eq, decide_eq_false_iff_not, Bool.not_eq_true', Bool.not_eq_false', Bool.not_eq_true, Bool.not_eq_false] at hc3'
  have hu : isU (s.getD p 0) = false := by
    unfold isU
    rw [decide_eq_false (show s.getD p 0 ≠ 62 from ubF 62 (by decide) hg6_2), decide_eq_false (show s.getD p 0 ≠ 94 from ubF 94 (by decide) hg6_6), decide_eq_false (show s.getD p 0 ≠ 42 from ubF 42 (by decide) hc3)]; rfl
  refine WC.seq ?_
  refine WC.region ?_
  refine WL.u rfl rfl (Wt.plain rfl) (Ex.move rfl) ?_
  refine WL.u rfl rfl (Wt.plain rfl) (Ex.neq rfl rfl) ?_
  refine WL.u rfl rfl (Wt.plain rfl) (Ex.assign rfl) ?_
  refine WL.next ?_
  refine WC.cond rfl (fun hc5 => ?_) (fun hc5 => ?_)
  · have hc5' := hc5; try simp only [decide_eq_true_eq, decide_eq_false_iff_not, Bool.not_eq_true', Bool.not_eq_false', Bool.not_eq_true, Bool.not_eq_false] at hc5'
    have hrn : rdI s (f + 1) p = none := rdI_bad hp hc2 hu (nbT 40 (by decide) hc5)
    refine WC.seq ?_
    refine WC.region ?_
    refine WL.u rfl rfl (Wt.plain rfl) (Ex.assign rfl) ?_
    refine WL.u rfl rfl (Wt.plain rfl) (Ex.assign rfl) ?_
    refine WL.next ?_
    refine WC.ret ?_
    refine WN.retBlock ?_
    refine WN.retThen ?_
    refine WN.body2 rfl rfl rfl ?_
    exact ⟨none, 0, rfl, hH.keep, by rw [hrn]; exact ⟨rfl, rfl⟩⟩
  have hc5' := hc5; try simp only [decide_eq_true_eq, decide_eq_false_iff_not, Bool.not_eq_true', Bool.not_eq_false', Bool.not_eq_true, Bool.not_eq_false] at hc5'
  have h40 : s.getD p 0 = 40 := nbF 40 (by decide) hc5
  refine WC.skip ?_
  refine WN.normalBlock ?_
  refine WN.next ?_
  refine WC.seq ?_
  refine WC.region ?_
  refine WL.u rfl rfl (Wt.plain rfl) (Ex.move rfl) ?_
  refine WL.u rfl rfl (Wt.plain rfl) (Ex.move rfl) ?_
  refine WL.u rfl rfl (Wt.plain rfl) (Ex.add rfl rfl (by omega)) ?_
  refine WL.call callable34 rfl (Wt.plain rfl) rfl rfl (ih (p + 1) _ (by omega) (by omega)) ?_
  rintro _ wn ⟨ob60, e60, rfl, hC, hR60⟩; replace hH := hH.call hC
  refine WL.u rfl rfl (Wt.plain rfl) (Ex.move rfl) ?_
  refine WL.u rfl rfl (Wt.plain rfl) (Ex.extract rfl rfl) ?_
  refine WL.u rfl rfl (Wt.plain rfl) (Ex.extract rfl rfl) ?_
  refine WL.u rfl rfl (Wt.plain rfl) (Ex.assign rfl) ?_
  refine WL.u rfl rfl (Wt.plain rfl) (Ex.assign rfl) ?_
  refine WL.next ?_
  refine WC.seq ?_
  refine WC.seq ?_
  refine WC.region ?_
  refine WL.u rfl rfl (Wt.plain rfl) (Ex.move rfl) ?_
  refine WL.u rfl rfl (Wt.plain rfl) (Ex.eqlNil Try.underlying40 rfl) ?_
  refine WL.u rfl rfl (Wt.plain rfl) (Ex.move rfl) ?_
  refine WL.split (t := 65) rfl (fun hg14_2 => ?_) (fun hg14_2 => ?_)
  · have hrn : rdI s (f + 1) p = none := by rw [rdI_bin hp h40, hR60.none hg14_2]
    refine WL.pass rfl rfl (Wt.guard' rfl rfl rfl hg14_2 rfl) ?_
    refine WL.pass rfl rfl (Wt.guard' rfl rfl rfl hg14_2 rfl) ?_
    refine WL.pass rfl rfl (Wt.guard' rfl rfl rfl hg14_2 rfl) ?_
    refine WL.pass rfl rfl (Wt.guard' rfl rfl rfl hg14_2 rfl) ?_
    refine WL.u rfl rfl (Wt.plain rfl) (Ex.pickT rfl hg14_2 rfl) ?_
    refine WL.u rfl rfl (Wt.plain rfl) (Ex.move rfl) ?_
    refine WL.pass rfl rfl (Wt.guard' rfl rfl rfl rfl rfl) ?_
    refine WL.pass rfl rfl (Wt.guard' rfl rfl rfl rfl rfl) ?_
    refine WL.pass rfl rfl (Wt.guard' rfl rfl rfl rfl rfl) ?_
    refine WL.pass rfl rfl (Wt.guard' rfl rfl rfl rfl rfl) ?_
    refine WL.pass rfl rfl (Wt.guard' rfl rfl rfl rfl rfl) ?_
    refine WL.pass rfl rfl (Wt.undef rfl rfl rfl) ?_
    refine WL.pass rfl rfl (Wt.undef rfl rfl rfl) ?_
    refine WL.pass rfl rfl (Wt.undef rfl rfl rfl) ?_
    refine WL.pass rfl rfl (Wt.undef rfl rfl rfl) ?_
    refine WL.pass rfl rfl (Wt.guard' rfl rfl rfl rfl rfl) ?_
    refine WL.u rfl rfl (Wt.plain rfl) (Ex.pickT rfl rfl rfl) ?_
    refine WL.next ?_
    refine WC.condT rfl rfl ?_
    refine WC.seq ?_
    refine WC.region ?_
    refine WL.u rfl rfl (Wt.plain rfl) (Ex.assign rfl) ?_
    refine WL.u rfl rfl (Wt.plain rfl) (Ex.assign rfl) ?_
    refine WL.next ?_
    refine WC.ret ?_
    refine WN.retThen ?_
    refine WN.body2 rfl rfl rfl ?_
    exact ⟨none, 0, rfl, hH.keep, by rw [hrn]; exact ⟨rfl, rfl⟩⟩
  obtain ⟨t1, b1, hr1, rfl, hT1⟩ := hR60.some hg14_2
  obtain ⟨_, hpe, hel⟩ := rdI_ok hr1
  refine WL.u rfl rfl (Wt.guard' rfl rfl rfl hg14_2 rfl) (Ex.move rfl) ?_
  refine WL.u rfl rfl (Wt.guard' rfl rfl rfl hg14_2 rfl) (Ex.move rfl) ?_
  refine WL.u rfl rfl (Wt.guard' rfl rfl rfl hg14_2 rfl) (Ex.lenStr Try.underlying9 rfl) ?_
  refine WL.u rfl rfl (Wt.guard' rfl rfl rfl hg14_2 rfl) (Ex.geq rfl rfl) ?_
  refine WL.u rfl rfl (Wt.plain rfl) (Ex.pickF rfl hg14_2 rfl) ?_
  refine WL.u rfl rfl (Wt.plain rfl) (Ex.move rfl) ?_
  refine WL.split (t := 71) rfl (fun hg14_8 => ?_) (fun hg14_8 => ?_)
  · have hg14_8' := hg14_8; try simp only [decide_eq_true_eq, decide_eq_false_iff_not, Bool.not_eq_true', Bool.not_eq_false', Bool.not_eq_true, Bool.not_eq_false] at hg14_8'
    have hrn : rdI s (f + 1) p = none := by rw [rdI_bin hp h40, hr1]; exact if_pos (.inl (by omega))
    refine WL.pass rfl rfl (Wt.guard' rfl rfl rfl hg14_8 rfl) ?_
    refine WL.pass rfl rfl (Wt.guard' rfl rfl rfl hg14_8 rfl) ?_
    refine WL.pass rfl rfl (Wt.guard' rfl rfl rfl hg14_8 rfl) ?_
    refine WL.pass rfl rfl (Wt.guard' rfl rfl rfl hg14_8 rfl) ?_
    refine WL.pass rfl rfl (Wt.guard' rfl rfl rfl hg14_8 rfl) ?_
    refine WL.pass rfl rfl (Wt.undef rfl rfl rfl) ?_
    refine WL.pass rfl rfl (Wt.undef rfl rfl rfl) ?_
    refine WL.pass rfl rfl (Wt.undef rfl rfl rfl) ?_
    refine WL.pass rfl rfl (Wt.undef rfl rfl rfl) ?_
    refine WL.pass rfl rfl (Wt.guard' rfl rfl rfl hg14_8 rfl) ?_
    refine WL.u rfl rfl (Wt.plain rfl) (Ex.pickT rfl hg14_8 rfl) ?_
    refine WL.next ?_
    refine WC.condT rfl rfl ?_
    refine WC.seq ?_
    refine WC.region ?_
    refine WL.u rfl rfl (Wt.plain rfl) (Ex.assign rfl) ?_
    refine WL.u rfl rfl (Wt.plain rfl) (Ex.assign rfl) ?_
    refine WL.next ?_
    refine WC.ret ?_
    refine WN.retThen ?_
    refine WN.body2 rfl rfl rfl ?_
    exact ⟨none, 0, rfl, hH.keep, by rw [hrn]; exact ⟨rfl, rfl⟩⟩
  have hg14_8' := hg14_8; try simp only [decide_eq_true_eq, decide_eq_false_iff_not, Bool.not_eq_true', Bool.not_eq_false', Bool.not_eq_true, Bool.not_eq_false] at hg14_8'
  have hcl2 := u8lt (s.getD e60 0)
  refine WL.u rfl rfl (Wt.guard' rfl rfl rfl hg14_8 rfl) (Ex.move rfl) ?_
  refine WL.u rfl rfl (Wt.guard' rfl rfl rfl hg14_8 rfl) (Ex.move rfl) ?_
  refine WL.u rfl rfl (Wt.guard' rfl rfl rfl hg14_8 rfl) (Ex.indexStr Try.underlying9 rfl rfl (by omega)) ?_
  refine WL.u rfl rfl (Wt.guard' rfl rfl rfl hg14_8 rfl) (Ex.neq rfl rfl) ?_
  refine WL.u rfl rfl (Wt.guard' rfl rfl rfl hg14_8 rfl) (Ex.move rfl) ?_
  refine WL.split (t := 76) rfl (fun hg14_13 => ?_) (fun hg14_13 => ?_)
  · have hg14_13' := hg14_13; try simp only [decide_eq_true_eq, decide_eq_false_iff_not, Bool.not_eq_true', Bool.not_eq_false', Bool.not_eq_true, Bool.not_eq_false] at hg14_13'
    refine WL.u rfl rfl (Wt.guard' rfl rfl rfl hg14_13 rfl) (Ex.move rfl) ?_
    refine WL.u rfl rfl (Wt.guard' rfl rfl rfl hg14_13 rfl) (Ex.move rfl) ?_
    refine WL.u rfl rfl (Wt.guard' rfl rfl rfl hg14_13 rfl) (Ex.indexStr Try.underlying9 rfl rfl (by omega)) ?_
    refine WL.u rfl rfl (Wt.guard' rfl rfl rfl hg14_13 rfl) (Ex.neq rfl rfl) ?_
    refine WL.u rfl rfl (Wt.guard' rfl rfl rfl hg14_8 rfl) (Ex.pickT rfl hg14_13 rfl) ?_
    refine WL.u rfl rfl (Wt.plain rfl) (Ex.pickF rfl hg14_8 rfl) ?_
    refine WL.next ?_
    refine WC.cond rfl (fun hc6 => ?_) (fun hc6 => ?_)
    · have hc6' := hc6; try simp only [decide_eq_true_eq, decide_eq_false_iff_not, Bool.not_eq_true', Bool.not_eq_false', Bool.not_eq_true, Bool.not_eq_false] at hc6'
      have hB : isB (s.getD e60 0) = false := by unfold isB; rw [decide_eq_false (show s.getD e60 0 ≠ 124 from nbT 124 (by decide) hg14_13), decide_eq_false (show s.getD e60 0 ≠ 45 from nbT 45 (by decide) hc6)]; rfl
      have hrn : rdI s (f + 1) p = none := by rw [rdI_bin hp h40, hr1]; exact if_pos (.inr hB)
      refine WC.seq ?_
      refine WC.region ?_
      refine WL.u rfl rfl (Wt.plain rfl) (Ex.assign rfl) ?_
      refine WL.u rfl rfl (Wt.plain rfl) (Ex.assign rfl) ?_
      refine WL.next ?_
      refine WC.ret ?_
      refine WN.retThen ?_
      refine WN.body2 rfl rfl rfl ?_
      exact ⟨none, 0, rfl, hH.keep, by rw [hrn]; exact ⟨rfl, rfl⟩⟩
    have hc6' := hc6; try simp only [decide_eq_true_eq, decide_eq_false_iff_not, Bool.not_eq_true', Bool.not_eq_false', Bool.not_eq_true, Bool.not_eq_false] at hc6'
    have hB : isB (s.getD e60 0) = true := by rw [show s.getD e60 0 = 45 from nbF 45 (by decide) hc6]; rfl
    have hqB : ¬ (s.length ≤ e60 ∨ isB (s.getD e60 0) = false) := by rw [hB]; simp; omega
    refine WC.skip ?_
    refine WN.next ?_
    refine WC.seq ?_
    refine WC.region ?_
    refine WL.u rfl rfl (Wt.plain rfl) (Ex.move rfl) ?_
    refine WL.u rfl rfl (Wt.plain rfl) (Ex.move rfl) ?_
    refine WL.u rfl rfl (Wt.plain rfl) (Ex.add rfl rfl (by omega)) ?_
    refine WL.call callable34 rfl (Wt.plain rfl) rfl rfl (ih (e60 + 1) _ (by omega) (by omega)) ?_
    rintro _ wn ⟨ob87, e87, rfl, hC, hR87⟩; replace hH := hH.call hC; replace hT1 := hT1.kept hC
    refine WL.u rfl rfl (Wt.plain rfl) (Ex.move rfl) ?_
    refine WL.u rfl rfl (Wt.plain rfl) (Ex.extract rfl rfl) ?_
    refine WL.u rfl rfl (Wt.plain rfl) (Ex.extract rfl rfl) ?_
    refine WL.u rfl rfl (Wt.plain rfl) (Ex.assign rfl) ?_
    refine WL.u rfl rfl (Wt.plain rfl) (Ex.assign rfl) ?_
    refine WL.next ?_
    refine WC.seq ?_
    refine WC.seq ?_
    refine WC.region ?_
    refine WL.u rfl rfl (Wt.plain rfl) (Ex.move rfl) ?_
    refine WL.u rfl rfl (Wt.plain rfl) (Ex.eqlNil Try.underlying40 rfl) ?_
    refine WL.u rfl rfl (Wt.plain rfl) (Ex.move rfl) ?_
    refine WL.split (t := 92) rfl (fun hg17_2 => ?_) (fun hg17_2 => ?_)
    · have hrn : rdI s (f + 1) p = none := by rw [rdI_bin hp h40, hr1]; dsimp only; rw [if_neg hqB, hR87.none hg17_2]
      refine WL.pass rfl rfl (Wt.guard' rfl rfl rfl hg17_2 rfl) ?_
      refine WL.pass rfl rfl (Wt.guard' rfl rfl rfl hg17_2 rfl) ?_
      refine WL.pass rfl rfl (Wt.guard' rfl rfl rfl hg17_2 rfl) ?_
      refine WL.pass rfl rfl (Wt.guard' rfl rfl rfl hg17_2 rfl) ?_
      refine WL.u rfl rfl (Wt.plain rfl) (Ex.pickT rfl hg17_2 rfl) ?_
      refine WL.u rfl rfl (Wt.plain rfl) (Ex.move rfl) ?_
      refine WL.pass rfl rfl (Wt.guard' rfl rfl rfl rfl rfl) ?_
      refine WL.pass rfl rfl (Wt.guard' rfl rfl rfl rfl rfl) ?_
      refine WL.pass rfl rfl (Wt.guard' rfl rfl rfl rfl rfl) ?_
      refine WL.pass rfl rfl (Wt.guard' rfl rfl rfl rfl rfl) ?_
      refine WL.u rfl rfl (Wt.plain rfl) (Ex.pickT rfl rfl rfl) ?_
      refine WL.next ?_
      refine WC.condT rfl rfl ?_
      refine WC.seq ?_
      refine WC.region ?_
      refine WL.u rfl rfl (Wt.plain rfl) (Ex.assign rfl) ?_
      refine WL.u rfl rfl (Wt.plain rfl) (Ex.assign rfl) ?_
      refine WL.next ?_
      refine WC.ret ?_
      refine WN.retThen ?_
      refine WN.body2 rfl rfl rfl ?_
      exact ⟨none, 0, rfl, hH.keep, by rw [hrn]; exact ⟨rfl, rfl⟩⟩
    obtain ⟨t2, b2, hr2, rfl, hT2⟩ := hR87.some hg17_2
    obtain ⟨_, hpe2, hel2⟩ := rdI_ok hr2
    refine WL.u rfl rfl (Wt.guard' rfl rfl rfl hg17_2 rfl) (Ex.move rfl) ?_
    refine WL.u rfl rfl (Wt.guard' rfl rfl rfl hg17_2 rfl) (Ex.move rfl) ?_
    refine WL.u rfl rfl (Wt.guard' rfl rfl rfl hg17_2 rfl) (Ex.lenStr Try.underlying9 rfl) ?_
    refine WL.u rfl rfl (Wt.guard' rfl rfl rfl hg17_2 rfl) (Ex.geq rfl rfl) ?_
    refine WL.u rfl rfl (Wt.plain rfl) (Ex.pickF rfl hg17_2 rfl) ?_
    refine WL.u rfl rfl (Wt.plain rfl) (Ex.move rfl) ?_
    refine WL.split (t := 98) rfl (fun hg17_8 => ?_) (fun hg17_8 => ?_)
    · have hg17_8' := hg17_8; try simp only [decide_eq_true_eq, decide_eq_false_iff_not, Bool.not_eq_true', Bool.not_eq_false', Bool.not_eq_true, Bool.not_eq_false] at hg17_8'
      have hrn : rdI s (f + 1) p = none := by rw [rdI_bin hp h40, hr1]; dsimp only; rw [if_neg hqB, hr2]; exact if_pos (.inl (by omega))
      refine WL.pass rfl rfl (Wt.guard' rfl rfl rfl hg17_8 rfl) ?_
      refine WL.pass rfl rfl (Wt.guard' rfl rfl rfl hg17_8 rfl) ?_
      refine WL.pass rfl rfl (Wt.guard' rfl rfl rfl hg17_8 rfl) ?_
      refine WL.pass rfl rfl (Wt.guard' rfl rfl rfl hg17_8 rfl) ?_
      refine WL.u rfl rfl (Wt.plain rfl) (Ex.pickT rfl hg17_8 rfl) ?_
      refine WL.next ?_
      refine WC.condT rfl rfl ?_
      refine WC.seq ?_
      refine WC.region ?_
      refine WL.u rfl rfl (Wt.plain rfl) (Ex.assign rfl) ?_
      refine WL.u rfl rfl (Wt.plain rfl) (Ex.assign rfl) ?_
      refine WL.next ?_
      refine WC.ret ?_
      refine WN.retThen ?_
      refine WN.body2 rfl rfl rfl ?_
      exact ⟨none, 0, rfl, hH.keep, by rw [hrn]; exact ⟨rfl, rfl⟩⟩
    have hg17_8' := hg17_8; try simp only [decide_eq_true_eq, decide_eq_false_iff_not, Bool.not_eq_true', Bool.not_eq_false', Bool.not_eq_true, Bool.not_eq_false] at hg17_8'
    refine WL.u rfl rfl (Wt.guard' rfl rfl rfl hg17_8 rfl) (Ex.move rfl) ?_
    refine WL.u rfl rfl (Wt.guard' rfl rfl rfl hg17_8 rfl) (Ex.move rfl) ?_
    refine WL.u rfl rfl (Wt.guard' rfl rfl rfl hg17_8 rfl) (Ex.indexStr Try.underlying9 rfl rfl (by omega)) ?_
    refine WL.u rfl rfl (Wt.guard' rfl rfl rfl hg17_8 rfl) (Ex.neq rfl rfl) ?_
    refine WL.u rfl rfl (Wt.plain rfl) (Ex.pickF rfl hg17_8 rfl) ?_
    refine WL.next ?_
    refine WC.cond rfl (fun hc7 => ?_) (fun hc7 => ?_)
    · have hc7' := hc7; try simp only [decide_eq_true_eq, decide_eq_false_iff_not, Bool.not_eq_true', Bool.not_eq_false', Bool.not_eq_true, Bool.not_eq_false] at hc7'
      have hrn : rdI s (f + 1) p = none := by rw [rdI_bin hp h40, hr1]; dsimp only; rw [if_neg hqB, hr2]; exact if_pos (.inr (nbT 41 (by decide) hc7))
      refine WC.seq ?_
      refine WC.region ?_
      refine WL.u rfl rfl (Wt.plain rfl) (Ex.assign rfl) ?_
      refine WL.u rfl rfl (Wt.plain rfl) (Ex.assign rfl) ?_
      refine WL.next ?_
      refine WC.ret ?_
      refine WN.retThen ?_
      refine WN.body2 rfl rfl rfl ?_
      exact ⟨none, 0, rfl, hH.keep, by rw [hrn]; exact ⟨rfl, rfl⟩⟩
    have hc7' := hc7; try simp only [decide_eq_true_eq, decide_eq_false_iff_not, Bool.not_eq_true', Bool.not_eq_false', Bool.not_eq_true, Bool.not_eq_false] at hc7'
    have h41 : s.getD e87 0 = 41 := nbF 41 (by decide) hc7
    have hqC : ¬ (s.length ≤ e87 ∨ s.getD e87 0 ≠ 41) := by rw [h41]; simp; omega
    refine WC.skip ?_
    refine WN.next ?_
    refine WC.seq ?_
    refine WC.region ?_
    refine WL.u rfl rfl (Wt.plain rfl) (Ex.move rfl) ?_
    refine WL.u rfl rfl (Wt.plain rfl) (Ex.move rfl) ?_
    refine WL.u rfl rfl (Wt.plain rfl) (Ex.indexStr Try.underlying9 rfl rfl (by omega)) ?_
    refine WL.u rfl rfl (Wt.plain rfl) (Ex.move rfl) ?_
    refine WL.u rfl rfl (Wt.plain rfl) (Ex.move rfl) ?_
    refine WL.u rfl rfl (Wt.plain rfl) (Ex.buildS bd80 rfl rfl rfl rfl rfl) ?_
    refine WL.box rfl rfl rfl (Wt.plain rfl) hH (fun b110 wn hb110 hk110 hH => ?_)
    replace hT1 := hT1.kept hk110
    replace hT2 := hT2.kept hk110
    refine WL.u rfl rfl (Wt.plain rfl) (Ex.move rfl) ?_
    refine WL.u rfl rfl (Wt.plain rfl) (Ex.add rfl rfl (by omega)) ?_
    refine WL.u rfl rfl (Wt.plain rfl) (Ex.assign rfl) ?_
    refine WL.u rfl rfl (Wt.plain rfl) (Ex.assign rfl) ?_
    refine WL.next ?_
    refine WC.ret ?_
    refine WN.body2 rfl rfl rfl ?_
    exact ⟨some b110, e87 + 1, rfl, hH.keep, by rw [rdI_bin hp h40, hr1]; dsimp only; rw [if_neg hqB, hr2]; dsimp only; rw [if_neg hqC]; exact ⟨rfl, _, rfl, b1, b2, hH.at 0 rfl, hT1, hT2⟩⟩
  have hg14_13' := hg14_13; try simp only [decide_eq_true_eq, decide_eq_false_iff_not, Bool.not_eq_true', Bool.not_eq_false', Bool.not_eq_true, Bool.not_eq_false] at hg14_13'
  have hB : isB (s.getD e60 0) = true := by rw [show s.getD e60 0 = 124 from nbF 124 (by decide) hg14_13]; rfl
  have hqB : ¬ (s.length ≤ e60 ∨ isB (s.getD e60 0) = false) := by rw [hB]; simp; omega
  refine WL.pass rfl rfl (Wt.guard' rfl rfl rfl hg14_13 rfl) ?_
  refine WL.pass rfl rfl (Wt.guard' rfl rfl rfl hg14_13 rfl) ?_
  refine WL.pass rfl rfl (Wt.guard' rfl rfl rfl hg14_13 rfl) ?_
  refine WL.pass rfl rfl (Wt.guard' rfl rfl rfl hg14_13 rfl) ?_
  refine WL.u rfl rfl (Wt.guard' rfl rfl rfl hg14_8 rfl) (Ex.pickF rfl hg14_13 rfl) ?_
  refine WL.u rfl rfl (Wt.plain rfl) (Ex.pickF rfl hg14_8 rfl) ?_
  refine WL.next ?_
  refine WC.condF rfl rfl ?_
  refine WC.skip ?_
  refine WN.next ?_
  refine WC.seq ?_
  refine WC.region ?_
  refine WL.u rfl rfl (Wt.plain rfl) (Ex.move rfl) ?_
  refine WL.u rfl rfl (Wt.plain rfl) (Ex.move rfl) ?_
  refine WL.u rfl rfl (Wt.plain rfl) (Ex.add rfl rfl (by omega)) ?_
  refine WL.call callable34 rfl (Wt.plain rfl) rfl rfl (ih (e60 + 1) _ (by omega) (by omega)) ?_
  rintro _ wn ⟨ob87, e87, rfl, hC, hR87⟩; replace hH := hH.call hC; replace hT1 := hT1.kept hC
  refine WL.u rfl rfl (Wt.plain rfl) (Ex.move rfl) ?_
  refine WL.u rfl rfl (Wt.plain rfl) (Ex.extract rfl rfl) ?_
  refine WL.u rfl rfl (Wt.plain rfl) (Ex.extract rfl rfl) ?_
  refine WL.u rfl rfl (Wt.plain rfl) (Ex.assign rfl) ?_
  refine WL.u rfl rfl (Wt.plain rfl) (Ex.assign rfl) ?_
  refine WL.next ?_
  refine WC.seq ?_
  refine WC.seq ?_
  refine WC.region ?_
  refine WL.u rfl rfl (Wt.plain rfl) (Ex.move rfl) ?_
  refine WL.u rfl rfl (Wt.plain rfl) (Ex.eqlNil Try.underlying40 rfl) ?_
  refine WL.u rfl rfl (Wt.plain rfl) (Ex.move rfl) ?_
  refine WL.split (t := 92) rfl (fun hg17_2 => ?_) (fun hg17_2 => ?_)
  · have hrn : rdI s (f + 1) p = none := by rw [rdI_bin hp h40, hr1]; dsimp only; rw [if_neg hqB, hR87.none hg17_2]
    refine WL.pass rfl rfl (Wt.guard' rfl rfl rfl hg17_2 rfl) ?_
    refine WL.pass rfl rfl (Wt.guard' rfl rfl rfl hg17_2 rfl) ?_
    refine WL.pass rfl rfl (Wt.guard' rfl rfl rfl hg17_2 rfl) ?_
    refine WL.pass rfl rfl (Wt.guard' rfl rfl rfl hg17_2 rfl) ?_
    refine WL.u rfl rfl (Wt.plain rfl) (Ex.pickT rfl hg17_2 rfl) ?_
    refine WL.u rfl rfl (Wt.plain rfl) (Ex.move rfl) ?_
    refine WL.pass rfl rfl (Wt.guard' rfl rfl rfl rfl rfl) ?_
    refine WL.pass rfl rfl (Wt.guard' rfl rfl rfl rfl rfl) ?_
    refine WL.pass rfl rfl (Wt.guard' rfl rfl rfl rfl rfl) ?_
    refine WL.pass rfl rfl (Wt.guard' rfl rfl rfl rfl rfl) ?_
    refine WL.u rfl rfl (Wt.plain rfl) (Ex.pickT rfl rfl rfl) ?_
    refine WL.next ?_
    refine WC.condT rfl rfl ?_
    refine WC.seq ?_
    refine WC.region ?_
    refine WL.u rfl rfl (Wt.plain rfl) (Ex.assign rfl) ?_
    refine WL.u rfl rfl (Wt.plain rfl) (Ex.assign rfl) ?_
    refine WL.next ?_
    refine WC.ret ?_
    refine WN.retThen ?_
    refine WN.body2 rfl rfl rfl ?_
    exact ⟨none, 0, rfl, hH.keep, by rw [hrn]; exact ⟨rfl, rfl⟩⟩
  obtain ⟨t2, b2, hr2, rfl, hT2⟩ := hR87.some hg17_2
  obtain ⟨_, hpe2, hel2⟩ := rdI_ok hr2
  refine WL.u rfl rfl (Wt.guard' rfl rfl rfl hg17_2 rfl) (Ex.move rfl) ?_
  refine WL.u rfl rfl (Wt.guard' rfl rfl rfl hg17_2 rfl) (Ex.move rfl) ?_
  refine WL.u rfl rfl (Wt.guard' rfl rfl rfl hg17_2 rfl) (Ex.lenStr Try.underlying9 rfl) ?_
  refine WL.u rfl rfl (Wt.guard' rfl rfl rfl hg17_2 rfl) (Ex.geq rfl rfl) ?_
  refine WL.u rfl rfl (Wt.plain rfl) (Ex.pickF rfl hg17_2 rfl) ?_
  refine WL.u rfl rfl (Wt.plain rfl) (Ex.move rfl) ?_
  refine WL.split (t := 98) rfl (fun hg17_8 => ?_) (fun hg17_8 => ?_)
  · have hg17_8' := hg17_8; try simp only [decide_eq_true_eq, decide_eq_false_iff_not, Bool.not_eq_true', Bool.not_eq_false', Bool.not_eq_true, Bool.not_eq_false] at hg17_8'
    have hrn : rdI s (f + 1) p = none := by rw [rdI_bin hp h40, hr1]; dsimp only; rw [if_neg hqB, hr2]; exact if_pos (.inl (by omega))
    refine WL.pass rfl rfl (Wt.guard' rfl rfl rfl hg17_8 rfl) ?_
    refine WL.pass rfl rfl (Wt.guard' rfl rfl rfl hg17_8 rfl) ?_
    refine WL.pass rfl rfl (Wt.guard' rfl rfl rfl hg17_8 rfl) ?_
    refine WL.pass rfl rfl (Wt.guard' rfl rfl rfl hg17_8 rfl) ?_
    refine WL.u rfl rfl (Wt.plain rfl) (Ex.pickT rfl hg17_8 rfl) ?_
    refine WL.next ?_
    refine WC.condT rfl rfl ?_
    refine WC.seq ?_
    refine WC.region ?_
    refine WL.u rfl rfl (Wt.plain rfl) (Ex.assign rfl) ?_
    refine WL.u rfl rfl (Wt.plain rfl) (Ex.assign rfl) ?_
    refine WL.next ?_
    refine WC.ret ?_
    refine WN.retThen ?_
    refine WN.body2 rfl rfl rfl ?_
    exact ⟨none, 0, rfl, hH.keep, by rw [hrn]; exact ⟨rfl, rfl⟩⟩
  have hg17_8' := hg17_8; try simp only [decide_eq_true_eq, decide_eq_false_iff_not, Bool.not_eq_true', Bool.not_eq_false', Bool.not_eq_true, Bool.not_eq_false] at hg17_8'
  refine WL.u rfl rfl (Wt.guard' rfl rfl rfl hg17_8 rfl) (Ex.move rfl) ?_
  refine WL.u rfl rfl (Wt.guard' rfl rfl rfl hg17_8 rfl) (Ex.move rfl) ?_
  refine WL.u rfl rfl (Wt.guard' rfl rfl rfl hg17_8 rfl) (Ex.indexStr Try.underlying9 rfl rfl (by omega)) ?_
  refine WL.u rfl rfl (Wt.guard' rfl rfl rfl hg17_8 rfl) (Ex.neq rfl rfl) ?_
  refine WL.u rfl rfl (Wt.plain rfl) (Ex.pickF rfl hg17_8 rfl) ?_
  refine WL.next ?_
  refine WC.cond rfl (fun hc7 => ?_) (fun hc7 => ?_)
  · have hc7' := hc7; try simp only [decide_eq_true_eq, decide_eq_false_iff_not, Bool.not_eq_true', Bool.not_eq_false', Bool.not_eq_true, Bool.not_eq_false] at hc7'
    have hrn : rdI s (f + 1) p = none := by rw [rdI_bin hp h40, hr1]; dsimp only; rw [if_neg hqB, hr2]; exact if_pos (.inr (nbT 41 (by decide) hc7))
    refine WC.seq ?_
    refine WC.region ?_
    refine WL.u rfl rfl (Wt.plain rfl) (Ex.assign rfl) ?_
    refine WL.u rfl rfl (Wt.plain rfl) (Ex.assign rfl) ?_
    refine WL.next ?_
    refine WC.ret ?_
    refine WN.retThen ?_
    refine WN.body2 rfl rfl rfl ?_
    exact ⟨none, 0, rfl, hH.keep, by rw [hrn]; exact ⟨rfl, rfl⟩⟩
  have hc7' := hc7; try simp only [decide_eq_true_eq, decide_eq_false_iff_not, Bool.not_eq_true', Bool.not_eq_false', Bool.not_eq_true, Bool.not_eq_false] at hc7'
  have h41 : s.getD e87 0 = 41 := nbF 41 (by decide) hc7
  have hqC : ¬ (s.length ≤ e87 ∨ s.getD e87 0 ≠ 41) := by rw [h41]; simp; omega
  refine WC.skip ?_
  refine WN.next ?_
  refine WC.seq ?_
  refine WC.region ?_
  refine WL.u rfl rfl (Wt.plain rfl) (Ex.move rfl) ?_
  refine WL.u rfl rfl (Wt.plain rfl) (Ex.move rfl) ?_
  refine WL.u rfl rfl (Wt.plain rfl) (Ex.indexStr Try.underlying9 rfl rfl (by omega)) ?_
  refine WL.u rfl rfl (Wt.plain rfl) (Ex.move rfl) ?_
  refine WL.u rfl rfl (Wt.plain rfl) (Ex.move rfl) ?_
  refine WL.u rfl rfl (Wt.plain rfl) (Ex.buildS bd80 rfl rfl rfl rfl rfl) ?_
  refine WL.box rfl rfl rfl (Wt.plain rfl) hH (fun b110 wn hb110 hk110 hH => ?_)
  replace hT1 := hT1.kept hk110
  replace hT2 := hT2.kept hk110
  refine WL.u rfl rfl (Wt.plain rfl) (Ex.move rfl) ?_
  refine WL.u rfl rfl (Wt.plain rfl) (Ex.add rfl rfl (by omega)) ?_
  refine WL.u rfl rfl (Wt.plain rfl) (Ex.assign rfl) ?_
  refine WL.u rfl rfl (Wt.plain rfl) (Ex.assign rfl) ?_
  refine WL.next ?_
  refine WC.ret ?_
  refine WN.body2 rfl rfl rfl ?_
  exact ⟨some b110, e87 + 1, rfl, hH.keep, by rw [rdI_bin hp h40, hr1]; dsimp only; rw [if_neg hqB, hr2]; dsimp only; rw [if_neg hqC]; exact ⟨rfl, _, rfl, b1, b2, hH.at 0 rfl, hT1, hT2⟩⟩


theorem ireadTerm (s : Str) (h60 : s.length ≤ 60) (f : Nat) : ∀ (p : Nat) (w : World), p ≤ s.length → s.length < p + f → Fn Try.prog 34 [vstr s, vint p] w (fun v w1 => ∃ ob e, v = .tuple #[PV ob, vint (e : Nat)] ∧ Keep [] w w1 ∧ RdR w1 (rdI s f p) ob e) := by
  induction f with
  | zero => intro p w h1 h2; omega
  | succ f ih => exact fun p w h1 h2 => ireadTerm1 s f p w ih h60 h1 h2
end Go.Proofs.Ytamkbmhgclpidaa

/- Grids of terms in memory. -/
namespace Go.Proofs.Ytamkbmhgclpidaa
set_option maxRecDepth 100000
set_option linter.unusedSimpArgs false
set_option linter.unusedVariables false
open Go Go.RowKit
theorem encode_ascii (c : UInt8) (hc : c.toNat < 128) : Utf8.encode (c.toNat : Int) = ⟨#[c]⟩ := by
  have hv : Utf8.valid (c.toNat : Int) = true := by unfold Utf8.valid; simp; omega
  unfold Utf8.encode
  simp only [hv, if_true, Int.toNat_natCast]
  rw [if_pos hc, UInt8.ofNat_toNat]
theorem wrap32 (c : UInt8) : IntKind.i32.wrap (c.toNat : Int) = (c.toNat : Int) := by
  have := c.toNat_lt
  unfold IntKind.wrap
  simp [IntKind.bits, IntKind.signed]
  omega
section
variable {P : Program} {n : Nat} {σ : Env} {w : World} {d : Option Nat} {ty : TypeId} {pos : String} {af : Array Edge} {g : Option (Nat × Bool)} {x : Operand} {t t' e : TypeId}
theorem Ex.runeStr {c : UInt8} {k : IntKind} (ht : P.underlying t = some (.int k)) (hd : P.underlying t' = some .string) (hx : ev σ x = some (.int k c.toNat)) (hc : c.toNat < 128) : Ex P n ⟨d, .convert t t' x, ty, pos, af, g⟩ σ w (vstr [c]) w := fun a ha => by
  simp [execOp, ha.evl hx, run_convert_int_string (P := P) w t t' k (c.toNat : Int) (by rw [ht]; rfl) hd, encode_ascii c hc]
end
theorem okL_lt {c : UInt8} (h : okL c = true) : c.toNat < 128 := by
  have h := of_decide_eq_true h
  rcases h with rfl | rfl | rfl <;> decide
theorem isU_lt {c : UInt8} (h : isU c = true) : c = 62 ∨ c = 94 ∨ c = 42 := by
  unfold isU at h
  simp only [Bool.or_eq_true, decide_eq_true_eq] at h
  rcases h with (h | h) | h <;> simp [h]
theorem isB_or {c : UInt8} (h : isB c = true) : c = 124 ∨ c = 45 := by
  unfold isB at h
  simpa only [Bool.or_eq_true, decide_eq_true_eq] using h
/-- what grid returns -/
def GdP (t : Tm) (w : World) (v : Value) (w1 : World) : Prop := ∃ x, v = .tuple #[x, .bool (valid t)] ∧ Keep [] w w1 ∧ (valid t = true → New rStr 9 w w1 x (gridT t))
theorem valid_bin {s : UInt8} {a c : Tm} (ha : valid a = true) (hc : valid c = true) : valid (.bin s a c) = (if s = 124 then decide ((sz a).1 = (sz c).1 ∧ (sz a).2 + (sz c).2 ≤ 5) else decide ((sz a).2 = (sz c).2 ∧ (sz a).1 + (sz c).1 ≤ 5)) := by rw [valid, ha, hc]; rfl
theorem valid_no1 {s : UInt8} {a c : Tm} (ha : valid a = false) : valid (.bin s a c) = false := by rw [valid, ha]; rfl
theorem valid_no2 {s : UInt8} {a c : Tm} (hc : valid c = false) : valid (.bin s a c) = false := by rw [valid, hc]; simp

theorem igridLeaf (b : Nat) (c : UInt8) (w : World) (hb : w.heap[b]? = some (.cells #[.int .u8 c.toNat, .pointer none, .pointer none] 80 (0, 0))) (hc : okL c = true) : Fn Try.prog 35 [vptr b 0] w (fun v w1 => ∃ x, v = .tuple #[x, .bool true] ∧ Keep [] w w1 ∧ New rStr 9 w w1 x [[c]]) := by
  refine Fn.enter (n := 76) Try.func35 rfl rfl rfl ?_
  show WC _ _ _ _ [(0, vptr b 0)] _
  have hH := Hp.start [] w
  have hcl := okL_lt hc
  have hcu := u8lt c
  refine WC.seq ?_
  refine WC.region ?_
  refine WL.u rfl rfl (Wt.plain rfl) (Ex.assign rfl) ?_
  refine WL.u rfl rfl (Wt.plain rfl) (Ex.assign rfl) ?_
  refine WL.next ?_
  refine WC.seq ?_
  refine WC.seq ?_
  refine WC.region ?_
  refine WL.u rfl rfl (Wt.plain rfl) (Ex.move rfl) ?_
  refine WL.u rfl rfl (Wt.plain rfl) (Ex.nilCheck rfl) ?_
  refine WL.u rfl rfl (Wt.plain rfl) (Ex.fieldAddr fd80_1 rfl) ?_
  refine WL.u rfl rfl (Wt.plain rfl) (Ex.load flat40 rfl ((cell_of_row _ _ _ _ _ _ (hH.keep.heap hb (by simp))).trans rfl)) ?_
  refine WL.u rfl rfl (Wt.plain rfl) (Ex.eqlNil Try.underlying40 rfl) ?_
  refine WL.next ?_
  refine WC.condT rfl (rfl) ?_
  refine WC.seq ?_
  refine WC.region ?_
  refine WL.u rfl rfl (Wt.plain rfl) (Ex.move rfl) ?_
  refine WL.u rfl rfl (Wt.plain rfl) (Ex.nilCheck rfl) ?_
  refine WL.u rfl rfl (Wt.plain rfl) (Ex.fieldAddr fd80_0 rfl) ?_
  refine WL.u rfl rfl (Wt.plain rfl) (Ex.load flat5 rfl ((cell_of_row _ _ _ _ _ _ (hH.keep.heap hb (by simp))).trans rfl)) ?_
  refine WL.u rfl rfl (Wt.plain rfl) (Ex.conv' Try.underlying21 Try.underlying5 rfl (wrap32 c)) ?_
  refine WL.u rfl rfl (Wt.plain rfl) (Ex.runeStr Try.underlying21 Try.underlying9 rfl (okL_lt hc)) ?_
  refine WL.lit Try.underlying32 ty9 rfl rfl rfl rfl rfl rfl rfl (Wt.plain rfl) hH (fun b18 wn hb18 hk18 hH => ?_)
  have ho18 := Own.str1 [c]
  refine WL.u rfl rfl (Wt.plain rfl) (Ex.assign rfl) ?_
  refine WL.u rfl rfl (Wt.plain rfl) (Ex.assign rfl) ?_
  refine WL.next ?_
  refine WC.ret ?_
  refine WN.retThen ?_
  refine WN.body2 rfl rfl rfl ?_
  exact ⟨_, rfl, hH.keep, New.of hH ho18 (hH.base 0 rfl)⟩

theorem igridUna (b : Nat) (s : UInt8) (a : Tm) (w : World) (iha : ∀ (w2 : World) (b2 : Nat), TreeAt w2 b2 a → Fn Try.prog 35 [vptr b2 0] w2 (GdP a w2)) (hU : isU s = true) (hWa : Wf a) (hT : TreeAt w b (.una s a)) : Fn Try.prog 35 [vptr b 0] w (fun v w1 => GdP (.una s a) w v w1) := by
  refine Fn.enter (n := 76) Try.func35 rfl rfl rfl ?_
  show WC _ _ _ _ [(0, vptr b 0)] _
  have hH := Hp.start [] w
  obtain ⟨ba, hb, hTa⟩ := hT
  have hcu := u8lt s
  refine WC.seq ?_
  refine WC.region ?_
  refine WL.u rfl rfl (Wt.plain rfl) (Ex.assign rfl) ?_
  refine WL.u rfl rfl (Wt.plain rfl) (Ex.assign rfl) ?_
  refine WL.next ?_
  refine WC.seq ?_
  refine WC.seq ?_
  refine WC.region ?_
  refine WL.u rfl rfl (Wt.plain rfl) (Ex.move rfl) ?_
  refine WL.u rfl rfl (Wt.plain rfl) (Ex.nilCheck rfl) ?_
  refine WL.u rfl rfl (Wt.plain rfl) (Ex.fieldAddr fd80_1 rfl) ?_
  refine WL.u rfl rfl (Wt.plain rfl) (Ex.load flat40 rfl ((cell_of_row _ _ _ _ _ _ (hH.keep.heap hb (by simp))).trans rfl)) ?_
  refine WL.u rfl rfl (Wt.plain rfl) (Ex.eqlNil Try.underlying40 rfl) ?_
  refine WL.next ?_
  refine WC.condF rfl (rfl) ?_
  refine WC.skip ?_
  refine WN.next ?_
  refine WC.seq ?_
  refine WC.region ?_
  refine WL.u rfl rfl (Wt.plain rfl) (Ex.move rfl) ?_
  refine WL.u rfl rfl (Wt.plain rfl) (Ex.nilCheck rfl) ?_
  refine WL.u rfl rfl (Wt.plain rfl) (Ex.fieldAddr fd80_1 rfl) ?_
  refine WL.u rfl rfl (Wt.plain rfl) (Ex.load flat40 rfl ((cell_of_row _ _ _ _ _ _ (hH.keep.heap hb (by simp))).trans rfl)) ?_
  refine WL.call callable35 rfl (Wt.plain rfl) rfl rfl (iha _ ba (hTa.kept hH.keep)) ?_
  rintro _ wn ⟨x24, rfl, hC24, hN24⟩; have hHa24 := hH; replace hH := hH.call hC24
  refine WL.u rfl rfl (Wt.plain rfl) (Ex.move rfl) ?_
  refine WL.u rfl rfl (Wt.plain rfl) (Ex.extract rfl rfl) ?_
  refine WL.u rfl rfl (Wt.plain rfl) (Ex.extract rfl rfl) ?_
  refine WL.u rfl rfl (Wt.plain rfl) (Ex.assign rfl) ?_
  refine WL.u rfl rfl (Wt.plain rfl) (Ex.assign rfl) ?_
  refine WL.next ?_
  refine WC.seq ?_
  refine WC.seq ?_
  refine WC.region ?_
  refine WL.u rfl rfl (Wt.plain rfl) (Ex.move rfl) ?_
  refine WL.u rfl rfl (Wt.plain rfl) (Ex.not rfl) ?_
  refine WL.next ?_
  refine WC.cond rfl (fun hc2 => ?_) (fun hc2 => ?_)
  · have hva : valid a = false := by simpa using hc2
    refine WC.seq ?_
    refine WC.region ?_
    refine WL.u rfl rfl (Wt.plain rfl) (Ex.assign rfl) ?_
    refine WL.u rfl rfl (Wt.plain rfl) (Ex.assign rfl) ?_
    refine WL.next ?_
    refine WC.ret ?_
    refine WN.retThen ?_
    refine WN.body2 rfl rfl rfl ?_
    exact ⟨_, by rw [show valid (.una s a) = false from hva] <;> rfl, hH.keep, fun h => by rw [show valid (.una s a) = false from hva] at h; cases h⟩
  have hva : valid a = true := by simpa using hc2
  obtain ⟨hGa, hRa, hCa⟩ := gridT_ok hWa hva
  obtain ⟨b24, cap24, cur24, rfl, hge24, hbb24, ho24⟩ := (hN24 hva).own
  have hg24 := ho24.sl0 hbb24
  refine WC.skip ?_
  refine WN.next ?_
  refine WC.seq ?_
  refine WC.seq ?_
  refine WC.region ?_
  refine WL.u rfl rfl (Wt.plain rfl) (Ex.move rfl) ?_
  refine WL.u rfl rfl (Wt.plain rfl) (Ex.nilCheck rfl) ?_
  refine WL.u rfl rfl (Wt.plain rfl) (Ex.fieldAddr fd80_0 rfl) ?_
  refine WL.u rfl rfl (Wt.plain rfl) (Ex.load flat5 rfl ((cell_of_row _ _ _ _ _ _ (hH.keep.heap hb (by simp))).trans rfl)) ?_
  refine WL.next ?_
  refine WC.block ?_
  refine WC.seq ?_
  refine WC.region ?_
  refine WL.u rfl rfl (Wt.plain rfl) (Ex.eql rfl rfl) ?_
  refine WL.u rfl rfl (Wt.plain rfl) (Ex.assign rfl) ?_
  refine WL.next ?_
  refine WC.cond rfl (fun hc3 => ?_) (fun hc3 => ?_)
  · have hs : s = 62 := ubT 62 (by decide) hc3
    refine WC.seq ?_
    refine WC.region ?_
    refine WL.u rfl rfl (Wt.plain rfl) (Ex.move rfl) ?_
    refine WL.call callable46 rfl (Wt.plain rfl) rfl rfl (iGridTurn (gridT a) _ _ _ hg24 hGa) ?_
    rintro _ wn ⟨_, rfl, hC, hN⟩; obtain ⟨b36, cap36, cur36, rfl, hge36, hbb36, ho36⟩ := hN.own; replace hH := hH.push hC hge36 hbb36; clear hC hN
    refine WL.u rfl rfl (Wt.plain rfl) (Ex.extract rfl rfl) ?_
    refine WL.u rfl rfl (Wt.plain rfl) (Ex.extract rfl rfl) ?_
    refine WL.u rfl rfl (Wt.plain rfl) (Ex.assign rfl) ?_
    refine WL.u rfl rfl (Wt.plain rfl) (Ex.assign rfl) ?_
    refine WL.next ?_
    refine WC.ret ?_
    refine WN.retBlock ?_
    refine WN.retThen ?_
    refine WN.body2 rfl rfl rfl ?_
    exact ⟨_, by rw [show valid (.una s a) = true from hva] <;> rfl, hH.keep, fun _ => by rw [show gridT (.una s a) = _ from by rw [gridT, if_pos hs]]; exact New.of hH ho36 (hH.base 0 rfl)⟩
  have hs1 : s ≠ 62 := ubF 62 (by decide) hc3
  refine WC.seq ?_
  refine WC.region ?_
  refine WL.u rfl rfl (Wt.plain rfl) (Ex.eql rfl rfl) ?_
  refine WL.u rfl rfl (Wt.plain rfl) (Ex.assign rfl) ?_
  refine WL.next ?_
  refine WC.cond rfl (fun hc4 => ?_) (fun hc4 => ?_)
  · have hs : s = 94 := ubT 94 (by decide) hc4
    refine WC.seq ?_
    refine WC.region ?_
    refine WL.u rfl rfl (Wt.plain rfl) (Ex.move rfl) ?_
    refine WL.call callable47 rfl (Wt.plain rfl) rfl rfl (iGridFlip (gridT a) _ _ _ hg24 hGa) ?_
    rintro _ wn ⟨_, rfl, hC, hN⟩; obtain ⟨b42, cap42, cur42, rfl, hge42, hbb42, ho42⟩ := hN.own; replace hH := hH.push hC hge42 hbb42; clear hC hN
    refine WL.u rfl rfl (Wt.plain rfl) (Ex.extract rfl rfl) ?_
    refine WL.u rfl rfl (Wt.plain rfl) (Ex.extract rfl rfl) ?_
    refine WL.u rfl rfl (Wt.plain rfl) (Ex.assign rfl) ?_
    refine WL.u rfl rfl (Wt.plain rfl) (Ex.assign rfl) ?_
    refine WL.next ?_
    refine WC.ret ?_
    refine WN.retBlock ?_
    refine WN.retThen ?_
    refine WN.body2 rfl rfl rfl ?_
    exact ⟨_, by rw [show valid (.una s a) = true from hva] <;> rfl, hH.keep, fun _ => by rw [show gridT (.una s a) = _ from by rw [gridT, if_neg hs1, if_pos hs]]; exact New.of hH ho42 (hH.base 0 rfl)⟩
  have hs2 : s ≠ 94 := ubF 94 (by decide) hc4
  refine WC.seq ?_
  refine WC.region ?_
  refine WL.u rfl rfl (Wt.plain rfl) (Ex.eql rfl rfl) ?_
  refine WL.u rfl rfl (Wt.plain rfl) (Ex.assign rfl) ?_
  refine WL.next ?_
  refine WC.cond rfl (fun hc5 => ?_) (fun hc5 => ?_)
  · have hc5' := hc5; try simp only [decide_eq_true_eq, decide_eq_false_iff_not, Bool.not_eq_true', Bool.not_eq_false', Bool.not_eq_true, Bool.not_eq_false] at hc5'
    refine WC.seq ?_
    refine WC.region ?_
    refine WL.u rfl rfl (Wt.plain rfl) (Ex.move rfl) ?_
    refine WL.call callable48 rfl (Wt.plain rfl) rfl rfl (iGridOther (gridT a) _ _ _ hg24 hGa) ?_
    rintro _ wn ⟨_, rfl, hC, hN⟩; obtain ⟨b48, cap48, cur48, rfl, hge48, hbb48, ho48⟩ := hN.own; replace hH := hH.push hC hge48 hbb48; clear hC hN
    refine WL.u rfl rfl (Wt.plain rfl) (Ex.extract rfl rfl) ?_
    refine WL.u rfl rfl (Wt.plain rfl) (Ex.extract rfl rfl) ?_
    refine WL.u rfl rfl (Wt.plain rfl) (Ex.assign rfl) ?_
    refine WL.u rfl rfl (Wt.plain rfl) (Ex.assign rfl) ?_
    refine WL.next ?_
    refine WC.ret ?_
    refine WN.retBlock ?_
    refine WN.retThen ?_
    refine WN.body2 rfl rfl rfl ?_
    exact ⟨_, by rw [show valid (.una s a) = true from hva] <;> rfl, hH.keep, fun _ => by rw [show gridT (.una s a) = _ from by rw [gridT, if_neg hs1, if_neg hs2]]; exact New.of hH ho48 (hH.base 0 rfl)⟩
  exfalso
  have hs3 : s ≠ 42 := ubF 42 (by decide) hc5
  rcases isU_lt hU with h | h | h
  · exact hs1 h
  · exact hs2 h
  · exact hs3 h

theorem igridBin (b : Nat) (s : UInt8) (a c : Tm) (w : World) (iha : ∀ (w2 : World) (b2 : Nat), TreeAt w2 b2 a → Fn Try.prog 35 [vptr b2 0] w2 (GdP a w2)) (ihc : ∀ (w2 : World) (b2 : Nat), TreeAt w2 b2 c → Fn Try.prog 35 [vptr b2 0] w2 (GdP c w2)) (hU : isB s = true) (hWa : Wf a) (hWc : Wf c) (hT : TreeAt w b (.bin s a c)) : Fn Try.prog 35 [vptr b 0] w (fun v w1 => GdP (.bin s a c) w v w1) := by
  refine Fn.enter (n := 76) Try.func35 rfl rfl rfl ?_
  show WC _ _ _ _ [(0, vptr b 0)] _
  have hH := Hp.start [] w
  obtain ⟨ba, bc, hb, hTa, hTc⟩ := hT
  have hcu := u8lt s
  have hn62 : s ≠ 62 := by rcases isB_or hU with rfl | rfl <;> decide
  have hn94 : s ≠ 94 := by rcases isB_or hU with rfl | rfl <;> decide
  have hn42 : s ≠ 42 := by rcases isB_or hU with rfl | rfl <;> decide
  refine WC.seq ?_
  refine WC.region ?_
  refine WL.u rfl rfl (Wt.plain rfl) (Ex.assign rfl) ?_
  refine WL.u rfl rfl (Wt.plain rfl) (Ex.assign rfl) ?_
  refine WL.next ?_
  refine WC.seq ?_
  refine WC.seq ?_
  refine WC.region ?_
  refine WL.u rfl rfl (Wt.plain rfl) (Ex.move rfl) ?_
  refine WL.u rfl rfl (Wt.plain rfl) (Ex.nilCheck rfl) ?_
  refine WL.u rfl rfl (Wt.plain rfl) (Ex.fieldAddr fd80_1 rfl) ?_
  refine WL.u rfl rfl (Wt.plain rfl) (Ex.load flat40 rfl ((cell_of_row _ _ _ _ _ _ (hH.keep.heap hb (by simp))).trans rfl)) ?_
  refine WL.u rfl rfl (Wt.plain rfl) (Ex.eqlNil Try.underlying40 rfl) ?_
  refine WL.next ?_
  refine WC.condF rfl (rfl) ?_
  refine WC.skip ?_
  refine WN.next ?_
  refine WC.seq ?_
  refine WC.region ?_
  refine WL.u rfl rfl (Wt.plain rfl) (Ex.move rfl) ?_
  refine WL.u rfl rfl (Wt.plain rfl) (Ex.nilCheck rfl) ?_
  refine WL.u rfl rfl (Wt.plain rfl) (Ex.fieldAddr fd80_1 rfl) ?_
  refine WL.u rfl rfl (Wt.plain rfl) (Ex.load flat40 rfl ((cell_of_row _ _ _ _ _ _ (hH.keep.heap hb (by simp))).trans rfl)) ?_
  refine WL.call callable35 rfl (Wt.plain rfl) rfl rfl (iha _ ba (hTa.kept hH.keep)) ?_
  rintro _ wn ⟨x24, rfl, hC24, hN24⟩; have hHa24 := hH; replace hH := hH.call hC24
  refine WL.u rfl rfl (Wt.plain rfl) (Ex.move rfl) ?_
  refine WL.u rfl rfl (Wt.plain rfl) (Ex.extract rfl rfl) ?_
  refine WL.u rfl rfl (Wt.plain rfl) (Ex.extract rfl rfl) ?_
  refine WL.u rfl rfl (Wt.plain rfl) (Ex.assign rfl) ?_
  refine WL.u rfl rfl (Wt.plain rfl) (Ex.assign rfl) ?_
  refine WL.next ?_
  refine WC.seq ?_
  refine WC.seq ?_
  refine WC.region ?_
  refine WL.u rfl rfl (Wt.plain rfl) (Ex.move rfl) ?_
  refine WL.u rfl rfl (Wt.plain rfl) (Ex.not rfl) ?_
  refine WL.next ?_
  refine WC.cond rfl (fun hc2 => ?_) (fun hc2 => ?_)
  · have hva : valid a = false := by simpa using hc2
    refine WC.seq ?_
    refine WC.region ?_
    refine WL.u rfl rfl (Wt.plain rfl) (Ex.assign rfl) ?_
    refine WL.u rfl rfl (Wt.plain rfl) (Ex.assign rfl) ?_
    refine WL.next ?_
    refine WC.ret ?_
    refine WN.retThen ?_
    refine WN.body2 rfl rfl rfl ?_
    exact ⟨_, by rw [valid_no1 hva] <;> rfl, hH.keep, fun h => by rw [valid_no1 hva] at h; cases h⟩
  have hva : valid a = true := by simpa using hc2
  obtain ⟨hGa, hRa, hCa⟩ := gridT_ok hWa hva
  obtain ⟨b24, cap24, cur24, rfl, hge24, hbb24, ho24⟩ := (hN24 hva).own
  have hg24 := ho24.sl0 hbb24
  refine WC.skip ?_
  refine WN.next ?_
  refine WC.seq ?_
  refine WC.seq ?_
  refine WC.region ?_
  refine WL.u rfl rfl (Wt.plain rfl) (Ex.move rfl) ?_
  refine WL.u rfl rfl (Wt.plain rfl) (Ex.nilCheck rfl) ?_
  refine WL.u rfl rfl (Wt.plain rfl) (Ex.fieldAddr fd80_0 rfl) ?_
  refine WL.u rfl rfl (Wt.plain rfl) (Ex.load flat5 rfl ((cell_of_row _ _ _ _ _ _ (hH.keep.heap hb (by simp))).trans rfl)) ?_
  refine WL.next ?_
  refine WC.block ?_
  refine WC.seq ?_
  refine WC.region ?_
  refine WL.u rfl rfl (Wt.plain rfl) (Ex.eql rfl rfl) ?_
  refine WL.u rfl rfl (Wt.plain rfl) (Ex.assign rfl) ?_
  refine WL.next ?_
  refine WC.condF rfl (decide_eq_false (fun h => hn62 ((u8eq s 62 (by decide)).1 h))) ?_
  refine WC.seq ?_
  refine WC.region ?_
  refine WL.u rfl rfl (Wt.plain rfl) (Ex.eql rfl rfl) ?_
  refine WL.u rfl rfl (Wt.plain rfl) (Ex.assign rfl) ?_
  refine WL.next ?_
  refine WC.condF rfl (decide_eq_false (fun h => hn94 ((u8eq s 94 (by decide)).1 h))) ?_
  refine WC.seq ?_
  refine WC.region ?_
  refine WL.u rfl rfl (Wt.plain rfl) (Ex.eql rfl rfl) ?_
  refine WL.u rfl rfl (Wt.plain rfl) (Ex.assign rfl) ?_
  refine WL.next ?_
  refine WC.condF rfl (decide_eq_false (fun h => hn42 ((u8eq s 42 (by decide)).1 h))) ?_
  refine WC.skip ?_
  refine WN.normalBlock ?_
  refine WN.next ?_
  refine WC.seq ?_
  refine WC.region ?_
  refine WL.u rfl rfl (Wt.plain rfl) (Ex.move rfl) ?_
  refine WL.u rfl rfl (Wt.plain rfl) (Ex.nilCheck rfl) ?_
  refine WL.u rfl rfl (Wt.plain rfl) (Ex.fieldAddr fd80_2 rfl) ?_
  refine WL.u rfl rfl (Wt.plain rfl) (Ex.load flat40 rfl ((cell_of_row _ _ _ _ _ _ (hH.keep.heap hb (by simp))).trans rfl)) ?_
  refine WL.call callable35 rfl (Wt.plain rfl) rfl rfl (ihc _ bc (hTc.kept hH.keep)) ?_
  rintro _ wn ⟨x56, rfl, hC56, hN56⟩; have hHa56 := hH; replace hH := hH.call hC56; replace hg24 := hg24.kept hC56
  refine WL.u rfl rfl (Wt.plain rfl) (Ex.move rfl) ?_
  refine WL.u rfl rfl (Wt.plain rfl) (Ex.extract rfl rfl) ?_
  refine WL.u rfl rfl (Wt.plain rfl) (Ex.extract rfl rfl) ?_
  refine WL.u rfl rfl (Wt.plain rfl) (Ex.assign rfl) ?_
  refine WL.u rfl rfl (Wt.plain rfl) (Ex.assign rfl) ?_
  refine WL.next ?_
  refine WC.seq ?_
  refine WC.seq ?_
  refine WC.region ?_
  refine WL.u rfl rfl (Wt.plain rfl) (Ex.move rfl) ?_
  refine WL.u rfl rfl (Wt.plain rfl) (Ex.not rfl) ?_
  refine WL.next ?_
  refine WC.cond rfl (fun hc6 => ?_) (fun hc6 => ?_)
  · have hvc : valid c = false := by simpa using hc6
    refine WC.seq ?_
    refine WC.region ?_
    refine WL.u rfl rfl (Wt.plain rfl) (Ex.assign rfl) ?_
    refine WL.u rfl rfl (Wt.plain rfl) (Ex.assign rfl) ?_
    refine WL.next ?_
    refine WC.ret ?_
    refine WN.retThen ?_
    refine WN.body2 rfl rfl rfl ?_
    exact ⟨_, by rw [valid_no2 hvc] <;> rfl, hH.keep, fun h => by rw [valid_no2 hvc] at h; cases h⟩
  have hvc : valid c = true := by simpa using hc6
  obtain ⟨hGc, hRc, hCc⟩ := gridT_ok hWc hvc
  obtain ⟨b56, cap56, cur56, rfl, hge56, hbb56, ho56⟩ := (hN56 hvc).own
  have hg56 := ho56.sl0 hbb56
  have hvb := valid_bin (s := s) hva hvc
  refine WC.skip ?_
  refine WN.next ?_
  refine WC.seq ?_
  refine WC.seq ?_
  refine WC.region ?_
  refine WL.u rfl rfl (Wt.plain rfl) (Ex.move rfl) ?_
  refine WL.u rfl rfl (Wt.plain rfl) (Ex.nilCheck rfl) ?_
  refine WL.u rfl rfl (Wt.plain rfl) (Ex.fieldAddr fd80_0 rfl) ?_
  refine WL.u rfl rfl (Wt.plain rfl) (Ex.load flat5 rfl ((cell_of_row _ _ _ _ _ _ (hH.keep.heap hb (by simp))).trans rfl)) ?_
  refine WL.u rfl rfl (Wt.plain rfl) (Ex.eql rfl rfl) ?_
  refine WL.next ?_
  refine WC.cond rfl (fun hc7 => ?_) (fun hc7 => ?_)
  · have hs : s = 124 := ubT 124 (by decide) hc7
    refine WC.seq ?_
    refine WC.region ?_
    refine WL.u rfl rfl (Wt.plain rfl) (Ex.move rfl) ?_
    refine WL.u rfl rfl (Wt.plain rfl) (Ex.move rfl) ?_
    refine WL.call callable49 rfl (Wt.plain rfl) rfl rfl (iGridBeside (gridT a) (gridT c) _ _ _ _ _ hg24 hg56 hGa hGc) ?_
    rintro _ wn ⟨_, rfl, hC, hN⟩; obtain ⟨b68, cap68, cur68, rfl, hge68, hbb68, ho68⟩ := hN.own; replace hH := hH.push hC hge68 hbb68; clear hC hN
    refine WL.u rfl rfl (Wt.plain rfl) (Ex.extract rfl rfl) ?_
    refine WL.u rfl rfl (Wt.plain rfl) (Ex.extract rfl rfl) ?_
    refine WL.u rfl rfl (Wt.plain rfl) (Ex.assign rfl) ?_
    refine WL.u rfl rfl (Wt.plain rfl) (Ex.assign rfl) ?_
    refine WL.next ?_
    refine WC.ret ?_
    refine WN.retThen ?_
    refine WN.body2 rfl rfl rfl ?_
    rw [if_pos hs, ← hRa, ← hCa, ← hRc, ← hCc] at hvb
    have hN := New.of hH ho68 (hH.base 0 rfl)
    exact ⟨_, by rw [hvb] <;> rfl, hH.keep, fun h => by
      rw [hvb] at h
      have h5 : nR (gridT a) = nR (gridT c) ∧ nC (gridT a) + nC (gridT c) ≤ 5 := of_decide_eq_true h
      rw [show gridT (.bin s a c) = (if nR (gridT a) = nR (gridT c) ∧ nC (gridT a) + nC (gridT c) ≤ 5 then besideG (gridT a) (gridT c) else []) from by rw [if_pos h5, gridT, if_pos hs]]
      exact hN⟩
  have hs : s ≠ 124 := ubF 124 (by decide) hc7
  refine WC.skip ?_
  refine WN.next ?_
  refine WC.seq ?_
  refine WC.region ?_
  refine WL.u rfl rfl (Wt.plain rfl) (Ex.move rfl) ?_
  refine WL.u rfl rfl (Wt.plain rfl) (Ex.move rfl) ?_
  refine WL.call callable50 rfl (Wt.plain rfl) rfl rfl (iGridUnder (gridT a) (gridT c) _ _ _ _ _ hg24 hg56 hGa hGc) ?_
  rintro _ wn ⟨_, rfl, hC, hN⟩; obtain ⟨b73, cap73, cur73, rfl, hge73, hbb73, ho73⟩ := hN.own; replace hH := hH.push hC hge73 hbb73; clear hC hN
  refine WL.u rfl rfl (Wt.plain rfl) (Ex.extract rfl rfl) ?_
  refine WL.u rfl rfl (Wt.plain rfl) (Ex.extract rfl rfl) ?_
  refine WL.u rfl rfl (Wt.plain rfl) (Ex.assign rfl) ?_
  refine WL.u rfl rfl (Wt.plain rfl) (Ex.assign rfl) ?_
  refine WL.next ?_
  refine WC.ret ?_
  refine WN.body2 rfl rfl rfl ?_
  rw [if_neg hs, ← hRa, ← hCa, ← hRc, ← hCc] at hvb
  have hN := New.of hH ho73 (hH.base 0 rfl)
  exact ⟨_, by rw [hvb] <;> rfl, hH.keep, fun h => by
    rw [hvb] at h
    have h5 : nC (gridT a) = nC (gridT c) ∧ nR (gridT a) + nR (gridT c) ≤ 5 := of_decide_eq_true h
    rw [show gridT (.bin s a c) = (if nC (gridT a) = nC (gridT c) ∧ nR (gridT a) + nR (gridT c) ≤ 5 then gridT a ++ gridT c else []) from by rw [if_pos h5, gridT, if_neg hs]]
    exact hN⟩


theorem igridT : ∀ (t : Tm), Wf t → ∀ (w : World) (b : Nat), TreeAt w b t → Fn Try.prog 35 [vptr b 0] w (GdP t w)
  | .leaf c, h, w, b, hT => by
    cases h with
    | leaf hc => exact (igridLeaf b c w hT hc).mono fun v w1 ⟨x, h1, h2, h3⟩ => ⟨x, h1, h2, fun _ => h3⟩
  | .una s a, h, w, b, hT => by
    cases h with
    | una hs ha => exact igridUna b s a w (fun w2 b2 h => igridT a ha w2 b2 h) hs ha hT
  | .bin s a c, h, w, b, hT => by
    cases h with
    | bin hs ha hc => exact igridBin b s a c w (fun w2 b2 h => igridT a ha w2 b2 h) (fun w2 b2 h => igridT c hc w2 b2 h) hs ha hc hT
/-- what termOf returns -/
def TOfP (s : Str) (w : World) (v : Value) (w1 : World) : Prop := ∃ p x, v = .tuple #[p, x, .bool (termT s).isSome] ∧ Keep [] w w1 ∧ ∀ t, termT s = some t → Wf t ∧ valid t = true ∧ New rStr 9 w w1 x (gridT t) ∧ ∃ b, p = vptr b 0 ∧ TreeAt w1 b t
theorem termT_wf {s : Str} {t : Tm} (h : readT s = some t) : Wf t := by
  unfold readT at h
  split at h
  · cases h
  · split at h
    · cases h
    · next t1 e hr =>
      split at h
      · cases h; exact (rdI_ok hr).1
      · cases h
theorem readT_long {s : Str} (h : 60 < s.length) : readT s = none := if_pos h
theorem readT_none {s : Str} (h : s.length ≤ 60) (hr : rdI s (s.length + 1) 0 = none) : readT s = none := by rw [readT, if_neg (by omega), hr]
theorem readT_part {s : Str} {t : Tm} {e : Nat} (h : s.length ≤ 60) (hr : rdI s (s.length + 1) 0 = some (t, e)) (he : e ≠ s.length) : readT s = none := by rw [readT, if_neg (by omega), hr]; exact if_neg he
theorem readT_all {s : Str} {t : Tm} (h : s.length ≤ 60) (hr : rdI s (s.length + 1) 0 = some (t, s.length)) : readT s = some t := by rw [readT, if_neg (by omega), hr]; exact if_pos rfl
theorem termT_none {s : Str} (h : readT s = none) : termT s = none := by rw [termT, h]
theorem termT_at {s : Str} {t : Tm} (h : readT s = some t) : termT s = if valid t = true then some t else none := by rw [termT, h]

theorem itermOf (s : Str) (w : World) (hs : s.length ≤ 1048577) : Fn Try.prog 21 [vstr s] w (fun v w1 => TOfP s w v w1) := by
  refine Fn.enter (n := 33) Try.func21 rfl rfl rfl ?_
  show WC _ _ _ _ [(0, vstr s)] _
  have hH := Hp.start [] w
  refine WC.seq ?_
  refine WC.region ?_
  refine WL.u rfl rfl (Wt.plain rfl) (Ex.assign rfl) ?_
  refine WL.u rfl rfl (Wt.plain rfl) (Ex.assign rfl) ?_
  refine WL.u rfl rfl (Wt.plain rfl) (Ex.assign rfl) ?_
  refine WL.next ?_
  refine WC.seq ?_
  refine WC.seq ?_
  refine WC.region ?_
  refine WL.u rfl rfl (Wt.plain rfl) (Ex.move rfl) ?_
  refine WL.u rfl rfl (Wt.plain rfl) (Ex.lenStr Try.underlying9 rfl) ?_
  refine WL.u rfl rfl (Wt.plain rfl) (Ex.gtr rfl rfl) ?_
  refine WL.next ?_
  refine WC.cond rfl (fun hc1 => ?_) (fun hc1 => ?_)
  · have hc1' := hc1; try simp only [decide_eq_true_eq, decide_eq_false_iff_not, Bool.not_eq_true', Bool.not_eq_false', Bool.not_eq_true, Bool.not_eq_false] at hc1'
    have hrn : termT s = none := termT_none (readT_long (by omega))
    refine WC.seq ?_
    refine WC.region ?_
    refine WL.u rfl rfl (Wt.plain rfl) (Ex.assign rfl) ?_
    refine WL.u rfl rfl (Wt.plain rfl) (Ex.assign rfl) ?_
    refine WL.u rfl rfl (Wt.plain rfl) (Ex.assign rfl) ?_
    refine WL.next ?_
    refine WC.ret ?_
    refine WN.retThen ?_
    refine WN.body3 rfl rfl rfl rfl ?_
    exact ⟨_, _, by rw [hrn] <;> rfl, hH.keep, fun t h => by rw [hrn] at h; cases h⟩
  have hc1' := hc1; try simp only [decide_eq_true_eq, decide_eq_false_iff_not, Bool.not_eq_true', Bool.not_eq_false', Bool.not_eq_true, Bool.not_eq_false] at hc1'
  have h60 : s.length ≤ 60 := by omega
  refine WC.skip ?_
  refine WN.next ?_
  refine WC.seq ?_
  refine WC.region ?_
  refine WL.u rfl rfl (Wt.plain rfl) (Ex.move rfl) ?_
  refine WL.call callable34 rfl (Wt.plain rfl) rfl rfl (ireadTerm s h60 (s.length + 1) 0 _ (by omega) (by omega)) ?_
  rintro _ wn ⟨ob14, e14, rfl, hC, hR14⟩; replace hH := hH.call hC
  refine WL.u rfl rfl (Wt.plain rfl) (Ex.move rfl) ?_
  refine WL.u rfl rfl (Wt.plain rfl) (Ex.extract rfl rfl) ?_
  refine WL.u rfl rfl (Wt.plain rfl) (Ex.extract rfl rfl) ?_
  refine WL.u rfl rfl (Wt.plain rfl) (Ex.assign rfl) ?_
  refine WL.u rfl rfl (Wt.plain rfl) (Ex.assign rfl) ?_
  refine WL.next ?_
  refine WC.seq ?_
  refine WC.seq ?_
  refine WC.region ?_
  refine WL.u rfl rfl (Wt.plain rfl) (Ex.move rfl) ?_
  refine WL.u rfl rfl (Wt.plain rfl) (Ex.eqlNil Try.underlying40 rfl) ?_
  refine WL.u rfl rfl (Wt.plain rfl) (Ex.move rfl) ?_
  refine WL.split (t := 19) rfl (fun hg4_2 => ?_) (fun hg4_2 => ?_)
  · have hrn : termT s = none := termT_none (readT_none h60 (hR14.none hg4_2))
    refine WL.pass rfl rfl (Wt.guard' rfl rfl rfl hg4_2 rfl) ?_
    refine WL.pass rfl rfl (Wt.guard' rfl rfl rfl hg4_2 rfl) ?_
    refine WL.pass rfl rfl (Wt.guard' rfl rfl rfl hg4_2 rfl) ?_
    refine WL.pass rfl rfl (Wt.guard' rfl rfl rfl hg4_2 rfl) ?_
    refine WL.u rfl rfl (Wt.plain rfl) (Ex.pickT rfl hg4_2 rfl) ?_
    refine WL.next ?_
    refine WC.condT rfl rfl ?_
    refine WC.seq ?_
    refine WC.region ?_
    refine WL.u rfl rfl (Wt.plain rfl) (Ex.assign rfl) ?_
    refine WL.u rfl rfl (Wt.plain rfl) (Ex.assign rfl) ?_
    refine WL.u rfl rfl (Wt.plain rfl) (Ex.assign rfl) ?_
    refine WL.next ?_
    refine WC.ret ?_
    refine WN.retThen ?_
    refine WN.body3 rfl rfl rfl rfl ?_
    exact ⟨_, _, by rw [hrn] <;> rfl, hH.keep, fun t h => by rw [hrn] at h; cases h⟩
  obtain ⟨t1, b1, hr1, rfl, hT1⟩ := hR14.some hg4_2
  refine WL.u rfl rfl (Wt.guard' rfl rfl rfl hg4_2 rfl) (Ex.move rfl) ?_
  refine WL.u rfl rfl (Wt.guard' rfl rfl rfl hg4_2 rfl) (Ex.move rfl) ?_
  refine WL.u rfl rfl (Wt.guard' rfl rfl rfl hg4_2 rfl) (Ex.lenStr Try.underlying9 rfl) ?_
  refine WL.u rfl rfl (Wt.guard' rfl rfl rfl hg4_2 rfl) (Ex.neq rfl rfl) ?_
  refine WL.u rfl rfl (Wt.plain rfl) (Ex.pickF rfl hg4_2 rfl) ?_
  refine WL.next ?_
  refine WC.cond rfl (fun hc2 => ?_) (fun hc2 => ?_)
  · have hc2' := hc2; try simp only [decide_eq_true_eq, decide_eq_false_iff_not, Bool.not_eq_true', Bool.not_eq_false', Bool.not_eq_true, Bool.not_eq_false] at hc2'
    have hrn : termT s = none := termT_none (readT_part h60 hr1 (by omega))
    refine WC.seq ?_
    refine WC.region ?_
    refine WL.u rfl rfl (Wt.plain rfl) (Ex.assign rfl) ?_
    refine WL.u rfl rfl (Wt.plain rfl) (Ex.assign rfl) ?_
    refine WL.u rfl rfl (Wt.plain rfl) (Ex.assign rfl) ?_
    refine WL.next ?_
    refine WC.ret ?_
    refine WN.retThen ?_
    refine WN.body3 rfl rfl rfl rfl ?_
    exact ⟨_, _, by rw [hrn] <;> rfl, hH.keep, fun t h => by rw [hrn] at h; cases h⟩
  have hc2' := hc2; try simp only [decide_eq_true_eq, decide_eq_false_iff_not, Bool.not_eq_true', Bool.not_eq_false', Bool.not_eq_true, Bool.not_eq_false] at hc2'
  obtain rfl : e14 = s.length := by omega
  have hrt := readT_all h60 hr1
  have hW := termT_wf hrt
  refine WC.skip ?_
  refine WN.next ?_
  refine WC.seq ?_
  refine WC.region ?_
  refine WL.u rfl rfl (Wt.plain rfl) (Ex.move rfl) ?_
  refine WL.call callable35 rfl (Wt.plain rfl) rfl rfl (igridT t1 hW _ b1 hT1) ?_
  rintro _ wn ⟨x27, rfl, hC, hN27⟩; have hHa := hH; replace hT1 := hT1.kept hC; replace hH := hH.call hC
  refine WL.u rfl rfl (Wt.plain rfl) (Ex.move rfl) ?_
  refine WL.u rfl rfl (Wt.plain rfl) (Ex.extract rfl rfl) ?_
  refine WL.u rfl rfl (Wt.plain rfl) (Ex.extract rfl rfl) ?_
  refine WL.u rfl rfl (Wt.plain rfl) (Ex.assign rfl) ?_
  refine WL.u rfl rfl (Wt.plain rfl) (Ex.assign rfl) ?_
  refine WL.next ?_
  refine WC.seq ?_
  refine WC.region ?_
  refine WL.u rfl rfl (Wt.plain rfl) (Ex.move rfl) ?_
  refine WL.u rfl rfl (Wt.plain rfl) (Ex.move rfl) ?_
  refine WL.u rfl rfl (Wt.plain rfl) (Ex.move rfl) ?_
  refine WL.u rfl rfl (Wt.plain rfl) (Ex.assign rfl) ?_
  refine WL.u rfl rfl (Wt.plain rfl) (Ex.assign rfl) ?_
  refine WL.u rfl rfl (Wt.plain rfl) (Ex.assign rfl) ?_
  refine WL.next ?_
  refine WC.ret ?_
  refine WN.body3 rfl rfl rfl rfl ?_
  have he := termT_at hrt
  refine ⟨vptr b1 0, x27, ?_, hH.keep, fun t h => ?_⟩
  · rw [he]; cases valid t1 <;> rfl
  · rw [he] at h
    cases hv : valid t1 with
    | false => rw [hv] at h; cases h
    | true =>
      rw [hv] at h
      cases h
      exact ⟨hW, hv, by obtain ⟨b3, cap3, cur3, e3, hge3, hbb3, ho3⟩ := (hN27 hv).own; rw [e3]; exact New.of (hHa.push hC hge3 hbb3) ho3 ((hHa.push hC hge3 hbb3).base 0 rfl), b1, rfl, hT1⟩


def termIn (s : Str) : Bool := (termT s).isSome
def termGrid (s : Str) : Grid × Bool := match termT s with
  | some t => (gridT t, true)
  | none => ([], false)
def termSize (s : Str) : (Nat × Nat) × Bool := match termT s with
  | some t => (sz t, true)
  | none => ((0, 0), false)
theorem termGrid_at {s : Str} {t : Tm} (h : termT s = some t) : termGrid s = (gridT t, true) := by rw [termGrid, h]
theorem termGrid_not {s : Str} (h : termT s = none) : termGrid s = ([], false) := by rw [termGrid, h]
theorem termSize_at {s : Str} {t : Tm} (h : termT s = some t) : termSize s = (sz t, true) := by rw [termSize, h]
theorem termSize_not {s : Str} (h : termT s = none) : termSize s = ((0, 0), false) := by rw [termSize, h]
theorem termT_ok {s : Str} {t : Tm} (h : termT s = some t) : Wf t ∧ valid t = true := by
  unfold termT at h
  split at h
  · cases h
  · next t1 hr =>
    split at h
    · next hv => cases h; exact ⟨termT_wf hr, hv⟩
    · cases h

theorem iTermGrid (s : Str) (w : World) (hs : s.length ≤ 1048577) : Fn Try.prog 16 [vstr s] w (fun v w1 => ∃ x, v = .tuple #[x, .bool (termGrid s).2] ∧ Keep [] w w1 ∧ New rStr 9 w w1 x (termGrid s).1) := by
  refine Fn.enter (n := 17) Try.func16 rfl rfl rfl ?_
  show WC _ _ _ _ [(0, vstr s)] _
  have hH := Hp.start [] w
  refine WC.seq ?_
  refine WC.region ?_
  refine WL.u rfl rfl (Wt.plain rfl) (Ex.assign rfl) ?_
  refine WL.u rfl rfl (Wt.plain rfl) (Ex.assign rfl) ?_
  refine WL.next ?_
  refine WC.seq ?_
  refine WC.region ?_
  refine WL.u rfl rfl (Wt.plain rfl) (Ex.move rfl) ?_
  refine WL.call callable21 rfl (Wt.plain rfl) rfl rfl (itermOf _ _ (by omega)) ?_
  rintro _ wn ⟨p9, x9, rfl, hC, hT9⟩; have hHa9 := hH; have hCa9 := hC; replace hH := hH.call hC
  refine WL.u rfl rfl (Wt.plain rfl) (Ex.move rfl) ?_
  refine WL.u rfl rfl (Wt.plain rfl) (Ex.extract rfl rfl) ?_
  refine WL.u rfl rfl (Wt.plain rfl) (Ex.extract rfl rfl) ?_
  refine WL.u rfl rfl (Wt.plain rfl) (Ex.extract rfl rfl) ?_
  refine WL.u rfl rfl (Wt.plain rfl) (Ex.assign rfl) ?_
  refine WL.u rfl rfl (Wt.plain rfl) (Ex.assign rfl) ?_
  refine WL.u rfl rfl (Wt.plain rfl) (Ex.assign rfl) ?_
  refine WL.next ?_
  refine WC.seq ?_
  refine WC.seq ?_
  refine WC.region ?_
  refine WL.u rfl rfl (Wt.plain rfl) (Ex.move rfl) ?_
  refine WL.u rfl rfl (Wt.plain rfl) (Ex.not rfl) ?_
  refine WL.next ?_
  refine WC.cond rfl (fun hc1 => ?_) (fun hc1 => ?_)
  · have htn : termT s = none := by simpa using hc1
    refine WC.seq ?_
    refine WC.region ?_
    refine WL.lit0 Try.underlying32 ty9 rfl (Wt.plain rfl) hH (fun b15 wn hb15 hk15 hH => ?_)
    have ho15 := Own.nil rStr
    refine WL.u rfl rfl (Wt.plain rfl) (Ex.assign rfl) ?_
    refine WL.u rfl rfl (Wt.plain rfl) (Ex.assign rfl) ?_
    refine WL.next ?_
    refine WC.ret ?_
    refine WN.retThen ?_
    refine WN.body2 rfl rfl rfl ?_
    have e := termGrid_not htn
    exact ⟨_, by rw [e] <;> rfl, hH.keep, by rw [e]; exact New.of hH ho15 (hH.base 0 rfl)⟩
  have hts : (termT s).isSome = true := by simpa using hc1
  obtain ⟨t, ht⟩ := Option.isSome_iff_exists.1 hts
  obtain ⟨hW, hv, hN, _⟩ := hT9 t ht
  obtain ⟨b9, cap9, cur9, rfl, hge9, hbb9, ho9⟩ := hN.own
  replace hH := hHa9.push hCa9 hge9 hbb9
  refine WC.skip ?_
  refine WN.next ?_
  refine WC.seq ?_
  refine WC.region ?_
  refine WL.u rfl rfl (Wt.plain rfl) (Ex.move rfl) ?_
  refine WL.u rfl rfl (Wt.plain rfl) (Ex.assign rfl) ?_
  refine WL.u rfl rfl (Wt.plain rfl) (Ex.assign rfl) ?_
  refine WL.next ?_
  refine WC.ret ?_
  refine WN.body2 rfl rfl rfl ?_
  have e := termGrid_at ht
  exact ⟨_, by rw [e] <;> rfl, hH.keep, by rw [e]; exact New.of hH ho9 (hH.base 0 rfl)⟩

end Go.Proofs.Ytamkbmhgclpidaa
