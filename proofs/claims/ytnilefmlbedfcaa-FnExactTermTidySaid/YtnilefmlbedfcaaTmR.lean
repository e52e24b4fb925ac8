/- Terms in memory: how they are read, their grids. -/
import Derived.Test.YtnilefmlbedfcaaTmG
import Derived.Test.YtnilefmlbedfcaaTermO
import Derived.Test.YtnilefmlbedfcaaPlan2
import Derived.Laws.Pointers
namespace Go.Proofs.Ytnilefmlbedfcaa
set_option maxRecDepth 100000
set_option linter.unusedSimpArgs false
set_option linter.unusedVariables false
open Go Go.RowKit
section
variable {P : Program} {n : Nat} {σ : Env} {w : World} {d : Option Nat} {ty : TypeId} {pos : String} {af : Array Edge} {g : Option (Nat × Bool)} {x : Operand} {t t' e : TypeId}
theorem Ex.eqlNil {q : Option Addr} (ht : P.underlying t = some (.pointer e)) (hx : ev σ x = some (.pointer q)) : Ex P n ⟨d, .binOp .eql t x (.const (.pointer none)) t', ty, pos, af, g⟩ σ w (.bool q.isNone) w := fun a ha => by
  have hp : P.underlying t = some (.pointer (P.pointee t)) := by unfold Program.pointee; rw [ht]
  have h := run_eql_pointer_nil (P := P) w t q hp
  have hy : a.eval (.const (.pointer none)) = .pointer none := rfl
  simp only [execOp, ha.evl hx, hy]
  simp [eqGuard, h]
end
theorem ubT {c : UInt8} (k : Nat) (hk : k < 256) (h : decide ((c.toNat : Int) = (k : Int)) = true) : c = UInt8.ofNat k := (u8eq c k hk).1 (of_decide_eq_true h)
theorem ubF {c : UInt8} (k : Nat) (hk : k < 256) (h : decide ((c.toNat : Int) = (k : Int)) = false) : c ≠ UInt8.ofNat k := fun e => of_decide_eq_false h ((u8eq c k hk).2 e)
theorem nbT {c : UInt8} (k : Nat) (hk : k < 256) (h : decide ((c.toNat : Int) ≠ (k : Int)) = true) : c ≠ UInt8.ofNat k := fun e => of_decide_eq_true h ((u8eq c k hk).2 e)
theorem nbF {c : UInt8} (k : Nat) (hk : k < 256) (h : decide ((c.toNat : Int) ≠ (k : Int)) = false) : c = UInt8.ofNat k := (u8eq c k hk).1 (Classical.not_not.1 (of_decide_eq_false h))
def PV (ob : Option Nat) : Value := .pointer (ob.map fun b => ⟨b, 0, none⟩)
def TreeAt (w : World) : Nat → Tm → Prop
  | b, .leaf c => w.heap[b]? = some (.cells #[.int .u8 c.toNat, .pointer none, .pointer none] 87 (0, 0))
  | b, .una s a => ∃ ba, w.heap[b]? = some (.cells #[.int .u8 s.toNat, vptr ba 0, .pointer none] 87 (0, 0)) ∧ TreeAt w ba a
  | b, .bin s a c => ∃ ba bc, w.heap[b]? = some (.cells #[.int .u8 s.toNat, vptr ba 0, vptr bc 0] 87 (0, 0)) ∧ TreeAt w ba a ∧ TreeAt w bc c
theorem TreeAt.kept {w w' : World} (k : Keep [] w w') : ∀ {t : Tm} {b : Nat}, TreeAt w b t → TreeAt w' b t
  | .leaf _, b, h => k.heap h (by simp)
  | .una _ a, b, ⟨ba, h, ha⟩ => ⟨ba, k.heap h (by simp), TreeAt.kept k ha⟩
  | .bin _ a c, b, ⟨ba, bc, h, ha, hc⟩ => ⟨ba, bc, k.heap h (by simp), TreeAt.kept k ha, TreeAt.kept k hc⟩
/-- what readTerm returns -/
def RdR (w : World) (r : Option (Tm × Nat)) (ob : Option Nat) (e : Nat) : Prop := match r with
  | none => ob = none ∧ e = 0
  | some (t, q) => e = q ∧ ∃ b, ob = some b ∧ TreeAt w b t
theorem RdR.none {w : World} {r : Option (Tm × Nat)} {ob : Option Nat} {e : Nat} (h : RdR w r ob e) (ho : (ob.map fun b => (⟨b, 0, .none⟩ : Addr)).isNone = true) : r = .none := by
  match r, h with
  | .none, _ => rfl
  | some (t, q), ⟨_, b, hb, _⟩ => subst hb; cases ho
theorem RdR.some {w : World} {r : Option (Tm × Nat)} {ob : Option Nat} {e : Nat} (h : RdR w r ob e) (ho : (ob.map fun b => (⟨b, 0, .none⟩ : Addr)).isNone = false) : ∃ t b, r = .some (t, e) ∧ ob = .some b ∧ TreeAt w b t := by
  match r, h with
  | .none, ⟨hb, _⟩ => subst hb; cases ho
  | .some (t, q), ⟨he, b, hb, ht⟩ => subst he; exact ⟨t, b, rfl, hb, ht⟩

set_option maxHeartbeats 1000000 in
theorem ireadTerm1 (s : Str) (f p : Nat) (w : World) (ih : ∀ (p : Nat) (w2 : World), p ≤ s.length → s.length < p + f → Fn Try.prog 91 [vstr s, vint p] w2 (fun v w3 => ∃ ob e, v = .tuple #[PV ob, vint (e : Nat)] ∧ Keep [] w2 w3 ∧ RdR w3 (rdI s f p) ob e)) (h60 : s.length ≤ 60) (hpl : p ≤ s.length) (hf : s.length < p + (f + 1)) : Fn Try.prog 91 [vstr s, vint p] w (fun v w1 => ∃ ob e, v = .tuple #[PV ob, vint (e : Nat)] ∧ Keep [] w w1 ∧ RdR w1 (rdI s (f + 1) p) ob e) := by
  refine Fn.enter (n := 113) Try.func91 rfl rfl rfl ?_
  show WC _ _ _ _ [(0, vstr s), (1, vint p)] _
  have hH := Hp.start [] w
  refine WC.seq ?_
  refine WC.region ?_
  refine WL.u rfl rfl (Wt.plain rfl) (Ex.assign rfl) ?_
  refine WL.u rfl rfl (Wt.plain rfl) (Ex.assign rfl) ?_
  refine WL.next ?_
  refine WC.seq ?_
  refine WC.seq ?_
  refine WC.region ?_
  refine WL.u rfl rfl (Wt.plain rfl) (Ex.move rfl) ?_
  refine WL.u rfl rfl (Wt.plain rfl) (Ex.move rfl) ?_
  refine WL.u rfl rfl (Wt.plain rfl) (Ex.lenStr Try.underlying9 rfl) ?_
  refine WL.u rfl rfl (Wt.plain rfl) (Ex.geq rfl rfl) ?_
  refine WL.next ?_
  refine WC.cond rfl (fun hc1 => ?_) (fun hc1 => ?_)
  · have hc1' := hc1; try simp only [decide_eq_true_eq, decide_eq_false_iff_not, Bool.not_eq_true', Bool.not_eq_false', Bool.not_eq_true, Bool.not_eq_false] at hc1'
    refine WC.seq ?_
    refine WC.region ?_
    refine WL.u rfl rfl (Wt.plain rfl) (Ex.assign rfl) ?_
    refine WL.u rfl rfl (Wt.plain rfl) (Ex.assign rfl) ?_
    refine WL.next ?_
    refine WC.ret ?_
    refine WN.retThen ?_
    refine WN.body2 rfl rfl rfl ?_
    exact ⟨none, 0, rfl, hH.keep, by rw [rdI_end (by omega)]; exact ⟨rfl, rfl⟩⟩
  have hc1' := hc1; try simp only [decide_eq_true_eq, decide_eq_false_iff_not, Bool.not_eq_true', Bool.not_eq_false', Bool.not_eq_true, Bool.not_eq_false] at hc1'
  have hp : p < s.length := by omega
  have hcl := u8lt (s.getD p 0)
  refine WC.skip ?_
  refine WN.next ?_
  refine WC.seq ?_
  refine WC.region ?_
  refine WL.u rfl rfl (Wt.plain rfl) (Ex.move rfl) ?_
  refine WL.u rfl rfl (Wt.plain rfl) (Ex.move rfl) ?_
  refine WL.u rfl rfl (Wt.plain rfl) (Ex.indexStr Try.underlying9 rfl rfl (by omega)) ?_
  refine WL.u rfl rfl (Wt.plain rfl) (Ex.assign rfl) ?_
  refine WL.next ?_
  refine WC.seq ?_
  refine WC.block ?_
  refine WC.seq ?_
  refine WC.region ?_
  refine WL.u rfl rfl (Wt.plain rfl) (Ex.move rfl) ?_
  refine WL.call callable74 rfl (Wt.plain rfl) rfl rfl (iletterOk _ _) ?_
  rintro _ _ ⟨rfl, hw⟩; obtain rfl := hw.symm
  refine WL.u rfl rfl (Wt.plain rfl) (Ex.assign rfl) ?_
  refine WL.next ?_
  refine WC.cond rfl (fun hc2 => ?_) (fun hc2 => ?_)
  · have hc2' := hc2; try simp only [decide_eq_true_eq, decide_eq_false_iff_not, Bool.not_eq_true', Bool.not_eq_false', Bool.not_eq_true, Bool.not_eq_false] at hc2'
    refine WC.seq ?_
    refine WC.region ?_
    refine WL.u rfl rfl (Wt.plain rfl) (Ex.move rfl) ?_
    refine WL.u rfl rfl (Wt.plain rfl) (Ex.build (pv := [(0, _)]) bd87 rfl rfl rfl) ?_
    refine WL.box rfl rfl rfl (Wt.plain rfl) hH (fun b25 wn hb25 hk25 hH => ?_)
    refine WL.u rfl rfl (Wt.plain rfl) (Ex.move rfl) ?_
    refine WL.u rfl rfl (Wt.plain rfl) (Ex.add rfl rfl (by omega)) ?_
    refine WL.u rfl rfl (Wt.plain rfl) (Ex.assign rfl) ?_
    refine WL.u rfl rfl (Wt.plain rfl) (Ex.assign rfl) ?_
    refine WL.next ?_
    refine WC.ret ?_
    refine WN.retBlock ?_
    refine WN.retThen ?_
    refine WN.body2 rfl rfl rfl ?_
    exact ⟨some b25, p + 1, rfl, hH.keep, by rw [rdI_leaf hp hc2]; exact ⟨rfl, _, rfl, hH.at 0 rfl⟩⟩
  have hc2' := hc2; try simp only [decide_eq_true_eq, decide_eq_false_iff_not, Bool.not_eq_true', Bool.not_eq_false', Bool.not_eq_true, Bool.not_eq_false] at hc2'
  refine WC.seq ?_
  refine WC.region ?_
  refine WL.u rfl rfl (Wt.plain rfl) (Ex.move rfl) ?_
  refine WL.u rfl rfl (Wt.plain rfl) (Ex.eql rfl rfl) ?_
  refine WL.u rfl rfl (Wt.plain rfl) (Ex.move rfl) ?_
  refine WL.split (t := 31) rfl (fun hg6_2 => ?_) (fun hg6_2 => ?_)
  · have hg6_2' := hg6_2; try simp only [decide_eq_true_eq, decide_eq_false_iff_not, Bool.not_eq_true', Bool.not_eq_false', Bool.not_eq_true, Bool.not_eq_false] at hg6_2'
    have hu : isU (s.getD p 0) = true := by rw [(show s.getD p 0 = 62 from ubT 62 (by decide) hg6_2)]; rfl
    refine WL.pass rfl rfl (Wt.guard' rfl rfl rfl hg6_2 rfl) ?_
    refine WL.pass rfl rfl (Wt.guard' rfl rfl rfl hg6_2 rfl) ?_
    refine WL.u rfl rfl (Wt.plain rfl) (Ex.pickT rfl hg6_2 rfl) ?_
    refine WL.u rfl rfl (Wt.plain rfl) (Ex.move rfl) ?_
    refine WL.pass rfl rfl (Wt.guard' rfl rfl rfl rfl rfl) ?_
    refine WL.pass rfl rfl (Wt.guard' rfl rfl rfl rfl rfl) ?_
    refine WL.u rfl rfl (Wt.plain rfl) (Ex.pickT rfl rfl rfl) ?_
    refine WL.u rfl rfl (Wt.plain rfl) (Ex.assign rfl) ?_
    refine WL.next ?_
    refine WC.condT rfl rfl ?_
    refine WC.seq ?_
    refine WC.region ?_
    refine WL.u rfl rfl (Wt.plain rfl) (Ex.move rfl) ?_
    refine WL.u rfl rfl (Wt.plain rfl) (Ex.move rfl) ?_
    refine WL.u rfl rfl (Wt.plain rfl) (Ex.add rfl rfl (by omega)) ?_
    refine WL.call callable91 rfl (Wt.plain rfl) rfl rfl (ih (p + 1) _ (by omega) (by omega)) ?_
    rintro _ wn ⟨ob43, e43, rfl, hC, hR43⟩; replace hH := hH.call hC
    refine WL.u rfl rfl (Wt.plain rfl) (Ex.move rfl) ?_
    refine WL.u rfl rfl (Wt.plain rfl) (Ex.extract rfl rfl) ?_
    refine WL.u rfl rfl (Wt.plain rfl) (Ex.extract rfl rfl) ?_
    refine WL.u rfl rfl (Wt.plain rfl) (Ex.assign rfl) ?_
    refine WL.u rfl rfl (Wt.plain rfl) (Ex.assign rfl) ?_
    refine WL.next ?_
    refine WC.seq ?_
    refine WC.seq ?_
    refine WC.region ?_
    refine WL.u rfl rfl (Wt.plain rfl) (Ex.move rfl) ?_
    refine WL.u rfl rfl (Wt.plain rfl) (Ex.eqlNil Try.underlying59 rfl) ?_
    refine WL.next ?_
    refine WC.cond rfl (fun hc4 => ?_) (fun hc4 => ?_)
    · have hrn : rdI s (f + 1) p = none := by rw [rdI_una hp hc2 hu, hR43.none hc4]
      refine WC.seq ?_
      refine WC.region ?_
      refine WL.u rfl rfl (Wt.plain rfl) (Ex.assign rfl) ?_
      refine WL.u rfl rfl (Wt.plain rfl) (Ex.assign rfl) ?_
      refine WL.next ?_
      refine WC.ret ?_
      refine WN.retThen ?_
      refine WN.retBlock ?_
      refine WN.retThen ?_
      refine WN.body2 rfl rfl rfl ?_
      exact ⟨none, 0, rfl, hH.keep, by rw [hrn]; exact ⟨rfl, rfl⟩⟩
    obtain ⟨t1, b1, hr1, rfl, hT1⟩ := hR43.some hc4
    refine WC.skip ?_
    refine WN.next ?_
    refine WC.seq ?_
    refine WC.region ?_
    refine WL.u rfl rfl (Wt.plain rfl) (Ex.move rfl) ?_
    refine WL.u rfl rfl (Wt.plain rfl) (Ex.move rfl) ?_
    refine WL.u rfl rfl (Wt.plain rfl) (Ex.build (pv := [(0, _), (1, _)]) bd87 rfl rfl rfl) ?_
    refine WL.box rfl rfl rfl (Wt.plain rfl) hH (fun b51 wn hb51 hk51 hH => ?_)
    replace hT1 := hT1.kept hk51
    refine WL.u rfl rfl (Wt.plain rfl) (Ex.move rfl) ?_
    refine WL.u rfl rfl (Wt.plain rfl) (Ex.assign rfl) ?_
    refine WL.u rfl rfl (Wt.plain rfl) (Ex.assign rfl) ?_
    refine WL.next ?_
    refine WC.ret ?_
    refine WN.retBlock ?_
    refine WN.retThen ?_
    refine WN.body2 rfl rfl rfl ?_
    exact ⟨some b51, e43, rfl, hH.keep, by rw [rdI_una hp hc2 hu, hr1]; exact ⟨rfl, _, rfl, b1, hH.at 0 rfl, hT1⟩⟩
  have hg6_2' := hg6_2; try simp only [decide_eq_true_eq, decide_eq_false_iff_not, Bool.not_eq_true', Bool.not_eq_false', Bool.not_eq_true, Bool.not_eq_false] at hg6_2'
  refine WL.u rfl rfl (Wt.guard' rfl rfl rfl hg6_2 rfl) (Ex.move rfl) ?_
  refine WL.u rfl rfl (Wt.guard' rfl rfl rfl hg6_2 rfl) (Ex.eql rfl rfl) ?_
  refine WL.u rfl rfl (Wt.plain rfl) (Ex.pickF rfl hg6_2 rfl) ?_
  refine WL.u rfl rfl (Wt.plain rfl) (Ex.move rfl) ?_
  refine WL.split (t := 35) rfl (fun hg6_6 => ?_) (fun hg6_6 => ?_)
  · have hg6_6' := hg6_6; try simp only [decide_eq_true_eq, decide_eq_false_iff_not, Bool.not_eq_true', Bool.not_eq_false', Bool.not_eq_true, Bool.not_eq_false] at hg6_6'
    have hu : isU (s.getD p 0) = true := by rw [(show s.getD p 0 = 94 from ubT 94 (by decide) hg6_6)]; rfl
    refine WL.pass rfl rfl (Wt.guard' rfl rfl rfl hg6_6 rfl) ?_
    refine WL.pass rfl rfl (Wt.guard' rfl rfl rfl hg6_6 rfl) ?_
    refine WL.u rfl rfl (Wt.plain rfl) (Ex.pickT rfl hg6_6 rfl) ?_
    refine WL.u rfl rfl (Wt.plain rfl) (Ex.assign rfl) ?_
    refine WL.next ?_
    refine WC.condT rfl rfl ?_
    refine WC.seq ?_
    refine WC.region ?_
    refine WL.u rfl rfl (Wt.plain rfl) (Ex.move rfl) ?_
    refine WL.u rfl rfl (Wt.plain rfl) (Ex.move rfl) ?_
    refine WL.u rfl rfl (Wt.plain rfl) (Ex.add rfl rfl (by omega)) ?_
    refine WL.call callable91 rfl (Wt.plain rfl) rfl rfl (ih (p + 1) _ (by omega) (by omega)) ?_
    rintro _ wn ⟨ob43, e43, rfl, hC, hR43⟩; replace hH := hH.call hC
    refine WL.u rfl rfl (Wt.plain rfl) (Ex.move rfl) ?_
    refine WL.u rfl rfl (Wt.plain rfl) (Ex.extract rfl rfl) ?_
    refine WL.u rfl rfl (Wt.plain rfl) (Ex.extract rfl rfl) ?_
    refine WL.u rfl rfl (Wt.plain rfl) (Ex.assign rfl) ?_
    refine WL.u rfl rfl (Wt.plain rfl) (Ex.assign rfl) ?_
    refine WL.next ?_
    refine WC.seq ?_
    refine WC.seq ?_
    refine WC.region ?_
    refine WL.u rfl rfl (Wt.plain rfl) (Ex.move rfl) ?_
    refine WL.u rfl rfl (Wt.plain rfl) (Ex.eqlNil Try.underlying59 rfl) ?_
    refine WL.next ?_
    refine WC.cond rfl (fun hc4 => ?_) (fun hc4 => ?_)
    · have hrn : rdI s (f + 1) p = none := by rw [rdI_una hp hc2 hu, hR43.none hc4]
      refine WC.seq ?_
      refine WC.region ?_
      refine WL.u rfl rfl (Wt.plain rfl) (Ex.assign rfl) ?_
      refine WL.u rfl rfl (Wt.plain rfl) (Ex.assign rfl) ?_
      refine WL.next ?_
      refine WC.ret ?_
      refine WN.retThen ?_
      refine WN.retBlock ?_
      refine WN.retThen ?_
      refine WN.body2 rfl rfl rfl ?_
      exact ⟨none, 0, rfl, hH.keep, by rw [hrn]; exact ⟨rfl, rfl⟩⟩
    obtain ⟨t1, b1, hr1, rfl, hT1⟩ := hR43.some hc4
    refine WC.skip ?_
    refine WN.next ?_
    refine WC.seq ?_
    refine WC.region ?_
    refine WL.u rfl rfl (Wt.plain rfl) (Ex.move rfl) ?_
    refine WL.u rfl rfl (Wt.plain rfl) (Ex.move rfl) ?_
    refine WL.u rfl rfl (Wt.plain rfl) (Ex.build (pv := [(0, _), (1, _)]) bd87 rfl rfl rfl) ?_
    refine WL.box rfl rfl rfl (Wt.plain rfl) hH (fun b51 wn hb51 hk51 hH => ?_)
    replace hT1 := hT1.kept hk51
    refine WL.u rfl rfl (Wt.plain rfl) (Ex.move rfl) ?_
    refine WL.u rfl rfl (Wt.plain rfl) (Ex.assign rfl) ?_
    refine WL.u rfl rfl (Wt.plain rfl) (Ex.assign rfl) ?_
    refine WL.next ?_
    refine WC.ret ?_
    refine WN.retBlock ?_
    refine WN.retThen ?_
    refine WN.body2 rfl rfl rfl ?_
    exact ⟨some b51, e43, rfl, hH.keep, by rw [rdI_una hp hc2 hu, hr1]; exact ⟨rfl, _, rfl, b1, hH.at 0 rfl, hT1⟩⟩
  have hg6_6' := hg6_6; try simp only [decide_eq_true_eq, decide_eq_false_iff_not, Bool.not_eq_true', Bool.not_eq_false', Bool.not_eq_true, Bool.not_eq_false] at hg6_6'
  refine WL.u rfl rfl (Wt.guard' rfl rfl rfl hg6_6 rfl) (Ex.move rfl) ?_
  refine WL.u rfl rfl (Wt.guard' rfl rfl rfl hg6_6 rfl) (Ex.eql rfl rfl) ?_
  refine WL.u rfl rfl (Wt.plain rfl) (Ex.pickF rfl hg6_6 rfl) ?_
  refine WL.u rfl rfl (Wt.plain rfl) (Ex.assign rfl) ?_
  refine WL.next ?_
  refine WC.cond rfl (fun hc3 => ?_) (fun hc3 => ?_)
  · have hc3' := hc3; try simp only [decide_eq_true_eq, decide_eq_false_iff_not, Bool.not_eq_true', Bool.not_eq_false', Bool.not_eq_true, Bool.not_eq_false] at hc3'
    have hu : isU (s.getD p 0) = true := by rw [(show s.getD p 0 = 42 from ubT 42 (by decide) hc3)]; rfl
    refine WC.seq ?_
    refine WC.region ?_
    refine WL.u rfl rfl (Wt.plain rfl) (Ex.move rfl) ?_
    refine WL.u rfl rfl (Wt.plain rfl) (Ex.move rfl) ?_
    refine WL.u rfl rfl (Wt.plain rfl) (Ex.add rfl rfl (by omega)) ?_
    refine WL.call callable91 rfl (Wt.plain rfl) rfl rfl (ih (p + 1) _ (by omega) (by omega)) ?_
    rintro _ wn ⟨ob43, e43, rfl, hC, hR43⟩; replace hH := hH.call hC
    refine WL.u rfl rfl (Wt.plain rfl) (Ex.move rfl) ?_
    refine WL.u rfl rfl (Wt.plain rfl) (Ex.extract rfl rfl) ?_
    refine WL.u rfl rfl (Wt.plain rfl) (Ex.extract rfl rfl) ?_
    refine WL.u rfl rfl (Wt.plain rfl) (Ex.assign rfl) ?_
    refine WL.u rfl rfl (Wt.plain rfl) (Ex.assign rfl) ?_
    refine WL.next ?_
    refine WC.seq ?_
    refine WC.seq ?_
    refine WC.region ?_
    refine WL.u rfl rfl (Wt.plain rfl) (Ex.move rfl) ?_
    refine WL.u rfl rfl (Wt.plain rfl) (Ex.eqlNil Try.underlying59 rfl) ?_
    refine WL.next ?_
    refine WC.cond rfl (fun hc4 => ?_) (fun hc4 => ?_)
    · have hrn : rdI s (f + 1) p = none := by rw [rdI_una hp hc2 hu, hR43.none hc4]
      refine WC.seq ?_
      refine WC.region ?_
      refine WL.u rfl rfl (Wt.plain rfl) (Ex.assign rfl) ?_
      refine WL.u rfl rfl (Wt.plain rfl) (Ex.assign rfl) ?_
      refine WL.next ?_
      refine WC.ret ?_
      refine WN.retThen ?_
      refine WN.retBlock ?_
      refine WN.retThen ?_
      refine WN.body2 rfl rfl rfl ?_
      exact ⟨none, 0, rfl, hH.keep, by rw [hrn]; exact ⟨rfl, rfl⟩⟩
    obtain ⟨t1, b1, hr1, rfl, hT1⟩ := hR43.some hc4
    refine WC.skip ?_
    refine WN.next ?_
    refine WC.seq ?_
    refine WC.region ?_
    refine WL.u rfl rfl (Wt.plain rfl) (Ex.move rfl) ?_
    refine WL.u rfl rfl (Wt.plain rfl) (Ex.move rfl) ?_
    refine WL.u rfl rfl (Wt.plain rfl) (Ex.build (pv := [(0, _), (1, _)]) bd87 rfl rfl rfl) ?_
    refine WL.box rfl rfl rfl (Wt.plain rfl) hH (fun b51 wn hb51 hk51 hH => ?_)
    replace hT1 := hT1.kept hk51
    refine WL.u rfl rfl (Wt.plain rfl) (Ex.move rfl) ?_
    refine WL.u rfl rfl (Wt.plain rfl) (Ex.assign rfl) ?_
    refine WL.u rfl rfl (Wt.plain rfl) (Ex.assign rfl) ?_
    refine WL.next ?_
    refine WC.ret ?_
    refine WN.retBlock ?_
    refine WN.retThen ?_
    refine WN.body2 rfl rfl rfl ?_
    exact ⟨some b51, e43, rfl, hH.keep, by rw [rdI_una hp hc2 hu, hr1]; exact ⟨rfl, _, rfl, b1, hH.at 0 rfl, hT1⟩⟩
  have hc3' := hc3; try simp only [decide_eq_true_eq, decide_eq_false_iff_not, Bool.not_eq_true', Bool.not_eq_false', Bool.not_eq_true, Bool.not_eq_false] at hc3'
  have hu : isU (s.getD p 0) = false := by
    unfold isU
    rw [decide_eq_false (show s.getD p 0 ≠ 62 from ubF 62 (by decide) hg6_2), decide_eq_false (show s.getD p 0 ≠ 94 from ubF 94 (by decide) hg6_6), decide_eq_false (show s.getD p 0 ≠ 42 from ubF 42 (by decide) hc3)]; rfl
  refine WC.seq ?_
  refine WC.region ?_
  refine WL.u rfl rfl (Wt.plain rfl) (Ex.move rfl) ?_
  refine WL.u rfl rfl (Wt.plain rfl) (Ex.neq rfl rfl) ?_
  refine WL.u rfl rfl (Wt.plain rfl) (Ex.assign rfl) ?_
  refine WL.next ?_
  refine WC.cond rfl (fun hc5 => ?_) (fun hc5 => ?_)
  · have hc5' := hc5; try simp only [decide_eq_true_eq, decide_eq_false_iff_not, Bool.not_eq_true', Bool.not_eq_false', Bool.not_eq_true, Bool.not_eq_false] at hc5'
    have hrn : rdI s (f + 1) p = none := rdI_bad hp hc2 hu (nbT 40 (by decide) hc5)
    refine WC.seq ?_
    refine WC.region ?_
    refine WL.u rfl rfl (Wt.plain rfl) (Ex.assign rfl) ?_
    refine WL.u rfl rfl (Wt.plain rfl) (Ex.assign rfl) ?_
    refine WL.next ?_
    refine WC.ret ?_
    refine WN.retBlock ?_
    refine WN.retThen ?_
    refine WN.body2 rfl rfl rfl ?_
    exact ⟨none, 0, rfl, hH.keep, by rw [hrn]; exact ⟨rfl, rfl⟩⟩
  have hc5' := hc5; try simp only [decide_eq_true_eq, decide_eq_false_iff_not, Bool.not_eq_true', Bool.not_eq_false', Bool.not_eq_true, Bool.not_eq_false] at hc5'
  have h40 : s.getD p 0 = 40 := nbF 40 (by decide) hc5
  refine WC.skip ?_
  refine WN.normalBlock ?_
  refine WN.next ?_
  refine WC.seq ?_
  refine WC.region ?_
  refine WL.u rfl rfl (Wt.plain rfl) (Ex.move rfl) ?_
  refine WL.u rfl rfl (Wt.plain rfl) (Ex.move rfl) ?_
  refine WL.u rfl rfl (Wt.plain rfl) (Ex.add rfl rfl (by omega)) ?_
  refine WL.call callable91 rfl (Wt.plain rfl) rfl rfl (ih (p + 1) _ (by omega) (by omega)) ?_
  rintro _ wn ⟨ob60, e60, rfl, hC, hR60⟩; replace hH := hH.call hC
  refine WL.u rfl rfl (Wt.plain rfl) (Ex.move rfl) ?_
  refine WL.u rfl rfl (Wt.plain rfl) (Ex.extract rfl rfl) ?_
  refine WL.u rfl rfl (Wt.plain rfl) (Ex.extract rfl rfl) ?_
  refine WL.u rfl rfl (Wt.plain rfl) (Ex.assign rfl) ?_
  refine WL.u rfl rfl (Wt.plain rfl) (Ex.assign rfl) ?_
  refine WL.next ?_
  refine WC.seq ?_
  refine WC.seq ?_
  refine WC.region ?_
  refine WL.u rfl rfl (Wt.plain rfl) (Ex.move rfl) ?_
  refine WL.u rfl rfl (Wt.plain rfl) (Ex.eqlNil Try.underlying59 rfl) ?_
  refine WL.u rfl rfl (Wt.plain rfl) (Ex.move rfl) ?_
  refine WL.split (t := 65) rfl (fun hg14_2 => ?_) (fun hg14_2 => ?_)
  · have hrn : rdI s (f + 1) p = none := by rw [rdI_bin hp h40, hR60.none hg14_2]
    refine WL.pass rfl rfl (Wt.guard' rfl rfl rfl hg14_2 rfl) ?_
    refine WL.pass rfl rfl (Wt.guard' rfl rfl rfl hg14_2 rfl) ?_
    refine WL.pass rfl rfl (Wt.guard' rfl rfl rfl hg14_2 rfl) ?_
    refine WL.pass rfl rfl (Wt.guard' rfl rfl rfl hg14_2 rfl) ?_
    refine WL.u rfl rfl (Wt.plain rfl) (Ex.pickT rfl hg14_2 rfl) ?_
    refine WL.u rfl rfl (Wt.plain rfl) (Ex.move rfl) ?_
    refine WL.pass rfl rfl (Wt.guard' rfl rfl rfl rfl rfl) ?_
    refine WL.pass rfl rfl (Wt.guard' rfl rfl rfl rfl rfl) ?_
    refine WL.pass rfl rfl (Wt.guard' rfl rfl rfl rfl rfl) ?_
    refine WL.pass rfl rfl (Wt.guard' rfl rfl rfl rfl rfl) ?_
    refine WL.pass rfl rfl (Wt.guard' rfl rfl rfl rfl rfl) ?_
    refine WL.pass rfl rfl (Wt.undef rfl rfl rfl) ?_
    refine WL.pass rfl rfl (Wt.undef rfl rfl rfl) ?_
    refine WL.pass rfl rfl (Wt.undef rfl rfl rfl) ?_
    refine WL.pass rfl rfl (Wt.undef rfl rfl rfl) ?_
    refine WL.pass rfl rfl (Wt.guard' rfl rfl rfl rfl rfl) ?_
    refine WL.u rfl rfl (Wt.plain rfl) (Ex.pickT rfl rfl rfl) ?_
    refine WL.next ?_
    refine WC.condT rfl rfl ?_
    refine WC.seq ?_
    refine WC.region ?_
    refine WL.u rfl rfl (Wt.plain rfl) (Ex.assign rfl) ?_
    refine WL.u rfl rfl (Wt.plain rfl) (Ex.assign rfl) ?_
    refine WL.next ?_
    refine WC.ret ?_
    refine WN.retThen ?_
    refine WN.body2 rfl rfl rfl ?_
    exact ⟨none, 0, rfl, hH.keep, by rw [hrn]; exact ⟨rfl, rfl⟩⟩
  obtain ⟨t1, b1, hr1, rfl, hT1⟩ := hR60.some hg14_2
  obtain ⟨_, hpe, hel⟩ := rdI_ok hr1
  refine WL.u rfl rfl (Wt.guard' rfl rfl rfl hg14_2 rfl) (Ex.move rfl) ?_
  refine WL.u rfl rfl (Wt.guard' rfl rfl rfl hg14_2 rfl) (Ex.move rfl) ?_
  refine WL.u rfl rfl (Wt.guard' rfl rfl rfl hg14_2 rfl) (Ex.lenStr Try.underlying9 rfl) ?_
  refine WL.u rfl rfl (Wt.guard' rfl rfl rfl hg14_2 rfl) (Ex.geq rfl rfl) ?_
  refine WL.u rfl rfl (Wt.plain rfl) (Ex.pickF rfl hg14_2 rfl) ?_
  refine WL.u rfl rfl (Wt.plain rfl) (Ex.move rfl) ?_
  refine WL.split (t := 71) rfl (fun hg14_8 => ?_) (fun hg14_8 => ?_)
  · have hg14_8' := hg14_8; try simp only [decide_eq_true_eq, decide_eq_false_iff_not, Bool.not_eq_true', Bool.not_eq_false', Bool.not_eq_true, Bool.not_eq_false] at hg14_8'
    have hrn : rdI s (f + 1) p = none := by rw [rdI_bin hp h40, hr1]; exact if_pos (.inl (by omega))
    refine WL.pass rfl rfl (Wt.guard' rfl rfl rfl hg14_8 rfl) ?_
    refine WL.pass rfl rfl (Wt.guard' rfl rfl rfl hg14_8 rfl) ?_
    refine WL.pass rfl rfl (Wt.guard' rfl rfl rfl hg14_8 rfl) ?_
    refine WL.pass rfl rfl (Wt.guard' rfl rfl rfl hg14_8 rfl) ?_
    refine WL.pass rfl rfl (Wt.guard' rfl rfl rfl hg14_8 rfl) ?_
    refine WL.pass rfl rfl (Wt.undef rfl rfl rfl) ?_
    refine WL.pass rfl rfl (Wt.undef rfl rfl rfl) ?_
    refine WL.pass rfl rfl (Wt.undef rfl rfl rfl) ?_
    refine WL.pass rfl rfl (Wt.undef rfl rfl rfl) ?_
    refine WL.pass rfl rfl (Wt.guard' rfl rfl rfl hg14_8 rfl) ?_
    refine WL.u rfl rfl (Wt.plain rfl) (Ex.pickT rfl hg14_8 rfl) ?_
    refine WL.next ?_
    refine WC.condT rfl rfl ?_
    refine WC.seq ?_
    refine WC.region ?_
    refine WL.u rfl rfl (Wt.plain rfl) (Ex.assign rfl) ?_
    refine WL.u rfl rfl (Wt.plain rfl) (Ex.assign rfl) ?_
    refine WL.next ?_
    refine WC.ret ?_
    refine WN.retThen ?_
    refine WN.body2 rfl rfl rfl ?_
    exact ⟨none, 0, rfl, hH.keep, by rw [hrn]; exact ⟨rfl, rfl⟩⟩
  have hg14_8' := hg14_8; try simp only [decide_eq_true_eq, decide_eq_false_iff_not, Bool.not_eq_true', Bool.not_eq_false', Bool.not_eq_true, Bool.not_eq_false] at hg14_8'
  have hcl2 := u8lt (s.getD e60 0)
  refine WL.u rfl rfl (Wt.guard' rfl rfl rfl hg14_8 rfl) (Ex.move rfl) ?_
  refine WL.u rfl rfl (Wt.guard' rfl rfl rfl hg14_8 rfl) (Ex.move rfl) ?_
  refine WL.u rfl rfl (Wt.guard' rfl rfl rfl hg14_8 rfl) (Ex.indexStr Try.underlying9 rfl rfl (by omega)) ?_
  refine WL.u rfl rfl (Wt.guard' rfl rfl rfl hg14_8 rfl) (Ex.neq rfl rfl) ?_
  refine WL.u rfl rfl (Wt.guard' rfl rfl rfl hg14_8 rfl) (Ex.move rfl) ?_
  refine WL.split (t := 76) rfl (fun hg14_13 => ?_) (fun hg14_13 => ?_)
  · have hg14_13' := hg14_13; try simp only [decide_eq_true_eq, decide_eq_false_iff_not, Bool.not_eq_true', Bool.not_eq_false', Bool.not_eq_true, Bool.not_eq_false] at hg14_13'
    refine WL.u rfl rfl (Wt.guard' rfl rfl rfl hg14_13 rfl) (Ex.move rfl) ?_
    refine WL.u rfl rfl (Wt.guard' rfl rfl rfl hg14_13 rfl) (Ex.move rfl) ?_
    refine WL.u rfl rfl (Wt.guard' rfl rfl rfl hg14_13 rfl) (Ex.indexStr Try.underlying9 rfl rfl (by omega)) ?_
    refine WL.u rfl rfl (Wt.guard' rfl rfl rfl hg14_13 rfl) (Ex.neq rfl rfl) ?_
    refine WL.u rfl rfl (Wt.guard' rfl rfl rfl hg14_8 rfl) (Ex.pickT rfl hg14_13 rfl) ?_
    refine WL.u rfl rfl (Wt.plain rfl) (Ex.pickF rfl hg14_8 rfl) ?_
    refine WL.next ?_
    refine WC.cond rfl (fun hc6 => ?_) (fun hc6 => ?_)
    · have hc6' := hc6; try simp only [decide_eq_true_eq, decide_eq_false_iff_not, Bool.not_eq_true', Bool.not_eq_false', Bool.not_eq_true, Bool.not_eq_false] at hc6'
      have hB : isB (s.getD e60 0) = false := by unfold isB; rw [decide_eq_false (show s.getD e60 0 ≠ 124 from nbT 124 (by decide) hg14_13), decide_eq_false (show s.getD e60 0 ≠ 45 from nbT 45 (by decide) hc6)]; rfl
      have hrn : rdI s (f + 1) p = none := by rw [rdI_bin hp h40, hr1]; exact if_pos (.inr hB)
      refine WC.seq ?_
      refine WC.region ?_
      refine WL.u rfl rfl (Wt.plain rfl) (Ex.assign rfl) ?_
      refine WL.u rfl rfl (Wt.plain rfl) (Ex.assign rfl) ?_
      refine WL.next ?_
      refine WC.ret ?_
      refine WN.retThen ?_
      refine WN.body2 rfl rfl rfl ?_
      exact ⟨none, 0, rfl, hH.keep, by rw [hrn]; exact ⟨rfl, rfl⟩⟩
    have hc6' := hc6; try simp only [decide_eq_true_eq, decide_eq_false_iff_not, Bool.not_eq_true', Bool.not_eq_false', Bool.not_eq_true, Bool.not_eq_false] at hc6'
    have hB : isB (s.getD e60 0) = true := by rw [show s.getD e60 0 = 45 from nbF 45 (by decide) hc6]; rfl
    have hqB : ¬ (s.length ≤ e60 ∨ isB (s.getD e60 0) = false) := by rw [hB]; simp; omega
    refine WC.skip ?_
    refine WN.next ?_
    refine WC.seq ?_
    refine WC.region ?_
    refine WL.u rfl rfl (Wt.plain rfl) (Ex.move rfl) ?_
    refine WL.u rfl rfl (Wt.plain rfl) (Ex.move rfl) ?_
    refine WL.u rfl rfl (Wt.plain rfl) (Ex.add rfl rfl (by omega)) ?_
    refine WL.call callable91 rfl (Wt.plain rfl) rfl rfl (ih (e60 + 1) _ (by omega) (by omega)) ?_
    rintro _ wn ⟨ob87, e87, rfl, hC, hR87⟩; replace hH := hH.call hC; replace hT1 := hT1.kept hC
    refine WL.u rfl rfl (Wt.plain rfl) (Ex.move rfl) ?_
    refine WL.u rfl rfl (Wt.plain rfl) (Ex.extract rfl rfl) ?_
    refine WL.u rfl rfl (Wt.plain rfl) (Ex.extract rfl rfl) ?_
    refine WL.u rfl rfl (Wt.plain rfl) (Ex.assign rfl) ?_
    refine WL.u rfl rfl (Wt.plain rfl) (Ex.assign rfl) ?_
    refine WL.next ?_
    refine WC.seq ?_
    refine WC.seq ?_
    refine WC.region ?_
    refine WL.u rfl rfl (Wt.plain rfl) (Ex.move rfl) ?_
    refine WL.u rfl rfl (Wt.plain rfl) (Ex.eqlNil Try.underlying59 rfl) ?_
    refine WL.u rfl rfl (Wt.plain rfl) (Ex.move rfl) ?_
    refine WL.split (t := 92) rfl (fun hg17_2 => ?_) (fun hg17_2 => ?_)
    · have hrn : rdI s (f + 1) p = none := by rw [rdI_bin hp h40, hr1]; dsimp only; rw [if_neg hqB, hR87.none hg17_2]
      refine WL.pass rfl rfl (Wt.guard' rfl rfl rfl hg17_2 rfl) ?_
      refine WL.pass rfl rfl (Wt.guard' rfl rfl rfl hg17_2 rfl) ?_
      refine WL.pass rfl rfl (Wt.guard' rfl rfl rfl hg17_2 rfl) ?_
      refine WL.pass rfl rfl (Wt.guard' rfl rfl rfl hg17_2 rfl) ?_
      refine WL.u rfl rfl (Wt.plain rfl) (Ex.pickT rfl hg17_2 rfl) ?_
      refine WL.u rfl rfl (Wt.plain rfl) (Ex.move rfl) ?_
      refine WL.pass rfl rfl (Wt.guard' rfl rfl rfl rfl rfl) ?_
      refine WL.pass rfl rfl (Wt.guard' rfl rfl rfl rfl rfl) ?_
      refine WL.pass rfl rfl (Wt.guard' rfl rfl rfl rfl rfl) ?_
      refine WL.pass rfl rfl (Wt.guard' rfl rfl rfl rfl rfl) ?_
      refine WL.u rfl rfl (Wt.plain rfl) (Ex.pickT rfl rfl rfl) ?_
      refine WL.next ?_
      refine WC.condT rfl rfl ?_
      refine WC.seq ?_
      refine WC.region ?_
      refine WL.u rfl rfl (Wt.plain rfl) (Ex.assign rfl) ?_
      refine WL.u rfl rfl (Wt.plain rfl) (Ex.assign rfl) ?_
      refine WL.next ?_
      refine WC.ret ?_
      refine WN.retThen ?_
      refine WN.body2 rfl rfl rfl ?_
      exact ⟨none, 0, rfl, hH.keep, by rw [hrn]; exact ⟨rfl, rfl⟩⟩
    obtain ⟨t2, b2, hr2, rfl, hT2⟩ := hR87.some hg17_2
    obtain ⟨_, hpe2, hel2⟩ := rdI_ok hr2
    refine WL.u rfl rfl (Wt.guard' rfl rfl rfl hg17_2 rfl) (Ex.move rfl) ?_
    refine WL.u rfl rfl (Wt.guard' rfl rfl rfl hg17_2 rfl) (Ex.move rfl) ?_
    refine WL.u rfl rfl (Wt.guard' rfl rfl rfl hg17_2 rfl) (Ex.lenStr Try.underlying9 rfl) ?_
    refine WL.u rfl rfl (Wt.guard' rfl rfl rfl hg17_2 rfl) (Ex.geq rfl rfl) ?_
    refine WL.u rfl rfl (Wt.plain rfl) (Ex.pickF rfl hg17_2 rfl) ?_
    refine WL.u rfl rfl (Wt.plain rfl) (Ex.move rfl) ?_
    refine WL.split (t := 98) rfl (fun hg17_8 => ?_) (fun hg17_8 => ?_)
    · have hg17_8' := hg17_8; try simp only [decide_eq_true_eq, decide_eq_false_iff_not, Bool.not_eq_true', Bool.not_eq_false', Bool.not_eq_true, Bool.not_eq_false] at hg17_8'
      have hrn : rdI s (f + 1) p = none := by rw [rdI_bin hp h40, hr1]; dsimp only; rw [if_neg hqB, hr2]; exact if_pos (.inl (by omega))
      refine WL.pass rfl rfl (Wt.guard' rfl rfl rfl hg17_8 rfl) ?_
      refine WL.pass rfl rfl (Wt.guard' rfl rfl rfl hg17_8 rfl) ?_
      refine WL.pass rfl rfl (Wt.guard' rfl rfl rfl hg17_8 rfl) ?_
      refine WL.pass rfl rfl (Wt.guard' rfl rfl rfl hg17_8 rfl) ?_
      refine WL.u rfl rfl (Wt.plain rfl) (Ex.pickT rfl hg17_8 rfl) ?_
      refine WL.next ?_
      refine WC.condT rfl rfl ?_
      refine WC.seq ?_
      refine WC.region ?_
      refine WL.u rfl rfl (Wt.plain rfl) (Ex.assign rfl) ?_
      refine WL.u rfl rfl (Wt.plain rfl) (Ex.assign rfl) ?_
      refine WL.next ?_
      refine WC.ret ?_
      refine WN.retThen ?_
      refine WN.body2 rfl rfl rfl ?_
      exact ⟨none, 0, rfl, hH.keep, by rw [hrn]; exact ⟨rfl, rfl⟩⟩
    have hg17_8' := hg17_8; try simp only [decide_eq_true_eq, decide_eq_false_iff_not, Bool.not_eq_true', Bool.not_eq_false', Bool.not_eq_true, Bool.not_eq_false] at hg17_8'
    refine WL.u rfl rfl (Wt.guard' rfl rfl rfl hg17_8 rfl) (Ex.move rfl) ?_
    refine WL.u rfl rfl (Wt.guard' rfl rfl rfl hg17_8 rfl) (Ex.move rfl) ?_
    refine WL.u rfl rfl (Wt.guard' rfl rfl rfl hg17_8 rfl) (Ex.indexStr Try.underlying9 rfl rfl (by omega)) ?_
    refine WL.u rfl rfl (Wt.guard' rfl rfl rfl hg17_8 rfl) (Ex.neq rfl rfl) ?_
    refine WL.u rfl rfl (Wt.plain rfl) (Ex.pickF rfl hg17_8 rfl) ?_
    refine WL.next ?_
    refine WC.cond rfl (fun hc7 => ?_) (fun hc7 => ?_)
    · have hc7' := hc7; try simp only [decide_eq_true_eq, decide_eq_false_iff_not, Bool.not_eq_true', Bool.not_eq_false', Bool.not_eq_true, Bool.not_eq_false] at hc7'
      have hrn : rdI s (f + 1) p = none := by rw [rdI_bin hp h40, hr1]; dsimp only; rw [if_neg hqB, hr2]; exact if_pos (.inr (nbT 41 (by decide) hc7))
      refine WC.seq ?_
      refine WC.region ?_
      refine WL.u rfl rfl (Wt.plain rfl) (Ex.assign rfl) ?_
      refine WL.u rfl rfl (Wt.plain rfl) (Ex.assign rfl) ?_
      refine WL.next ?_
      refine WC.ret ?_
      refine WN.retThen ?_
      refine WN.body2 rfl rfl rfl ?_
      exact ⟨none, 0, rfl, hH.keep, by rw [hrn]; exact ⟨rfl, rfl⟩⟩
    have hc7' := hc7; try simp only [decide_eq_true_eq, decide_eq_false_iff_not, Bool.not_eq_true', Bool.not_eq_false', Bool.not_eq_true, Bool.not_eq_false] at hc7'
    have h41 : s.getD e87 0 = 41 := nbF 41 (by decide) hc7
    have hqC : ¬ (s.length ≤ e87 ∨ s.getD e87 0 ≠ 41) := by rw [h41]; simp; omega
    refine WC.skip ?_
    refine WN.next ?_
    refine WC.seq ?_
    refine WC.region ?_
    refine WL.u rfl rfl (Wt.plain rfl) (Ex.move rfl) ?_
    refine WL.u rfl rfl (Wt.plain rfl) (Ex.move rfl) ?_
    refine WL.u rfl rfl (Wt.plain rfl) (Ex.indexStr Try.underlying9 rfl rfl (by omega)) ?_
    refine WL.u rfl rfl (Wt.plain rfl) (Ex.move rfl) ?_
    refine WL.u rfl rfl (Wt.plain rfl) (Ex.move rfl) ?_
    refine WL.u rfl rfl (Wt.plain rfl) (Ex.buildS bd87 rfl rfl rfl rfl rfl) ?_
    refine WL.box rfl rfl rfl (Wt.plain rfl) hH (fun b110 wn hb110 hk110 hH => ?_)
    replace hT1 := hT1.kept hk110
    replace hT2 := hT2.kept hk110
    refine WL.u rfl rfl (Wt.plain rfl) (Ex.move rfl) ?_
    refine WL.u rfl rfl (Wt.plain rfl) (Ex.add rfl rfl (by omega)) ?_
    refine WL.u rfl rfl (Wt.plain rfl) (Ex.assign rfl) ?_
    refine WL.u rfl rfl (Wt.plain rfl) (Ex.assign rfl) ?_
    refine WL.next ?_
    refine WC.ret ?_
    refine WN.body2 rfl rfl rfl ?_
    exact ⟨some b110, e87 + 1, rfl, hH.keep, by rw [rdI_bin hp h40, hr1]; dsimp only; rw [if_neg hqB, hr2]; dsimp only; rw [if_neg hqC]; exact ⟨rfl, _, rfl, b1, b2, hH.at 0 rfl, hT1, hT2⟩⟩
  have hg14_13' := hg14_13; try simp only [decide_eq_true_eq, decide_eq_false_iff_not, Bool.not_eq_true', Bool.not_eq_false', Bool.not_eq_true, Bool.not_eq_false] at hg14_13'
  have hB : isB (s.getD e60 0) = true := by rw [show s.getD e60 0 = 124 from nbF 124 (by decide) hg14_13]; rfl
  have hqB : ¬ (s.length ≤ e60 ∨ isB (s.getD e60 0) = false) := by rw [hB]; simp; omega
  refine WL.pass rfl rfl (Wt.guard' rfl rfl rfl hg14_13 rfl) ?_
  refine WL.pass rfl rfl (Wt.guard' rfl rfl rfl hg14_13 rfl) ?_
  refine WL.pass rfl rfl (Wt.guard' rfl rfl rfl hg14_13 rfl) ?_
  refine WL.pass rfl rfl (Wt.guard' rfl rfl rfl hg14_13 rfl) ?_
  refine WL.u rfl rfl (Wt.guard' rfl rfl rfl hg14_8 rfl) (Ex.pickF rfl hg14_13 rfl) ?_
  refine WL.u rfl rfl (Wt.plain rfl) (Ex.pickF rfl hg14_8 rfl) ?_
  refine WL.next ?_
  refine WC.condF rfl rfl ?_
  refine WC.skip ?_
  refine WN.next ?_
  refine WC.seq ?_
  refine WC.region ?_
  refine WL.u rfl rfl (Wt.plain rfl) (Ex.move rfl) ?_
  refine WL.u rfl rfl (Wt.plain rfl) (Ex.move rfl) ?_
  refine WL.u rfl rfl (Wt.plain rfl) (Ex.add rfl rfl (by omega)) ?_
  refine WL.call callable91 rfl (Wt.plain rfl) rfl rfl (ih (e60 + 1) _ (by omega) (by omega)) ?_
  rintro _ wn ⟨ob87, e87, rfl, hC, hR87⟩; replace hH := hH.call hC; replace hT1 := hT1.kept hC
  refine WL.u rfl rfl (Wt.plain rfl) (Ex.move rfl) ?_
  refine WL.u rfl rfl (Wt.plain rfl) (Ex.extract rfl rfl) ?_
  refine WL.u rfl rfl (Wt.plain rfl) (Ex.extract rfl rfl) ?_
  refine WL.u rfl rfl (Wt.plain rfl) (Ex.assign rfl) ?_
  refine WL.u rfl rfl (Wt.plain rfl) (Ex.assign rfl) ?_
  refine WL.next ?_
  refine WC.seq ?_
  refine WC.seq ?_
  refine WC.region ?_
  refine WL.u rfl rfl (Wt.plain rfl) (Ex.move rfl) ?_
  refine WL.u rfl rfl (Wt.plain rfl) (Ex.eqlNil Try.underlying59 rfl) ?_
  refine WL.u rfl rfl (Wt.plain rfl) (Ex.move rfl) ?_
  refine WL.split (t := 92) rfl (fun hg17_2 => ?_) (fun hg17_2 => ?_)
  · have hrn : rdI s (f + 1) p = none := by rw [rdI_bin hp h40, hr1]; dsimp only; rw [if_neg hqB, hR87.none hg17_2]
    refine WL.pass rfl rfl (Wt.guard' rfl rfl rfl hg17_2 rfl) ?_
    refine WL.pass rfl rfl (Wt.guard' rfl rfl rfl hg17_2 rfl) ?_
    refine WL.pass rfl rfl (Wt.guard' rfl rfl rfl hg17_2 rfl) ?_
    refine WL.pass rfl rfl (Wt.guard' rfl rfl rfl hg17_2 rfl) ?_
    refine WL.u rfl rfl (Wt.plain rfl) (Ex.pickT rfl hg17_2 rfl) ?_
    refine WL.u rfl rfl (Wt.plain rfl) (Ex.move rfl) ?_
    refine WL.pass rfl rfl (Wt.guard' rfl rfl rfl rfl rfl) ?_
    refine WL.pass rfl rfl (Wt.guard' rfl rfl rfl rfl rfl) ?_
    refine WL.pass rfl rfl (Wt.guard' rfl rfl rfl rfl rfl) ?_
    refine WL.pass rfl rfl (Wt.guard' rfl rfl rfl rfl rfl) ?_
    refine WL.u rfl rfl (Wt.plain rfl) (Ex.pickT rfl rfl rfl) ?_
    refine WL.next ?_
    refine WC.condT rfl rfl ?_
    refine WC.seq ?_
    refine WC.region ?_
    refine WL.u rfl rfl (Wt.plain rfl) (Ex.assign rfl) ?_
    refine WL.u rfl rfl (Wt.plain rfl) (Ex.assign rfl) ?_
    refine WL.next ?_
    refine WC.ret ?_
    refine WN.retThen ?_
    refine WN.body2 rfl rfl rfl ?_
    exact ⟨none, 0, rfl, hH.keep, by rw [hrn]; exact ⟨rfl, rfl⟩⟩
  obtain ⟨t2, b2, hr2, rfl, hT2⟩ := hR87.some hg17_2
  obtain ⟨_, hpe2, hel2⟩ := rdI_ok hr2
  refine WL.u rfl rfl (Wt.guard' rfl rfl rfl hg17_2 rfl) (Ex.move rfl) ?_
  refine WL.u rfl rfl (Wt.guard' rfl rfl rfl hg17_2 rfl) (Ex.move rfl) ?_
  refine WL.u rfl rfl (Wt.guard' rfl rfl rfl hg17_2 rfl) (Ex.lenStr Try.underlying9 rfl) ?_
  refine WL.u rfl rfl (Wt.guard' rfl rfl rfl hg17_2 rfl) (Ex.geq rfl rfl) ?_
  refine WL.u rfl rfl (Wt.plain rfl) (Ex.pickF rfl hg17_2 rfl) ?_
  refine WL.u rfl rfl (Wt.plain rfl) (Ex.move rfl) ?_
  refine WL.split (t := 98) rfl (fun hg17_8 => ?_) (fun hg17_8 => ?_)
  · have hg17_8' := hg17_8; try simp only [decide_eq_true_eq, decide_eq_false_iff_not, Bool.not_eq_true', Bool.not_eq_false', Bool.not_eq_true, Bool.not_eq_false] at hg17_8'
    have hrn : rdI s (f + 1) p = none := by rw [rdI_bin hp h40, hr1]; dsimp only; rw [if_neg hqB, hr2]; exact if_pos (.inl (by omega))
    refine WL.pass rfl rfl (Wt.guard' rfl rfl rfl hg17_8 rfl) ?_
    refine WL.pass rfl rfl (Wt.guard' rfl rfl rfl hg17_8 rfl) ?_
    refine WL.pass rfl rfl (Wt.guard' rfl rfl rfl hg17_8 rfl) ?_
    refine WL.pass rfl rfl (Wt.guard' rfl rfl rfl hg17_8 rfl) ?_
    refine WL.u rfl rfl (Wt.plain rfl) (Ex.pickT rfl hg17_8 rfl) ?_
    refine WL.next ?_
    refine WC.condT rfl rfl ?_
    refine WC.seq ?_
    refine WC.region ?_
    refine WL.u rfl rfl (Wt.plain rfl) (Ex.assign rfl) ?_
    refine WL.u rfl rfl (Wt.plain rfl) (Ex.assign rfl) ?_
    refine WL.next ?_
    refine WC.ret ?_
    refine WN.retThen ?_
    refine WN.body2 rfl rfl rfl ?_
    exact ⟨none, 0, rfl, hH.keep, by rw [hrn]; exact ⟨rfl, rfl⟩⟩
  have hg17_8' := hg17_8; try simp only [decide_eq_true_eq, decide_eq_false_iff_not, Bool.not_eq_true', Bool.not_eq_false', Bool.not_eq_true, Bool.not_eq_false] at hg17_8'
  refine WL.u rfl rfl (Wt.guard' rfl rfl rfl hg17_8 rfl) (Ex.move rfl) ?_
  refine WL.u rfl rfl (Wt.guard' rfl rfl rfl hg17_8 rfl) (Ex.move rfl) ?_
  refine WL.u rfl rfl (Wt.guard' rfl rfl rfl hg17_8 rfl) (Ex.indexStr Try.underlying9 rfl rfl (by omega)) ?_
  refine WL.u rfl rfl (Wt.guard' rfl rfl rfl hg17_8 rfl) (Ex.neq rfl rfl) ?_
  refine WL.u rfl rfl (Wt.plain rfl) (Ex.pickF rfl hg17_8 rfl) ?_
  refine WL.next ?_
  refine WC.cond rfl (fun hc7 => ?_) (fun hc7 => ?_)
  · have hc7' := hc7; try simp only [decide_eq_true_eq, decide_eq_false_iff_not, Bool.not_eq_true', Bool.not_eq_false', Bool.not_eq_true, Bool.not_eq_false] at hc7'
    have hrn : rdI s (f + 1) p = none := by rw [rdI_bin hp h40, hr1]; dsimp only; rw [if_neg hqB, hr2]; exact if_pos (.inr (nbT 41 (by decide) hc7))
    refine WC.seq ?_
    refine WC.region ?_
    refine WL.u rfl rfl (Wt.plain rfl) (Ex.assign rfl) ?_
    refine WL.u rfl rfl (Wt.plain rfl) (Ex.assign rfl) ?_
    refine WL.next ?_
    refine WC.ret ?_
    refine WN.retThen ?_
    refine WN.body2 rfl rfl rfl ?_
    exact ⟨none, 0, rfl, hH.keep, by rw [hrn]; exact ⟨rfl, rfl⟩⟩
  have hc7' := hc7; try simp only [decide_eq_true_eq, decide_eq_false_iff_not, Bool.not_eq_true', Bool.not_eq_false', Bool.not_eq_true, Bool.not_eq_false] at hc7'
  have h41 : s.getD e87 0 = 41 := nbF 41 (by decide) hc7
  have hqC : ¬ (s.length ≤ e87 ∨ s.getD e87 0 ≠ 41) := by rw [h41]; simp; omega
  refine WC.skip ?_
  refine WN.next ?_
  refine WC.seq ?_
  refine WC.region ?_
  refine WL.u rfl rfl (Wt.plain rfl) (Ex.move rfl) ?_
  refine WL.u rfl rfl (Wt.plain rfl) (Ex.move rfl) ?_
  refine WL.u rfl rfl (Wt.plain rfl) (Ex.indexStr Try.underlying9 rfl rfl (by omega)) ?_
  refine WL.u rfl rfl (Wt.plain rfl) (Ex.move rfl) ?_
  refine WL.u rfl rfl (Wt.plain rfl) (Ex.move rfl) ?_
  refine WL.u rfl rfl (Wt.plain rfl) (Ex.buildS bd87 rfl rfl rfl rfl rfl) ?_
  refine WL.box rfl rfl rfl (Wt.plain rfl) hH (fun b110 wn hb110 hk110 hH => ?_)
  replace hT1 := hT1.kept hk110
  replace hT2 := hT2.kept hk110
  refine WL.u rfl rfl (Wt.plain rfl) (Ex.move rfl) ?_
  refine WL.u rfl rfl (Wt.plain rfl) (Ex.add rfl rfl (by omega)) ?_
  refine WL.u rfl rfl (Wt.plain rfl) (Ex.assign rfl) ?_
  refine WL.u rfl rfl (Wt.plain rfl) (Ex.assign rfl) ?_
  refine WL.next ?_
  refine WC.ret ?_
  refine WN.body2 rfl rfl rfl ?_
  exact ⟨some b110, e87 + 1, rfl, hH.keep, by rw [rdI_bin hp h40, hr1]; dsimp only; rw [if_neg hqB, hr2]; dsimp only; rw [if_neg hqC]; exact ⟨rfl, _, rfl, b1, b2, hH.at 0 rfl, hT1, hT2⟩⟩


theorem ireadTerm (s : Str) (h60 : s.length ≤ 60) (f : Nat) : ∀ (p : Nat) (w : World), p ≤ s.length → s.length < p + f → Fn Try.prog 91 [vstr s, vint p] w (fun v w1 => ∃ ob e, v = .tuple #[PV ob, vint (e : Nat)] ∧ Keep [] w w1 ∧ RdR w1 (rdI s f p) ob e) := by
  induction f with
  | zero => intro p w h1 h2; omega
  | succ f ih => exact fun p w h1 h2 => ireadTerm1 s f p w ih h60 h1 h2
end Go.Proofs.Ytnilefmlbedfcaa
