/- The program's TermRounds returns what the reference's returns, for all arguments. -/
import Derived.Test.YtamkbmhgclpidaaJnt
import Derived.Test.YtamkbmhgclpidaaOpen
import Derived.Test.YtamkbmhgclpidaaMay
import Derived.Test.YtamkbmhgclpidaaRows
namespace Go.Proofs.Ytamkbmhgclpidaa
set_option maxRecDepth 100000
set_option linter.unusedSimpArgs false
set_option linter.unusedVariables false
open Go Go.ChangeShapes Go.WideShapes Go.ChangeAt Go.RowKit
open Go.ChangeMaps (open_string shut_string)

set_option maxRecDepth 100000 in
set_option maxHeartbeats 1000000 in
theorem liftedFnExactTermRounds (os : Os) (started : os.Started) (H : Type) (enc : TypeId × Value → H) :
    ReturnsInHanded {} Try.checked os 4 .any (Rows.fnExactTermRoundsSpec.pre6 enc Try.prog Try.f4 Rows.fnExactTermRoundsRow.domain false) (Rows.fnExactTermRoundsSpec.post enc Try.prog Try.f4 false true false false) := by
  refine returnsInHanded_of_change (C := Try.checked) openOwn started (by kernel_rfl) Try.func4
    (ChangeSpec.witness6 (enc := enc) (C := Try.checked) false ⟨#[], #[.string .empty], []⟩ 8 (by kernel_rfl) (by kernel_rfl) (by kernel_rfl) (by kernel_rfl)) ?_
  intro W base args ds gs before hval0 hW hcnd _
  have hval : ∀ (j : Nat) t v, Try.f4.params[j]? = some t → args[j]? = some v → Value.okWide Try.prog W .any base t v := hval0
  have hW' := hW
  obtain ⟨p, q, hA0, hV, rfl, hfz, hnd⟩ := hW
  have hA : DataW.TrodAll enc Try.prog W 0 (fun _ => true) true Try.f4.params.toList args.toList ds p := hA0
  rw [Try.params4] at hA hval
  obtain ⟨v0, vs0, d0, ds0, p0, q0, hargs, rfl, rfl, h0, r0⟩ := trodAll_cons hA
  obtain ⟨rfl, rfl, rfl⟩ := trodAll_nil r0
  obtain rfl : args = #[v0] := by cases args; simp_all
  obtain ⟨rfl, rfl⟩ := trodVars_none hV
  obtain ⟨s0, rfl, rfl, rfl, w0⟩ := open_string Try.underlying9 (hval 0 9 v0 rfl rfl) h0
  obtain ⟨t0, rfl⟩ : ∃ t : List UInt8, s0 = ByteArray.mk t.toArray := ⟨s0.data.toList, by rw [Array.toArray_toList]⟩
  have y0 : (t0.length : Int) ≤ 9223372036854775807 := by have := w0; simp only [maxLen] at this; have e : (ByteArray.mk t0.toArray).size = t0.length := bs_size t0; omega
  clear hA0 hval0
  refine Calls.mono (endOf (lawExactTermRounds t0 W y0)) fun e W' ⟨he, bel⟩ => ?_
  subst he
  exact ⟨_, rfl, _, _, _, [], _, [], hW', trodAll_mk1 (shut_bool Try.underlying4 _), (trodAll_cons_mk (shut_string Try.underlying9 w0) trodAll_mk0), rfl, bel.frame _, fun h => by cases h⟩

theorem closedFnExactTermRounds : joinedFacts Try.prog 4 Try.f4 Rows.fnExactTermRoundsSpec Rows.fnExactTermRoundsRow = true := by
  unfold joinedFacts
  repeat' (with_reducible apply andI)
  all_goals (first | (with_reducible exact mayEnter) | (rw [liftsFinal]; rfl) | (rw [makeCut]; rfl) | (as_aux_lemma => kernel_rfl))

theorem fnExactTermRounds_holds : Rows.FnExactTermRoundsSaid :=
  OpenClaim.holds_of_wide 4 Try.f4 rfl rfl rfl rfl rfl rfl rfl ⟨rfl, rfl, rfl, rfl, rfl⟩ rfl rfl rfl rfl rfl (by kernel_rfl) Try.func4 closedFnExactTermRounds
    (of_decide_eq_true (by kernel_rfl)) (by unfold Func.isWrapper; first | (rw [if_pos (by decide +kernel)]; kernel_rfl) | (rw [if_neg (by decide +kernel)]; exact ⟨rfl, rfl⟩))
    (fun os started H enc _ => liftedFnExactTermRounds os started H enc)

end Go.Proofs.Ytamkbmhgclpidaa
