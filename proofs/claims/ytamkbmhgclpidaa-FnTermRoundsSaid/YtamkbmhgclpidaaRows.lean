/-
  No cell of these rows narrows 'for every input' (looked for: loops, veiled, ifaces, maps, wideKeys, modest, calm, conditions, laid).
  DERIVED. THE GIVEN ROWS OF THIS SEAT. 4 by the template 'for every input the law returns true; each argument reads behind the call as it read before'; 0 by the template 'total and deterministic' (their statements: YtamkbmhgclpidaaTotals.lean).
  GIVEN WITH THE SEED: the statements are not yours to turn. If you find one false, say at which input.
  Laid BY PROGRAM, IN A SANDBOX (cutbox-rows.mjs): the forced cells as the released guide's own fill.sh prints them over the translation 1b6a8b2a67dd7c1a… (all of the seat's roots in one cut). By AI agents, Wed Nov 11 2026. No macro, syntax, notation, axiom, sorry.
-/
import Derived.Test.YtamkbmhgclpidaaChecked
import GoSem.Claim
import GoSem.ClaimJoined
import GoSem.ClaimMapViews
import Derived.JoinedTies
import Derived.KernelRfl
namespace Go.Proofs.Ytamkbmhgclpidaa
/- THE CELL 'sum', in the pinned program and in every row, IS THE sha256 OF THE DUMP (.gsa) THAT YtamkbmhgclpidaaProg.lean LOADS. Nothing in Lean hashes anything: it is a label: what it is worth is what the hold of that sum in a sandbox is worth. -/
noncomputable def Try.pinned : Pinned := { name := "ytamkbmhgclpidaa", sum := "1b6a8b2a67dd7c1ab1865ee4cce9402bf3f61a491fac9b5d304b21358ba47341", checked := Try.checked }
namespace Rows
def none {H : Type} : Left H := { results := [], args := [] }

/-- 'laws.FnExactTermPairs': WHATEVER THE INPUT: true; the input reads as it did. -/
def fnExactTermPairsSpec : ChangeSpec := { name := "fnExactTermPairs", fn := fun _ => fun
  | [d] => { results := [.lit (.bool true)], args := [d] }
  | _ => none }
def fnExactTermPairsRow : OpenClaim := { program := "ytamkbmhgclpidaa", sum := "1b6a8b2a67dd7c1ab1865ee4cce9402bf3f61a491fac9b5d304b21358ba47341", func := "loop.example/mirrorgrids/laws.FnExactTermPairs", spec := "fnExactTermPairs", unfollowed := true, recurses := true, plainKeys := false, apart := false }
def FnExactTermPairsSaid : Prop := fnExactTermPairsRow.holds Try.pinned (OpenSpec.ofChange fnExactTermPairsSpec)

/-- ITS FALSE NEIGHBOUR: 'it returns false'. Refute it at one input. -/
def fnExactTermPairsWrong : ChangeSpec := { name := "fnExactTermPairs", fn := fun _ => fun
  | [d] => { results := [.lit (.bool false)], args := [d] }
  | _ => none }
def FnExactTermPairsWrongFalsely : Prop := fnExactTermPairsRow.holds Try.pinned (OpenSpec.ofChange fnExactTermPairsWrong)

/-- 'laws.FnExactTermRounds': WHATEVER THE INPUT: true; the input reads as it did. -/
def fnExactTermRoundsSpec : ChangeSpec := { name := "fnExactTermRounds", fn := fun _ => fun
  | [d] => { results := [.lit (.bool true)], args := [d] }
  | _ => none }
def fnExactTermRoundsRow : OpenClaim := { program := "ytamkbmhgclpidaa", sum := "1b6a8b2a67dd7c1ab1865ee4cce9402bf3f61a491fac9b5d304b21358ba47341", func := "loop.example/mirrorgrids/laws.FnExactTermRounds", spec := "fnExactTermRounds", unfollowed := true, recurses := true, plainKeys := false, apart := false }
def FnExactTermRoundsSaid : Prop := fnExactTermRoundsRow.holds Try.pinned (OpenSpec.ofChange fnExactTermRoundsSpec)

/-- ITS FALSE NEIGHBOUR: 'it returns false'. Refute it at one input. -/
def fnExactTermRoundsWrong : ChangeSpec := { name := "fnExactTermRounds", fn := fun _ => fun
  | [d] => { results := [.lit (.bool false)], args := [d] }
  | _ => none }
def FnExactTermRoundsWrongFalsely : Prop := fnExactTermRoundsRow.holds Try.pinned (OpenSpec.ofChange fnExactTermRoundsWrong)

/-- 'laws.FnTermPairs': WHATEVER THE INPUT: true; the input reads as it did. -/
def fnTermPairsSpec : ChangeSpec := { name := "fnTermPairs", fn := fun _ => fun
  | [d] => { results := [.lit (.bool true)], args := [d] }
  | _ => none }
def fnTermPairsRow : OpenClaim := { program := "ytamkbmhgclpidaa", sum := "1b6a8b2a67dd7c1ab1865ee4cce9402bf3f61a491fac9b5d304b21358ba47341", func := "loop.example/mirrorgrids/laws.FnTermPairs", spec := "fnTermPairs", unfollowed := true, recurses := true, plainKeys := false, apart := false }
def FnTermPairsSaid : Prop := fnTermPairsRow.holds Try.pinned (OpenSpec.ofChange fnTermPairsSpec)

/-- ITS FALSE NEIGHBOUR: 'it returns false'. Refute it at one input. -/
def fnTermPairsWrong : ChangeSpec := { name := "fnTermPairs", fn := fun _ => fun
  | [d] => { results := [.lit (.bool false)], args := [d] }
  | _ => none }
def FnTermPairsWrongFalsely : Prop := fnTermPairsRow.holds Try.pinned (OpenSpec.ofChange fnTermPairsWrong)

/-- 'laws.FnTermRounds': WHATEVER THE INPUT: true; the input reads as it did. -/
def fnTermRoundsSpec : ChangeSpec := { name := "fnTermRounds", fn := fun _ => fun
  | [d] => { results := [.lit (.bool true)], args := [d] }
  | _ => none }
def fnTermRoundsRow : OpenClaim := { program := "ytamkbmhgclpidaa", sum := "1b6a8b2a67dd7c1ab1865ee4cce9402bf3f61a491fac9b5d304b21358ba47341", func := "loop.example/mirrorgrids/laws.FnTermRounds", spec := "fnTermRounds", unfollowed := true, recurses := true, plainKeys := false, apart := false }
def FnTermRoundsSaid : Prop := fnTermRoundsRow.holds Try.pinned (OpenSpec.ofChange fnTermRoundsSpec)

/-- ITS FALSE NEIGHBOUR: 'it returns false'. Refute it at one input. -/
def fnTermRoundsWrong : ChangeSpec := { name := "fnTermRounds", fn := fun _ => fun
  | [d] => { results := [.lit (.bool false)], args := [d] }
  | _ => none }
def FnTermRoundsWrongFalsely : Prop := fnTermRoundsRow.holds Try.pinned (OpenSpec.ofChange fnTermRoundsWrong)

/- THE SECOND FORM. 'bulk': how many values and letters a reading holds, each counted each time it is reached (what is shared counts as often as it is met; a slice's spare places count too). A statement '..UptoSaid' is the law's where the arguments, and the package variables that the reading takes, are together of bulk at most 1048576: NARROWER than '..Said'. Prove '..Said' where nothing that the law and all that it calls make is longer than what came in: it says more and counts as full. Else prove '..UptoSaid'. A law counts once. -/
mutual
def uptoBulk {H : Type} : DataW H → Nat
  | .lit (.string bytes) => bytes.length + 1
  | .lit _ => 1
  | .nil => 1
  | .ptr d => uptoBulk d + 1
  | .slice elems spare => uptoBulkAll elems + uptoBulkAll spare + 1
  | .agg parts => uptoBulkAll parts + 1
  | .iface _ d => uptoBulk d + 1
  | .map entries => uptoBulkEntries entries + 1
  | .held _ => 1
def uptoBulkAll {H : Type} : List (DataW H) → Nat
  | [] => 0
  | d :: r => uptoBulk d + uptoBulkAll r
def uptoBulkEntries {H : Type} : List (Lit × DataW H) → Nat
  | [] => 0
  | x :: r => uptoBulkEntry x + uptoBulkEntries r
def uptoBulkEntry {H : Type} : Lit × DataW H → Nat
  | (.string bytes, d) => bytes.length + uptoBulk d + 1
  | (_, d) => uptoBulk d + 1
 end
def uptoSmall : (H : Type) → List (DataW H) → Bool := fun _ ds => decide (uptoBulkAll ds ≤ 1048576)
def OpenSpec.upto (s : _root_.Go.ChangeSpec) : _root_.Go.OpenSpec := { _root_.Go.OpenSpec.ofChange s with cond := some uptoSmall }

/-- 'laws.FnExactTermPairs', WHERE WHAT IT READS IS OF BULK AT MOST 1048576: true; the input reads as it did. -/
def fnExactTermPairsUptoRow : OpenClaim := { program := "ytamkbmhgclpidaa", sum := "1b6a8b2a67dd7c1ab1865ee4cce9402bf3f61a491fac9b5d304b21358ba47341", func := "loop.example/mirrorgrids/laws.FnExactTermPairs", spec := "fnExactTermPairs", unfollowed := true, recurses := true, plainKeys := false, apart := false, narrowed := true }
def FnExactTermPairsUptoSaid : Prop := fnExactTermPairsUptoRow.holds Try.pinned (OpenSpec.upto fnExactTermPairsSpec)

/-- 'laws.FnExactTermRounds', WHERE WHAT IT READS IS OF BULK AT MOST 1048576: true; the input reads as it did. -/
def fnExactTermRoundsUptoRow : OpenClaim := { program := "ytamkbmhgclpidaa", sum := "1b6a8b2a67dd7c1ab1865ee4cce9402bf3f61a491fac9b5d304b21358ba47341", func := "loop.example/mirrorgrids/laws.FnExactTermRounds", spec := "fnExactTermRounds", unfollowed := true, recurses := true, plainKeys := false, apart := false, narrowed := true }
def FnExactTermRoundsUptoSaid : Prop := fnExactTermRoundsUptoRow.holds Try.pinned (OpenSpec.upto fnExactTermRoundsSpec)

/-- 'laws.FnTermPairs', WHERE WHAT IT READS IS OF BULK AT MOST 1048576: true; the input reads as it did. -/
def fnTermPairsUptoRow : OpenClaim := { program := "ytamkbmhgclpidaa", sum := "1b6a8b2a67dd7c1ab1865ee4cce9402bf3f61a491fac9b5d304b21358ba47341", func := "loop.example/mirrorgrids/laws.FnTermPairs", spec := "fnTermPairs", unfollowed := true, recurses := true, plainKeys := false, apart := false, narrowed := true }
def FnTermPairsUptoSaid : Prop := fnTermPairsUptoRow.holds Try.pinned (OpenSpec.upto fnTermPairsSpec)

/-- 'laws.FnTermRounds', WHERE WHAT IT READS IS OF BULK AT MOST 1048576: true; the input reads as it did. -/
def fnTermRoundsUptoRow : OpenClaim := { program := "ytamkbmhgclpidaa", sum := "1b6a8b2a67dd7c1ab1865ee4cce9402bf3f61a491fac9b5d304b21358ba47341", func := "loop.example/mirrorgrids/laws.FnTermRounds", spec := "fnTermRounds", unfollowed := true, recurses := true, plainKeys := false, apart := false, narrowed := true }
def FnTermRoundsUptoSaid : Prop := fnTermRoundsUptoRow.holds Try.pinned (OpenSpec.upto fnTermRoundsSpec)

end Rows
end Go.Proofs.Ytamkbmhgclpidaa
