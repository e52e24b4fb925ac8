/-
  No cell of these rows narrows 'for every input' (looked for: loops, veiled, ifaces, maps, wideKeys, modest, calm, conditions, laid).
  DERIVED. THE GIVEN ROWS OF THIS SEAT. 12 by the template 'for every input the law returns true; each argument reads behind the call as it read before'; 0 by the template 'total and deterministic' (their statements: YtjejdebmlgjdeaaTotals.lean).
  GIVEN WITH THE SEED: the statements are not yours to turn. If you find one false, say at which input.
  Laid BY PROGRAM, IN A SANDBOX (cutbox-rows.mjs): the forced cells as the released guide's own fill.sh prints them over the translation d838b7d25b1ea90e… (all of the seat's roots in one cut). By AI agents, Wed Nov 11 2026. No macro, syntax, notation, axiom, sorry.
-/
import Derived.Test.YtjejdebmlgjdeaaChecked
import GoSem.Claim
import GoSem.ClaimJoined
import GoSem.ClaimMapViews
import Derived.JoinedTies
import Derived.KernelRfl
namespace Go.Proofs.Ytjejdebmlgjdeaa
/- THE CELL 'sum', in the pinned program and in every row, IS THE sha256 OF THE DUMP (.gsa) THAT YtjejdebmlgjdeaaProg.lean LOADS. Nothing in Lean hashes anything: it is a label: what it is worth is what the hold of that sum in a sandbox is worth. -/
noncomputable def Try.pinned : Pinned := { name := "ytjejdebmlgjdeaa", sum := "d838b7d25b1ea90e0f04dad445f44d08a886e36d3babd5b3f160605b120e43e8", checked := Try.checked }
namespace Rows
def none {H : Type} : Left H := { results := [], args := [] }

/-- 'laws.FnExactAimGo': WHATEVER THE INPUT: true; the input reads as it did. -/
def fnExactAimGoSpec : ChangeSpec := { name := "fnExactAimGo", fn := fun _ => fun
  | [d1, d2, d3] => { results := [.lit (.bool true)], args := [d1, d2, d3] }
  | _ => none }
def fnExactAimGoRow : OpenClaim := { program := "ytjejdebmlgjdeaa", sum := "d838b7d25b1ea90e0f04dad445f44d08a886e36d3babd5b3f160605b120e43e8", func := "loop.example/mirrorgrids/laws.FnExactAimGo", spec := "fnExactAimGo", unfollowed := true, recurses := true, plainKeys := false, apart := false }
def FnExactAimGoSaid : Prop := fnExactAimGoRow.holds Try.pinned (OpenSpec.ofChange fnExactAimGoSpec)

/-- ITS FALSE NEIGHBOUR: 'it returns false'. Refute it at one input. -/
def fnExactAimGoWrong : ChangeSpec := { name := "fnExactAimGo", fn := fun _ => fun
  | [d1, d2, d3] => { results := [.lit (.bool false)], args := [d1, d2, d3] }
  | _ => none }
def FnExactAimGoWrongFalsely : Prop := fnExactAimGoRow.holds Try.pinned (OpenSpec.ofChange fnExactAimGoWrong)

/-- 'laws.FnExactAimEmpty': WHATEVER THE INPUT: true; the input reads as it did. -/
def fnExactAimEmptySpec : ChangeSpec := { name := "fnExactAimEmpty", fn := fun _ => fun
  | [d1, d2, d3, d4] => { results := [.lit (.bool true)], args := [d1, d2, d3, d4] }
  | _ => none }
def fnExactAimEmptyRow : OpenClaim := { program := "ytjejdebmlgjdeaa", sum := "d838b7d25b1ea90e0f04dad445f44d08a886e36d3babd5b3f160605b120e43e8", func := "loop.example/mirrorgrids/laws.FnExactAimEmpty", spec := "fnExactAimEmpty", unfollowed := true, recurses := true, plainKeys := false, apart := false }
def FnExactAimEmptySaid : Prop := fnExactAimEmptyRow.holds Try.pinned (OpenSpec.ofChange fnExactAimEmptySpec)

/-- ITS FALSE NEIGHBOUR: 'it returns false'. Refute it at one input. -/
def fnExactAimEmptyWrong : ChangeSpec := { name := "fnExactAimEmpty", fn := fun _ => fun
  | [d1, d2, d3, d4] => { results := [.lit (.bool false)], args := [d1, d2, d3, d4] }
  | _ => none }
def FnExactAimEmptyWrongFalsely : Prop := fnExactAimEmptyRow.holds Try.pinned (OpenSpec.ofChange fnExactAimEmptyWrong)

/-- 'laws.FnAimGo': WHATEVER THE INPUT: true; the input reads as it did. -/
def fnAimGoSpec : ChangeSpec := { name := "fnAimGo", fn := fun _ => fun
  | [d] => { results := [.lit (.bool true)], args := [d] }
  | _ => none }
def fnAimGoRow : OpenClaim := { program := "ytjejdebmlgjdeaa", sum := "d838b7d25b1ea90e0f04dad445f44d08a886e36d3babd5b3f160605b120e43e8", func := "loop.example/mirrorgrids/laws.FnAimGo", spec := "fnAimGo", unfollowed := true, recurses := true, plainKeys := false, apart := false }
def FnAimGoSaid : Prop := fnAimGoRow.holds Try.pinned (OpenSpec.ofChange fnAimGoSpec)

/-- ITS FALSE NEIGHBOUR: 'it returns false'. Refute it at one input. -/
def fnAimGoWrong : ChangeSpec := { name := "fnAimGo", fn := fun _ => fun
  | [d] => { results := [.lit (.bool false)], args := [d] }
  | _ => none }
def FnAimGoWrongFalsely : Prop := fnAimGoRow.holds Try.pinned (OpenSpec.ofChange fnAimGoWrong)

/-- 'laws.FnAimEmpty': WHATEVER THE INPUT: true; the input reads as it did. -/
def fnAimEmptySpec : ChangeSpec := { name := "fnAimEmpty", fn := fun _ => fun
  | [d] => { results := [.lit (.bool true)], args := [d] }
  | _ => none }
def fnAimEmptyRow : OpenClaim := { program := "ytjejdebmlgjdeaa", sum := "d838b7d25b1ea90e0f04dad445f44d08a886e36d3babd5b3f160605b120e43e8", func := "loop.example/mirrorgrids/laws.FnAimEmpty", spec := "fnAimEmpty", unfollowed := true, recurses := true, plainKeys := false, apart := false }
def FnAimEmptySaid : Prop := fnAimEmptyRow.holds Try.pinned (OpenSpec.ofChange fnAimEmptySpec)

/-- ITS FALSE NEIGHBOUR: 'it returns false'. Refute it at one input. -/
def fnAimEmptyWrong : ChangeSpec := { name := "fnAimEmpty", fn := fun _ => fun
  | [d] => { results := [.lit (.bool false)], args := [d] }
  | _ => none }
def FnAimEmptyWrongFalsely : Prop := fnAimEmptyRow.holds Try.pinned (OpenSpec.ofChange fnAimEmptyWrong)

/-- 'laws.FnAimTry': WHATEVER THE INPUT: true; the input reads as it did. -/
def fnAimTrySpec : ChangeSpec := { name := "fnAimTry", fn := fun _ => fun
  | [d] => { results := [.lit (.bool true)], args := [d] }
  | _ => none }
def fnAimTryRow : OpenClaim := { program := "ytjejdebmlgjdeaa", sum := "d838b7d25b1ea90e0f04dad445f44d08a886e36d3babd5b3f160605b120e43e8", func := "loop.example/mirrorgrids/laws.FnAimTry", spec := "fnAimTry", unfollowed := true, recurses := true, plainKeys := false, apart := false }
def FnAimTrySaid : Prop := fnAimTryRow.holds Try.pinned (OpenSpec.ofChange fnAimTrySpec)

/-- ITS FALSE NEIGHBOUR: 'it returns false'. Refute it at one input. -/
def fnAimTryWrong : ChangeSpec := { name := "fnAimTry", fn := fun _ => fun
  | [d] => { results := [.lit (.bool false)], args := [d] }
  | _ => none }
def FnAimTryWrongFalsely : Prop := fnAimTryRow.holds Try.pinned (OpenSpec.ofChange fnAimTryWrong)

/-- 'laws.FnExactCountTotal': WHATEVER THE INPUT: true; the input reads as it did. -/
def fnExactCountTotalSpec : ChangeSpec := { name := "fnExactCountTotal", fn := fun _ => fun
  | [d1, d2] => { results := [.lit (.bool true)], args := [d1, d2] }
  | _ => none }
def fnExactCountTotalRow : OpenClaim := { program := "ytjejdebmlgjdeaa", sum := "d838b7d25b1ea90e0f04dad445f44d08a886e36d3babd5b3f160605b120e43e8", func := "loop.example/mirrorgrids/laws.FnExactCountTotal", spec := "fnExactCountTotal", unfollowed := true, recurses := true, plainKeys := false, apart := false }
def FnExactCountTotalSaid : Prop := fnExactCountTotalRow.holds Try.pinned (OpenSpec.ofChange fnExactCountTotalSpec)

/-- ITS FALSE NEIGHBOUR: 'it returns false'. Refute it at one input. -/
def fnExactCountTotalWrong : ChangeSpec := { name := "fnExactCountTotal", fn := fun _ => fun
  | [d1, d2] => { results := [.lit (.bool false)], args := [d1, d2] }
  | _ => none }
def FnExactCountTotalWrongFalsely : Prop := fnExactCountTotalRow.holds Try.pinned (OpenSpec.ofChange fnExactCountTotalWrong)

/-- 'laws.FnExactCountRounds': WHATEVER THE INPUT: true; the input reads as it did. -/
def fnExactCountRoundsSpec : ChangeSpec := { name := "fnExactCountRounds", fn := fun _ => fun
  | [d1, d2] => { results := [.lit (.bool true)], args := [d1, d2] }
  | _ => none }
def fnExactCountRoundsRow : OpenClaim := { program := "ytjejdebmlgjdeaa", sum := "d838b7d25b1ea90e0f04dad445f44d08a886e36d3babd5b3f160605b120e43e8", func := "loop.example/mirrorgrids/laws.FnExactCountRounds", spec := "fnExactCountRounds", unfollowed := true, recurses := true, plainKeys := false, apart := false }
def FnExactCountRoundsSaid : Prop := fnExactCountRoundsRow.holds Try.pinned (OpenSpec.ofChange fnExactCountRoundsSpec)

/-- ITS FALSE NEIGHBOUR: 'it returns false'. Refute it at one input. -/
def fnExactCountRoundsWrong : ChangeSpec := { name := "fnExactCountRounds", fn := fun _ => fun
  | [d1, d2] => { results := [.lit (.bool false)], args := [d1, d2] }
  | _ => none }
def FnExactCountRoundsWrongFalsely : Prop := fnExactCountRoundsRow.holds Try.pinned (OpenSpec.ofChange fnExactCountRoundsWrong)

/-- 'laws.FnCountTotal': WHATEVER THE INPUT: true; the input reads as it did. -/
def fnCountTotalSpec : ChangeSpec := { name := "fnCountTotal", fn := fun _ => fun
  | [d] => { results := [.lit (.bool true)], args := [d] }
  | _ => none }
def fnCountTotalRow : OpenClaim := { program := "ytjejdebmlgjdeaa", sum := "d838b7d25b1ea90e0f04dad445f44d08a886e36d3babd5b3f160605b120e43e8", func := "loop.example/mirrorgrids/laws.FnCountTotal", spec := "fnCountTotal", unfollowed := true, recurses := true, plainKeys := false, apart := false }
def FnCountTotalSaid : Prop := fnCountTotalRow.holds Try.pinned (OpenSpec.ofChange fnCountTotalSpec)

/-- ITS FALSE NEIGHBOUR: 'it returns false'. Refute it at one input. -/
def fnCountTotalWrong : ChangeSpec := { name := "fnCountTotal", fn := fun _ => fun
  | [d] => { results := [.lit (.bool false)], args := [d] }
  | _ => none }
def FnCountTotalWrongFalsely : Prop := fnCountTotalRow.holds Try.pinned (OpenSpec.ofChange fnCountTotalWrong)

/-- 'laws.FnCountRounds': WHATEVER THE INPUT: true; the input reads as it did. -/
def fnCountRoundsSpec : ChangeSpec := { name := "fnCountRounds", fn := fun _ => fun
  | [d] => { results := [.lit (.bool true)], args := [d] }
  | _ => none }
def fnCountRoundsRow : OpenClaim := { program := "ytjejdebmlgjdeaa", sum := "d838b7d25b1ea90e0f04dad445f44d08a886e36d3babd5b3f160605b120e43e8", func := "loop.example/mirrorgrids/laws.FnCountRounds", spec := "fnCountRounds", unfollowed := true, recurses := true, plainKeys := false, apart := false }
def FnCountRoundsSaid : Prop := fnCountRoundsRow.holds Try.pinned (OpenSpec.ofChange fnCountRoundsSpec)

/-- ITS FALSE NEIGHBOUR: 'it returns false'. Refute it at one input. -/
def fnCountRoundsWrong : ChangeSpec := { name := "fnCountRounds", fn := fun _ => fun
  | [d] => { results := [.lit (.bool false)], args := [d] }
  | _ => none }
def FnCountRoundsWrongFalsely : Prop := fnCountRoundsRow.holds Try.pinned (OpenSpec.ofChange fnCountRoundsWrong)

/-- 'laws.FnCountSame': WHATEVER THE INPUT: true; the input reads as it did. -/
def fnCountSameSpec : ChangeSpec := { name := "fnCountSame", fn := fun _ => fun
  | [d] => { results := [.lit (.bool true)], args := [d] }
  | _ => none }
def fnCountSameRow : OpenClaim := { program := "ytjejdebmlgjdeaa", sum := "d838b7d25b1ea90e0f04dad445f44d08a886e36d3babd5b3f160605b120e43e8", func := "loop.example/mirrorgrids/laws.FnCountSame", spec := "fnCountSame", unfollowed := true, recurses := true, plainKeys := false, apart := false }
def FnCountSameSaid : Prop := fnCountSameRow.holds Try.pinned (OpenSpec.ofChange fnCountSameSpec)

/-- ITS FALSE NEIGHBOUR: 'it returns false'. Refute it at one input. -/
def fnCountSameWrong : ChangeSpec := { name := "fnCountSame", fn := fun _ => fun
  | [d] => { results := [.lit (.bool false)], args := [d] }
  | _ => none }
def FnCountSameWrongFalsely : Prop := fnCountSameRow.holds Try.pinned (OpenSpec.ofChange fnCountSameWrong)

/-- 'laws.FnExactCountJoined': WHATEVER THE INPUT: true; the input reads as it did. -/
def fnExactCountJoinedSpec : ChangeSpec := { name := "fnExactCountJoined", fn := fun _ => fun
  | [d1, d2] => { results := [.lit (.bool true)], args := [d1, d2] }
  | _ => none }
def fnExactCountJoinedRow : OpenClaim := { program := "ytjejdebmlgjdeaa", sum := "d838b7d25b1ea90e0f04dad445f44d08a886e36d3babd5b3f160605b120e43e8", func := "loop.example/mirrorgrids/laws.FnExactCountJoined", spec := "fnExactCountJoined", unfollowed := true, recurses := true, plainKeys := false, apart := false }
def FnExactCountJoinedSaid : Prop := fnExactCountJoinedRow.holds Try.pinned (OpenSpec.ofChange fnExactCountJoinedSpec)

/-- ITS FALSE NEIGHBOUR: 'it returns false'. Refute it at one input. -/
def fnExactCountJoinedWrong : ChangeSpec := { name := "fnExactCountJoined", fn := fun _ => fun
  | [d1, d2] => { results := [.lit (.bool false)], args := [d1, d2] }
  | _ => none }
def FnExactCountJoinedWrongFalsely : Prop := fnExactCountJoinedRow.holds Try.pinned (OpenSpec.ofChange fnExactCountJoinedWrong)

/-- 'laws.FnCountJoined': WHATEVER THE INPUT: true; the input reads as it did. -/
def fnCountJoinedSpec : ChangeSpec := { name := "fnCountJoined", fn := fun _ => fun
  | [d] => { results := [.lit (.bool true)], args := [d] }
  | _ => none }
def fnCountJoinedRow : OpenClaim := { program := "ytjejdebmlgjdeaa", sum := "d838b7d25b1ea90e0f04dad445f44d08a886e36d3babd5b3f160605b120e43e8", func := "loop.example/mirrorgrids/laws.FnCountJoined", spec := "fnCountJoined", unfollowed := true, recurses := true, plainKeys := false, apart := false }
def FnCountJoinedSaid : Prop := fnCountJoinedRow.holds Try.pinned (OpenSpec.ofChange fnCountJoinedSpec)

/-- ITS FALSE NEIGHBOUR: 'it returns false'. Refute it at one input. -/
def fnCountJoinedWrong : ChangeSpec := { name := "fnCountJoined", fn := fun _ => fun
  | [d] => { results := [.lit (.bool false)], args := [d] }
  | _ => none }
def FnCountJoinedWrongFalsely : Prop := fnCountJoinedRow.holds Try.pinned (OpenSpec.ofChange fnCountJoinedWrong)

/- THE SECOND FORM. 'bulk': how many values and letters a reading holds, each counted each time it is reached (what is shared counts as often as it is met; a slice's spare places count too). A statement '..UptoSaid' is the law's where the arguments, and the package variables that the reading takes, are together of bulk at most 1048576: NARROWER than '..Said'. Prove '..Said' where nothing that the law and all that it calls make is longer than what came in: it says more and counts as full. Else prove '..UptoSaid'. A law counts once. -/
mutual
def uptoBulk {H : Type} : DataW H → Nat
  | .lit (.string bytes) => bytes.length + 1
  | .lit _ => 1
  | .nil => 1
  | .ptr d => uptoBulk d + 1
  | .slice elems spare => uptoBulkAll elems + uptoBulkAll spare + 1
  | .agg parts => uptoBulkAll parts + 1
  | .iface _ d => uptoBulk d + 1
  | .map entries => uptoBulkEntries entries + 1
  | .held _ => 1
def uptoBulkAll {H : Type} : List (DataW H) → Nat
  | [] => 0
  | d :: r => uptoBulk d + uptoBulkAll r
def uptoBulkEntries {H : Type} : List (Lit × DataW H) → Nat
  | [] => 0
  | x :: r => uptoBulkEntry x + uptoBulkEntries r
def uptoBulkEntry {H : Type} : Lit × DataW H → Nat
  | (.string bytes, d) => bytes.length + uptoBulk d + 1
  | (_, d) => uptoBulk d + 1
 end
def uptoSmall : (H : Type) → List (DataW H) → Bool := fun _ ds => decide (uptoBulkAll ds ≤ 1048576)
def OpenSpec.upto (s : _root_.Go.ChangeSpec) : _root_.Go.OpenSpec := { _root_.Go.OpenSpec.ofChange s with cond := some uptoSmall }

/-- 'laws.FnExactAimGo', WHERE WHAT IT READS IS OF BULK AT MOST 1048576: true; the input reads as it did. -/
def fnExactAimGoUptoRow : OpenClaim := { program := "ytjejdebmlgjdeaa", sum := "d838b7d25b1ea90e0f04dad445f44d08a886e36d3babd5b3f160605b120e43e8", func := "loop.example/mirrorgrids/laws.FnExactAimGo", spec := "fnExactAimGo", unfollowed := true, recurses := true, plainKeys := false, apart := false, narrowed := true }
def FnExactAimGoUptoSaid : Prop := fnExactAimGoUptoRow.holds Try.pinned (OpenSpec.upto fnExactAimGoSpec)

/-- 'laws.FnExactAimEmpty', WHERE WHAT IT READS IS OF BULK AT MOST 1048576: true; the input reads as it did. -/
def fnExactAimEmptyUptoRow : OpenClaim := { program := "ytjejdebmlgjdeaa", sum := "d838b7d25b1ea90e0f04dad445f44d08a886e36d3babd5b3f160605b120e43e8", func := "loop.example/mirrorgrids/laws.FnExactAimEmpty", spec := "fnExactAimEmpty", unfollowed := true, recurses := true, plainKeys := false, apart := false, narrowed := true }
def FnExactAimEmptyUptoSaid : Prop := fnExactAimEmptyUptoRow.holds Try.pinned (OpenSpec.upto fnExactAimEmptySpec)

/-- 'laws.FnAimGo', WHERE WHAT IT READS IS OF BULK AT MOST 1048576: true; the input reads as it did. -/
def fnAimGoUptoRow : OpenClaim := { program := "ytjejdebmlgjdeaa", sum := "d838b7d25b1ea90e0f04dad445f44d08a886e36d3babd5b3f160605b120e43e8", func := "loop.example/mirrorgrids/laws.FnAimGo", spec := "fnAimGo", unfollowed := true, recurses := true, plainKeys := false, apart := false, narrowed := true }
def FnAimGoUptoSaid : Prop := fnAimGoUptoRow.holds Try.pinned (OpenSpec.upto fnAimGoSpec)

/-- 'laws.FnAimEmpty', WHERE WHAT IT READS IS OF BULK AT MOST 1048576: true; the input reads as it did. -/
def fnAimEmptyUptoRow : OpenClaim := { program := "ytjejdebmlgjdeaa", sum := "d838b7d25b1ea90e0f04dad445f44d08a886e36d3babd5b3f160605b120e43e8", func := "loop.example/mirrorgrids/laws.FnAimEmpty", spec := "fnAimEmpty", unfollowed := true, recurses := true, plainKeys := false, apart := false, narrowed := true }
def FnAimEmptyUptoSaid : Prop := fnAimEmptyUptoRow.holds Try.pinned (OpenSpec.upto fnAimEmptySpec)

/-- 'laws.FnAimTry', WHERE WHAT IT READS IS OF BULK AT MOST 1048576: true; the input reads as it did. -/
def fnAimTryUptoRow : OpenClaim := { program := "ytjejdebmlgjdeaa", sum := "d838b7d25b1ea90e0f04dad445f44d08a886e36d3babd5b3f160605b120e43e8", func := "loop.example/mirrorgrids/laws.FnAimTry", spec := "fnAimTry", unfollowed := true, recurses := true, plainKeys := false, apart := false, narrowed := true }
def FnAimTryUptoSaid : Prop := fnAimTryUptoRow.holds Try.pinned (OpenSpec.upto fnAimTrySpec)

/-- 'laws.FnExactCountTotal', WHERE WHAT IT READS IS OF BULK AT MOST 1048576: true; the input reads as it did. -/
def fnExactCountTotalUptoRow : OpenClaim := { program := "ytjejdebmlgjdeaa", sum := "d838b7d25b1ea90e0f04dad445f44d08a886e36d3babd5b3f160605b120e43e8", func := "loop.example/mirrorgrids/laws.FnExactCountTotal", spec := "fnExactCountTotal", unfollowed := true, recurses := true, plainKeys := false, apart := false, narrowed := true }
def FnExactCountTotalUptoSaid : Prop := fnExactCountTotalUptoRow.holds Try.pinned (OpenSpec.upto fnExactCountTotalSpec)

/-- 'laws.FnExactCountRounds', WHERE WHAT IT READS IS OF BULK AT MOST 1048576: true; the input reads as it did. -/
def fnExactCountRoundsUptoRow : OpenClaim := { program := "ytjejdebmlgjdeaa", sum := "d838b7d25b1ea90e0f04dad445f44d08a886e36d3babd5b3f160605b120e43e8", func := "loop.example/mirrorgrids/laws.FnExactCountRounds", spec := "fnExactCountRounds", unfollowed := true, recurses := true, plainKeys := false, apart := false, narrowed := true }
def FnExactCountRoundsUptoSaid : Prop := fnExactCountRoundsUptoRow.holds Try.pinned (OpenSpec.upto fnExactCountRoundsSpec)

/-- 'laws.FnCountTotal', WHERE WHAT IT READS IS OF BULK AT MOST 1048576: true; the input reads as it did. -/
def fnCountTotalUptoRow : OpenClaim := { program := "ytjejdebmlgjdeaa", sum := "d838b7d25b1ea90e0f04dad445f44d08a886e36d3babd5b3f160605b120e43e8", func := "loop.example/mirrorgrids/laws.FnCountTotal", spec := "fnCountTotal", unfollowed := true, recurses := true, plainKeys := false, apart := false, narrowed := true }
def FnCountTotalUptoSaid : Prop := fnCountTotalUptoRow.holds Try.pinned (OpenSpec.upto fnCountTotalSpec)

/-- 'laws.FnCountRounds', WHERE WHAT IT READS IS OF BULK AT MOST 1048576: true; the input reads as it did. -/
def fnCountRoundsUptoRow : OpenClaim := { program := "ytjejdebmlgjdeaa", sum := "d838b7d25b1ea90e0f04dad445f44d08a886e36d3babd5b3f160605b120e43e8", func := "loop.example/mirrorgrids/laws.FnCountRounds", spec := "fnCountRounds", unfollowed := true, recurses := true, plainKeys := false, apart := false, narrowed := true }
def FnCountRoundsUptoSaid : Prop := fnCountRoundsUptoRow.holds Try.pinned (OpenSpec.upto fnCountRoundsSpec)

/-- 'laws.FnCountSame', WHERE WHAT IT READS IS OF BULK AT MOST 1048576: true; the input reads as it did. -/
def fnCountSameUptoRow : OpenClaim := { program := "ytjejdebmlgjdeaa", sum := "d838b7d25b1ea90e0f04dad445f44d08a886e36d3babd5b3f160605b120e43e8", func := "loop.example/mirrorgrids/laws.FnCountSame", spec := "fnCountSame", unfollowed := true, recurses := true, plainKeys := false, apart := false, narrowed := true }
def FnCountSameUptoSaid : Prop := fnCountSameUptoRow.holds Try.pinned (OpenSpec.upto fnCountSameSpec)

/-- 'laws.FnExactCountJoined', WHERE WHAT IT READS IS OF BULK AT MOST 1048576: true; the input reads as it did. -/
def fnExactCountJoinedUptoRow : OpenClaim := { program := "ytjejdebmlgjdeaa", sum := "d838b7d25b1ea90e0f04dad445f44d08a886e36d3babd5b3f160605b120e43e8", func := "loop.example/mirrorgrids/laws.FnExactCountJoined", spec := "fnExactCountJoined", unfollowed := true, recurses := true, plainKeys := false, apart := false, narrowed := true }
def FnExactCountJoinedUptoSaid : Prop := fnExactCountJoinedUptoRow.holds Try.pinned (OpenSpec.upto fnExactCountJoinedSpec)

/-- 'laws.FnCountJoined', WHERE WHAT IT READS IS OF BULK AT MOST 1048576: true; the input reads as it did. -/
def fnCountJoinedUptoRow : OpenClaim := { program := "ytjejdebmlgjdeaa", sum := "d838b7d25b1ea90e0f04dad445f44d08a886e36d3babd5b3f160605b120e43e8", func := "loop.example/mirrorgrids/laws.FnCountJoined", spec := "fnCountJoined", unfollowed := true, recurses := true, plainKeys := false, apart := false, narrowed := true }
def FnCountJoinedUptoSaid : Prop := fnCountJoinedUptoRow.holds Try.pinned (OpenSpec.upto fnCountJoinedSpec)

end Rows
end Go.Proofs.Ytjejdebmlgjdeaa
