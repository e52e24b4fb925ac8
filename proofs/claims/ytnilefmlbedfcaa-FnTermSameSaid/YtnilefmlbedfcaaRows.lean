/-
  No cell of these rows narrows 'for every input' (looked for: loops, veiled, ifaces, maps, wideKeys, modest, calm, conditions, laid).
  DERIVED. THE GIVEN ROWS OF THIS SEAT. 16 by the template 'for every input the law returns true; each argument reads behind the call as it read before'; 0 by the template 'total and deterministic' (their statements: YtnilefmlbedfcaaTotals.lean).
  GIVEN WITH THE SEED: the statements are not yours to turn. If you find one false, say at which input.
  Laid BY PROGRAM, IN A SANDBOX (cutbox-rows.mjs): the forced cells as the released guide's own fill.sh prints them over the translation d391c422f761b608… (all of the seat's roots in one cut). By AI agents, Wed Nov 11 2026. No macro, syntax, notation, axiom, sorry.
-/
import Derived.Test.YtnilefmlbedfcaaChecked
import GoSem.Claim
import GoSem.ClaimJoined
import GoSem.ClaimMapViews
import Derived.JoinedTies
import Derived.KernelRfl
namespace Go.Proofs.Ytnilefmlbedfcaa
/- THE CELL 'sum', in the pinned program and in every row, IS THE sha256 OF THE DUMP (.gsa) THAT YtnilefmlbedfcaaProg.lean LOADS. Nothing in Lean hashes anything: it is a label: what it is worth is what the hold of that sum in a sandbox is worth. -/
noncomputable def Try.pinned : Pinned := { name := "ytnilefmlbedfcaa", sum := "d391c422f761b608bae0b63d3d4015e186450ca56c7bcd5eb6fc2c68e9ca0757", checked := Try.checked }
namespace Rows
def none {H : Type} : Left H := { results := [], args := [] }

/-- 'laws.FnExactTermOf': WHATEVER THE INPUT: true; the input reads as it did. -/
def fnExactTermOfSpec : ChangeSpec := { name := "fnExactTermOf", fn := fun _ => fun
  | [d] => { results := [.lit (.bool true)], args := [d] }
  | _ => none }
def fnExactTermOfRow : OpenClaim := { program := "ytnilefmlbedfcaa", sum := "d391c422f761b608bae0b63d3d4015e186450ca56c7bcd5eb6fc2c68e9ca0757", func := "loop.example/mirrorgrids/laws.FnExactTermOf", spec := "fnExactTermOf", recurses := true, plainKeys := false, apart := false }
def FnExactTermOfSaid : Prop := fnExactTermOfRow.holds Try.pinned (OpenSpec.ofChange fnExactTermOfSpec)

/-- ITS FALSE NEIGHBOUR: 'it returns false'. Refute it at one input. -/
def fnExactTermOfWrong : ChangeSpec := { name := "fnExactTermOf", fn := fun _ => fun
  | [d] => { results := [.lit (.bool false)], args := [d] }
  | _ => none }
def FnExactTermOfWrongFalsely : Prop := fnExactTermOfRow.holds Try.pinned (OpenSpec.ofChange fnExactTermOfWrong)

/-- 'laws.FnExactTermIn': WHATEVER THE INPUT: true; the input reads as it did. -/
def fnExactTermInSpec : ChangeSpec := { name := "fnExactTermIn", fn := fun _ => fun
  | [d] => { results := [.lit (.bool true)], args := [d] }
  | _ => none }
def fnExactTermInRow : OpenClaim := { program := "ytnilefmlbedfcaa", sum := "d391c422f761b608bae0b63d3d4015e186450ca56c7bcd5eb6fc2c68e9ca0757", func := "loop.example/mirrorgrids/laws.FnExactTermIn", spec := "fnExactTermIn", unfollowed := true, recurses := true, plainKeys := false, apart := false }
def FnExactTermInSaid : Prop := fnExactTermInRow.holds Try.pinned (OpenSpec.ofChange fnExactTermInSpec)

/-- ITS FALSE NEIGHBOUR: 'it returns false'. Refute it at one input. -/
def fnExactTermInWrong : ChangeSpec := { name := "fnExactTermIn", fn := fun _ => fun
  | [d] => { results := [.lit (.bool false)], args := [d] }
  | _ => none }
def FnExactTermInWrongFalsely : Prop := fnExactTermInRow.holds Try.pinned (OpenSpec.ofChange fnExactTermInWrong)

/-- 'laws.FnExactTermSize': WHATEVER THE INPUT: true; the input reads as it did. -/
def fnExactTermSizeSpec : ChangeSpec := { name := "fnExactTermSize", fn := fun _ => fun
  | [d] => { results := [.lit (.bool true)], args := [d] }
  | _ => none }
def fnExactTermSizeRow : OpenClaim := { program := "ytnilefmlbedfcaa", sum := "d391c422f761b608bae0b63d3d4015e186450ca56c7bcd5eb6fc2c68e9ca0757", func := "loop.example/mirrorgrids/laws.FnExactTermSize", spec := "fnExactTermSize", unfollowed := true, recurses := true, plainKeys := false, apart := false }
def FnExactTermSizeSaid : Prop := fnExactTermSizeRow.holds Try.pinned (OpenSpec.ofChange fnExactTermSizeSpec)

/-- ITS FALSE NEIGHBOUR: 'it returns false'. Refute it at one input. -/
def fnExactTermSizeWrong : ChangeSpec := { name := "fnExactTermSize", fn := fun _ => fun
  | [d] => { results := [.lit (.bool false)], args := [d] }
  | _ => none }
def FnExactTermSizeWrongFalsely : Prop := fnExactTermSizeRow.holds Try.pinned (OpenSpec.ofChange fnExactTermSizeWrong)

/-- 'laws.FnTerm': WHATEVER THE INPUT: true; the input reads as it did. -/
def fnTermSpec : ChangeSpec := { name := "fnTerm", fn := fun _ => fun
  | [d] => { results := [.lit (.bool true)], args := [d] }
  | _ => none }
def fnTermRow : OpenClaim := { program := "ytnilefmlbedfcaa", sum := "d391c422f761b608bae0b63d3d4015e186450ca56c7bcd5eb6fc2c68e9ca0757", func := "loop.example/mirrorgrids/laws.FnTerm", spec := "fnTerm", unfollowed := true, recurses := true, plainKeys := false, apart := false }
def FnTermSaid : Prop := fnTermRow.holds Try.pinned (OpenSpec.ofChange fnTermSpec)

/-- ITS FALSE NEIGHBOUR: 'it returns false'. Refute it at one input. -/
def fnTermWrong : ChangeSpec := { name := "fnTerm", fn := fun _ => fun
  | [d] => { results := [.lit (.bool false)], args := [d] }
  | _ => none }
def FnTermWrongFalsely : Prop := fnTermRow.holds Try.pinned (OpenSpec.ofChange fnTermWrong)

/-- 'laws.FnTermSize': WHATEVER THE INPUT: true; the input reads as it did. -/
def fnTermSizeSpec : ChangeSpec := { name := "fnTermSize", fn := fun _ => fun
  | [d] => { results := [.lit (.bool true)], args := [d] }
  | _ => none }
def fnTermSizeRow : OpenClaim := { program := "ytnilefmlbedfcaa", sum := "d391c422f761b608bae0b63d3d4015e186450ca56c7bcd5eb6fc2c68e9ca0757", func := "loop.example/mirrorgrids/laws.FnTermSize", spec := "fnTermSize", unfollowed := true, recurses := true, plainKeys := false, apart := false }
def FnTermSizeSaid : Prop := fnTermSizeRow.holds Try.pinned (OpenSpec.ofChange fnTermSizeSpec)

/-- ITS FALSE NEIGHBOUR: 'it returns false'. Refute it at one input. -/
def fnTermSizeWrong : ChangeSpec := { name := "fnTermSize", fn := fun _ => fun
  | [d] => { results := [.lit (.bool false)], args := [d] }
  | _ => none }
def FnTermSizeWrongFalsely : Prop := fnTermSizeRow.holds Try.pinned (OpenSpec.ofChange fnTermSizeWrong)

/-- 'laws.FnExactTermTidy': WHATEVER THE INPUT: true; the input reads as it did. -/
def fnExactTermTidySpec : ChangeSpec := { name := "fnExactTermTidy", fn := fun _ => fun
  | [d] => { results := [.lit (.bool true)], args := [d] }
  | _ => none }
def fnExactTermTidyRow : OpenClaim := { program := "ytnilefmlbedfcaa", sum := "d391c422f761b608bae0b63d3d4015e186450ca56c7bcd5eb6fc2c68e9ca0757", func := "loop.example/mirrorgrids/laws.FnExactTermTidy", spec := "fnExactTermTidy", unfollowed := true, recurses := true, plainKeys := false, apart := false }
def FnExactTermTidySaid : Prop := fnExactTermTidyRow.holds Try.pinned (OpenSpec.ofChange fnExactTermTidySpec)

/-- ITS FALSE NEIGHBOUR: 'it returns false'. Refute it at one input. -/
def fnExactTermTidyWrong : ChangeSpec := { name := "fnExactTermTidy", fn := fun _ => fun
  | [d] => { results := [.lit (.bool false)], args := [d] }
  | _ => none }
def FnExactTermTidyWrongFalsely : Prop := fnExactTermTidyRow.holds Try.pinned (OpenSpec.ofChange fnExactTermTidyWrong)

/-- 'laws.FnTermOf': WHATEVER THE INPUT: true; the input reads as it did. -/
def fnTermOfSpec : ChangeSpec := { name := "fnTermOf", fn := fun _ => fun
  | [d] => { results := [.lit (.bool true)], args := [d] }
  | _ => none }
def fnTermOfRow : OpenClaim := { program := "ytnilefmlbedfcaa", sum := "d391c422f761b608bae0b63d3d4015e186450ca56c7bcd5eb6fc2c68e9ca0757", func := "loop.example/mirrorgrids/laws.FnTermOf", spec := "fnTermOf", unfollowed := true, recurses := true, plainKeys := false, apart := false }
def FnTermOfSaid : Prop := fnTermOfRow.holds Try.pinned (OpenSpec.ofChange fnTermOfSpec)

/-- ITS FALSE NEIGHBOUR: 'it returns false'. Refute it at one input. -/
def fnTermOfWrong : ChangeSpec := { name := "fnTermOf", fn := fun _ => fun
  | [d] => { results := [.lit (.bool false)], args := [d] }
  | _ => none }
def FnTermOfWrongFalsely : Prop := fnTermOfRow.holds Try.pinned (OpenSpec.ofChange fnTermOfWrong)

/-- 'laws.FnExactTermSame': WHATEVER THE INPUT: true; the input reads as it did. -/
def fnExactTermSameSpec : ChangeSpec := { name := "fnExactTermSame", fn := fun _ => fun
  | [d1, d2] => { results := [.lit (.bool true)], args := [d1, d2] }
  | _ => none }
def fnExactTermSameRow : OpenClaim := { program := "ytnilefmlbedfcaa", sum := "d391c422f761b608bae0b63d3d4015e186450ca56c7bcd5eb6fc2c68e9ca0757", func := "loop.example/mirrorgrids/laws.FnExactTermSame", spec := "fnExactTermSame", unfollowed := true, recurses := true, plainKeys := false, apart := false }
def FnExactTermSameSaid : Prop := fnExactTermSameRow.holds Try.pinned (OpenSpec.ofChange fnExactTermSameSpec)

/-- ITS FALSE NEIGHBOUR: 'it returns false'. Refute it at one input. -/
def fnExactTermSameWrong : ChangeSpec := { name := "fnExactTermSame", fn := fun _ => fun
  | [d1, d2] => { results := [.lit (.bool false)], args := [d1, d2] }
  | _ => none }
def FnExactTermSameWrongFalsely : Prop := fnExactTermSameRow.holds Try.pinned (OpenSpec.ofChange fnExactTermSameWrong)

/-- 'laws.FnExactTermGrid': WHATEVER THE INPUT: true; the input reads as it did. -/
def fnExactTermGridSpec : ChangeSpec := { name := "fnExactTermGrid", fn := fun _ => fun
  | [d] => { results := [.lit (.bool true)], args := [d] }
  | _ => none }
def fnExactTermGridRow : OpenClaim := { program := "ytnilefmlbedfcaa", sum := "d391c422f761b608bae0b63d3d4015e186450ca56c7bcd5eb6fc2c68e9ca0757", func := "loop.example/mirrorgrids/laws.FnExactTermGrid", spec := "fnExactTermGrid", unfollowed := true, recurses := true, plainKeys := false, apart := false }
def FnExactTermGridSaid : Prop := fnExactTermGridRow.holds Try.pinned (OpenSpec.ofChange fnExactTermGridSpec)

/-- ITS FALSE NEIGHBOUR: 'it returns false'. Refute it at one input. -/
def fnExactTermGridWrong : ChangeSpec := { name := "fnExactTermGrid", fn := fun _ => fun
  | [d] => { results := [.lit (.bool false)], args := [d] }
  | _ => none }
def FnExactTermGridWrongFalsely : Prop := fnExactTermGridRow.holds Try.pinned (OpenSpec.ofChange fnExactTermGridWrong)

/-- 'laws.FnTidy': WHATEVER THE INPUT: true; the input reads as it did. -/
def fnTidySpec : ChangeSpec := { name := "fnTidy", fn := fun _ => fun
  | [d] => { results := [.lit (.bool true)], args := [d] }
  | _ => none }
def fnTidyRow : OpenClaim := { program := "ytnilefmlbedfcaa", sum := "d391c422f761b608bae0b63d3d4015e186450ca56c7bcd5eb6fc2c68e9ca0757", func := "loop.example/mirrorgrids/laws.FnTidy", spec := "fnTidy", unfollowed := true, recurses := true, plainKeys := false, apart := false }
def FnTidySaid : Prop := fnTidyRow.holds Try.pinned (OpenSpec.ofChange fnTidySpec)

/-- ITS FALSE NEIGHBOUR: 'it returns false'. Refute it at one input. -/
def fnTidyWrong : ChangeSpec := { name := "fnTidy", fn := fun _ => fun
  | [d] => { results := [.lit (.bool false)], args := [d] }
  | _ => none }
def FnTidyWrongFalsely : Prop := fnTidyRow.holds Try.pinned (OpenSpec.ofChange fnTidyWrong)

/-- 'laws.FnTermGrid': WHATEVER THE INPUT: true; the input reads as it did. -/
def fnTermGridSpec : ChangeSpec := { name := "fnTermGrid", fn := fun _ => fun
  | [d] => { results := [.lit (.bool true)], args := [d] }
  | _ => none }
def fnTermGridRow : OpenClaim := { program := "ytnilefmlbedfcaa", sum := "d391c422f761b608bae0b63d3d4015e186450ca56c7bcd5eb6fc2c68e9ca0757", func := "loop.example/mirrorgrids/laws.FnTermGrid", spec := "fnTermGrid", unfollowed := true, recurses := true, plainKeys := false, apart := false }
def FnTermGridSaid : Prop := fnTermGridRow.holds Try.pinned (OpenSpec.ofChange fnTermGridSpec)

/-- ITS FALSE NEIGHBOUR: 'it returns false'. Refute it at one input. -/
def fnTermGridWrong : ChangeSpec := { name := "fnTermGrid", fn := fun _ => fun
  | [d] => { results := [.lit (.bool false)], args := [d] }
  | _ => none }
def FnTermGridWrongFalsely : Prop := fnTermGridRow.holds Try.pinned (OpenSpec.ofChange fnTermGridWrong)

/-- 'laws.FnExactTermPairs': WHATEVER THE INPUT: true; the input reads as it did. -/
def fnExactTermPairsSpec : ChangeSpec := { name := "fnExactTermPairs", fn := fun _ => fun
  | [d] => { results := [.lit (.bool true)], args := [d] }
  | _ => none }
def fnExactTermPairsRow : OpenClaim := { program := "ytnilefmlbedfcaa", sum := "d391c422f761b608bae0b63d3d4015e186450ca56c7bcd5eb6fc2c68e9ca0757", func := "loop.example/mirrorgrids/laws.FnExactTermPairs", spec := "fnExactTermPairs", unfollowed := true, recurses := true, plainKeys := false, apart := false }
def FnExactTermPairsSaid : Prop := fnExactTermPairsRow.holds Try.pinned (OpenSpec.ofChange fnExactTermPairsSpec)

/-- ITS FALSE NEIGHBOUR: 'it returns false'. Refute it at one input. -/
def fnExactTermPairsWrong : ChangeSpec := { name := "fnExactTermPairs", fn := fun _ => fun
  | [d] => { results := [.lit (.bool false)], args := [d] }
  | _ => none }
def FnExactTermPairsWrongFalsely : Prop := fnExactTermPairsRow.holds Try.pinned (OpenSpec.ofChange fnExactTermPairsWrong)

/-- 'laws.FnExactTermRounds': WHATEVER THE INPUT: true; the input reads as it did. -/
def fnExactTermRoundsSpec : ChangeSpec := { name := "fnExactTermRounds", fn := fun _ => fun
  | [d] => { results := [.lit (.bool true)], args := [d] }
  | _ => none }
def fnExactTermRoundsRow : OpenClaim := { program := "ytnilefmlbedfcaa", sum := "d391c422f761b608bae0b63d3d4015e186450ca56c7bcd5eb6fc2c68e9ca0757", func := "loop.example/mirrorgrids/laws.FnExactTermRounds", spec := "fnExactTermRounds", unfollowed := true, recurses := true, plainKeys := false, apart := false }
def FnExactTermRoundsSaid : Prop := fnExactTermRoundsRow.holds Try.pinned (OpenSpec.ofChange fnExactTermRoundsSpec)

/-- ITS FALSE NEIGHBOUR: 'it returns false'. Refute it at one input. -/
def fnExactTermRoundsWrong : ChangeSpec := { name := "fnExactTermRounds", fn := fun _ => fun
  | [d] => { results := [.lit (.bool false)], args := [d] }
  | _ => none }
def FnExactTermRoundsWrongFalsely : Prop := fnExactTermRoundsRow.holds Try.pinned (OpenSpec.ofChange fnExactTermRoundsWrong)

/-- 'laws.FnTermPairs': WHATEVER THE INPUT: true; the input reads as it did. -/
def fnTermPairsSpec : ChangeSpec := { name := "fnTermPairs", fn := fun _ => fun
  | [d] => { results := [.lit (.bool true)], args := [d] }
  | _ => none }
def fnTermPairsRow : OpenClaim := { program := "ytnilefmlbedfcaa", sum := "d391c422f761b608bae0b63d3d4015e186450ca56c7bcd5eb6fc2c68e9ca0757", func := "loop.example/mirrorgrids/laws.FnTermPairs", spec := "fnTermPairs", unfollowed := true, recurses := true, plainKeys := false, apart := false }
def FnTermPairsSaid : Prop := fnTermPairsRow.holds Try.pinned (OpenSpec.ofChange fnTermPairsSpec)

/-- ITS FALSE NEIGHBOUR: 'it returns false'. Refute it at one input. -/
def fnTermPairsWrong : ChangeSpec := { name := "fnTermPairs", fn := fun _ => fun
  | [d] => { results := [.lit (.bool false)], args := [d] }
  | _ => none }
def FnTermPairsWrongFalsely : Prop := fnTermPairsRow.holds Try.pinned (OpenSpec.ofChange fnTermPairsWrong)

/-- 'laws.FnTermSame': WHATEVER THE INPUT: true; the input reads as it did. -/
def fnTermSameSpec : ChangeSpec := { name := "fnTermSame", fn := fun _ => fun
  | [d] => { results := [.lit (.bool true)], args := [d] }
  | _ => none }
def fnTermSameRow : OpenClaim := { program := "ytnilefmlbedfcaa", sum := "d391c422f761b608bae0b63d3d4015e186450ca56c7bcd5eb6fc2c68e9ca0757", func := "loop.example/mirrorgrids/laws.FnTermSame", spec := "fnTermSame", unfollowed := true, recurses := true, plainKeys := false, apart := false }
def FnTermSameSaid : Prop := fnTermSameRow.holds Try.pinned (OpenSpec.ofChange fnTermSameSpec)

/-- ITS FALSE NEIGHBOUR: 'it returns false'. Refute it at one input. -/
def fnTermSameWrong : ChangeSpec := { name := "fnTermSame", fn := fun _ => fun
  | [d] => { results := [.lit (.bool false)], args := [d] }
  | _ => none }
def FnTermSameWrongFalsely : Prop := fnTermSameRow.holds Try.pinned (OpenSpec.ofChange fnTermSameWrong)

/-- 'laws.FnTermRounds': WHATEVER THE INPUT: true; the input reads as it did. -/
def fnTermRoundsSpec : ChangeSpec := { name := "fnTermRounds", fn := fun _ => fun
  | [d] => { results := [.lit (.bool true)], args := [d] }
  | _ => none }
def fnTermRoundsRow : OpenClaim := { program := "ytnilefmlbedfcaa", sum := "d391c422f761b608bae0b63d3d4015e186450ca56c7bcd5eb6fc2c68e9ca0757", func := "loop.example/mirrorgrids/laws.FnTermRounds", spec := "fnTermRounds", unfollowed := true, recurses := true, plainKeys := false, apart := false }
def FnTermRoundsSaid : Prop := fnTermRoundsRow.holds Try.pinned (OpenSpec.ofChange fnTermRoundsSpec)

/-- ITS FALSE NEIGHBOUR: 'it returns false'. Refute it at one input. -/
def fnTermRoundsWrong : ChangeSpec := { name := "fnTermRounds", fn := fun _ => fun
  | [d] => { results := [.lit (.bool false)], args := [d] }
  | _ => none }
def FnTermRoundsWrongFalsely : Prop := fnTermRoundsRow.holds Try.pinned (OpenSpec.ofChange fnTermRoundsWrong)

/- THE SECOND FORM. 'bulk': how many values and letters a reading holds, each counted each time it is reached (what is shared counts as often as it is met; a slice's spare places count too). A statement '..UptoSaid' is the law's where the arguments, and the package variables that the reading takes, are together of bulk at most 1048576: NARROWER than '..Said'. Prove '..Said' where nothing that the law and all that it calls make is longer than what came in: it says more and counts as full. Else prove '..UptoSaid'. A law counts once. -/
mutual
def uptoBulk {H : Type} : DataW H → Nat
  | .lit (.string bytes) => bytes.length + 1
  | .lit _ => 1
  | .nil => 1
  | .ptr d => uptoBulk d + 1
  | .slice elems spare => uptoBulkAll elems + uptoBulkAll spare + 1
  | .agg parts => uptoBulkAll parts + 1
  | .iface _ d => uptoBulk d + 1
  | .map entries => uptoBulkEntries entries + 1
  | .held _ => 1
def uptoBulkAll {H : Type} : List (DataW H) → Nat
  | [] => 0
  | d :: r => uptoBulk d + uptoBulkAll r
def uptoBulkEntries {H : Type} : List (Lit × DataW H) → Nat
  | [] => 0
  | x :: r => uptoBulkEntry x + uptoBulkEntries r
def uptoBulkEntry {H : Type} : Lit × DataW H → Nat
  | (.string bytes, d) => bytes.length + uptoBulk d + 1
  | (_, d) => uptoBulk d + 1
 end
def uptoSmall : (H : Type) → List (DataW H) → Bool := fun _ ds => decide (uptoBulkAll ds ≤ 1048576)
def OpenSpec.upto (s : _root_.Go.ChangeSpec) : _root_.Go.OpenSpec := { _root_.Go.OpenSpec.ofChange s with cond := some uptoSmall }

/-- 'laws.FnExactTermOf', WHERE WHAT IT READS IS OF BULK AT MOST 1048576: true; the input reads as it did. -/
def fnExactTermOfUptoRow : OpenClaim := { program := "ytnilefmlbedfcaa", sum := "d391c422f761b608bae0b63d3d4015e186450ca56c7bcd5eb6fc2c68e9ca0757", func := "loop.example/mirrorgrids/laws.FnExactTermOf", spec := "fnExactTermOf", recurses := true, plainKeys := false, apart := false, narrowed := true }
def FnExactTermOfUptoSaid : Prop := fnExactTermOfUptoRow.holds Try.pinned (OpenSpec.upto fnExactTermOfSpec)

/-- 'laws.FnExactTermIn', WHERE WHAT IT READS IS OF BULK AT MOST 1048576: true; the input reads as it did. -/
def fnExactTermInUptoRow : OpenClaim := { program := "ytnilefmlbedfcaa", sum := "d391c422f761b608bae0b63d3d4015e186450ca56c7bcd5eb6fc2c68e9ca0757", func := "loop.example/mirrorgrids/laws.FnExactTermIn", spec := "fnExactTermIn", unfollowed := true, recurses := true, plainKeys := false, apart := false, narrowed := true }
def FnExactTermInUptoSaid : Prop := fnExactTermInUptoRow.holds Try.pinned (OpenSpec.upto fnExactTermInSpec)

/-- 'laws.FnExactTermSize', WHERE WHAT IT READS IS OF BULK AT MOST 1048576: true; the input reads as it did. -/
def fnExactTermSizeUptoRow : OpenClaim := { program := "ytnilefmlbedfcaa", sum := "d391c422f761b608bae0b63d3d4015e186450ca56c7bcd5eb6fc2c68e9ca0757", func := "loop.example/mirrorgrids/laws.FnExactTermSize", spec := "fnExactTermSize", unfollowed := true, recurses := true, plainKeys := false, apart := false, narrowed := true }
def FnExactTermSizeUptoSaid : Prop := fnExactTermSizeUptoRow.holds Try.pinned (OpenSpec.upto fnExactTermSizeSpec)

/-- 'laws.FnTerm', WHERE WHAT IT READS IS OF BULK AT MOST 1048576: true; the input reads as it did. -/
def fnTermUptoRow : OpenClaim := { program := "ytnilefmlbedfcaa", sum := "d391c422f761b608bae0b63d3d4015e186450ca56c7bcd5eb6fc2c68e9ca0757", func := "loop.example/mirrorgrids/laws.FnTerm", spec := "fnTerm", unfollowed := true, recurses := true, plainKeys := false, apart := false, narrowed := true }
def FnTermUptoSaid : Prop := fnTermUptoRow.holds Try.pinned (OpenSpec.upto fnTermSpec)

/-- 'laws.FnTermSize', WHERE WHAT IT READS IS OF BULK AT MOST 1048576: true; the input reads as it did. -/
def fnTermSizeUptoRow : OpenClaim := { program := "ytnilefmlbedfcaa", sum := "d391c422f761b608bae0b63d3d4015e186450ca56c7bcd5eb6fc2c68e9ca0757", func := "loop.example/mirrorgrids/laws.FnTermSize", spec := "fnTermSize", unfollowed := true, recurses := true, plainKeys := false, apart := false, narrowed := true }
def FnTermSizeUptoSaid : Prop := fnTermSizeUptoRow.holds Try.pinned (OpenSpec.upto fnTermSizeSpec)

/-- 'laws.FnExactTermTidy', WHERE WHAT IT READS IS OF BULK AT MOST 1048576: true; the input reads as it did. -/
def fnExactTermTidyUptoRow : OpenClaim := { program := "ytnilefmlbedfcaa", sum := "d391c422f761b608bae0b63d3d4015e186450ca56c7bcd5eb6fc2c68e9ca0757", func := "loop.example/mirrorgrids/laws.FnExactTermTidy", spec := "fnExactTermTidy", unfollowed := true, recurses := true, plainKeys := false, apart := false, narrowed := true }
def FnExactTermTidyUptoSaid : Prop := fnExactTermTidyUptoRow.holds Try.pinned (OpenSpec.upto fnExactTermTidySpec)

/-- 'laws.FnTermOf', WHERE WHAT IT READS IS OF BULK AT MOST 1048576: true; the input reads as it did. -/
def fnTermOfUptoRow : OpenClaim := { program := "ytnilefmlbedfcaa", sum := "d391c422f761b608bae0b63d3d4015e186450ca56c7bcd5eb6fc2c68e9ca0757", func := "loop.example/mirrorgrids/laws.FnTermOf", spec := "fnTermOf", unfollowed := true, recurses := true, plainKeys := false, apart := false, narrowed := true }
def FnTermOfUptoSaid : Prop := fnTermOfUptoRow.holds Try.pinned (OpenSpec.upto fnTermOfSpec)

/-- 'laws.FnExactTermSame', WHERE WHAT IT READS IS OF BULK AT MOST 1048576: true; the input reads as it did. -/
def fnExactTermSameUptoRow : OpenClaim := { program := "ytnilefmlbedfcaa", sum := "d391c422f761b608bae0b63d3d4015e186450ca56c7bcd5eb6fc2c68e9ca0757", func := "loop.example/mirrorgrids/laws.FnExactTermSame", spec := "fnExactTermSame", unfollowed := true, recurses := true, plainKeys := false, apart := false, narrowed := true }
def FnExactTermSameUptoSaid : Prop := fnExactTermSameUptoRow.holds Try.pinned (OpenSpec.upto fnExactTermSameSpec)

/-- 'laws.FnExactTermGrid', WHERE WHAT IT READS IS OF BULK AT MOST 1048576: true; the input reads as it did. -/
def fnExactTermGridUptoRow : OpenClaim := { program := "ytnilefmlbedfcaa", sum := "d391c422f761b608bae0b63d3d4015e186450ca56c7bcd5eb6fc2c68e9ca0757", func := "loop.example/mirrorgrids/laws.FnExactTermGrid", spec := "fnExactTermGrid", unfollowed := true, recurses := true, plainKeys := false, apart := false, narrowed := true }
def FnExactTermGridUptoSaid : Prop := fnExactTermGridUptoRow.holds Try.pinned (OpenSpec.upto fnExactTermGridSpec)

/-- 'laws.FnTidy', WHERE WHAT IT READS IS OF BULK AT MOST 1048576: true; the input reads as it did. -/
def fnTidyUptoRow : OpenClaim := { program := "ytnilefmlbedfcaa", sum := "d391c422f761b608bae0b63d3d4015e186450ca56c7bcd5eb6fc2c68e9ca0757", func := "loop.example/mirrorgrids/laws.FnTidy", spec := "fnTidy", unfollowed := true, recurses := true, plainKeys := false, apart := false, narrowed := true }
def FnTidyUptoSaid : Prop := fnTidyUptoRow.holds Try.pinned (OpenSpec.upto fnTidySpec)

/-- 'laws.FnTermGrid', WHERE WHAT IT READS IS OF BULK AT MOST 1048576: true; the input reads as it did. -/
def fnTermGridUptoRow : OpenClaim := { program := "ytnilefmlbedfcaa", sum := "d391c422f761b608bae0b63d3d4015e186450ca56c7bcd5eb6fc2c68e9ca0757", func := "loop.example/mirrorgrids/laws.FnTermGrid", spec := "fnTermGrid", unfollowed := true, recurses := true, plainKeys := false, apart := false, narrowed := true }
def FnTermGridUptoSaid : Prop := fnTermGridUptoRow.holds Try.pinned (OpenSpec.upto fnTermGridSpec)

/-- 'laws.FnExactTermPairs', WHERE WHAT IT READS IS OF BULK AT MOST 1048576: true; the input reads as it did. -/
def fnExactTermPairsUptoRow : OpenClaim := { program := "ytnilefmlbedfcaa", sum := "d391c422f761b608bae0b63d3d4015e186450ca56c7bcd5eb6fc2c68e9ca0757", func := "loop.example/mirrorgrids/laws.FnExactTermPairs", spec := "fnExactTermPairs", unfollowed := true, recurses := true, plainKeys := false, apart := false, narrowed := true }
def FnExactTermPairsUptoSaid : Prop := fnExactTermPairsUptoRow.holds Try.pinned (OpenSpec.upto fnExactTermPairsSpec)

/-- 'laws.FnExactTermRounds', WHERE WHAT IT READS IS OF BULK AT MOST 1048576: true; the input reads as it did. -/
def fnExactTermRoundsUptoRow : OpenClaim := { program := "ytnilefmlbedfcaa", sum := "d391c422f761b608bae0b63d3d4015e186450ca56c7bcd5eb6fc2c68e9ca0757", func := "loop.example/mirrorgrids/laws.FnExactTermRounds", spec := "fnExactTermRounds", unfollowed := true, recurses := true, plainKeys := false, apart := false, narrowed := true }
def FnExactTermRoundsUptoSaid : Prop := fnExactTermRoundsUptoRow.holds Try.pinned (OpenSpec.upto fnExactTermRoundsSpec)

/-- 'laws.FnTermPairs', WHERE WHAT IT READS IS OF BULK AT MOST 1048576: true; the input reads as it did. -/
def fnTermPairsUptoRow : OpenClaim := { program := "ytnilefmlbedfcaa", sum := "d391c422f761b608bae0b63d3d4015e186450ca56c7bcd5eb6fc2c68e9ca0757", func := "loop.example/mirrorgrids/laws.FnTermPairs", spec := "fnTermPairs", unfollowed := true, recurses := true, plainKeys := false, apart := false, narrowed := true }
def FnTermPairsUptoSaid : Prop := fnTermPairsUptoRow.holds Try.pinned (OpenSpec.upto fnTermPairsSpec)

/-- 'laws.FnTermSame', WHERE WHAT IT READS IS OF BULK AT MOST 1048576: true; the input reads as it did. -/
def fnTermSameUptoRow : OpenClaim := { program := "ytnilefmlbedfcaa", sum := "d391c422f761b608bae0b63d3d4015e186450ca56c7bcd5eb6fc2c68e9ca0757", func := "loop.example/mirrorgrids/laws.FnTermSame", spec := "fnTermSame", unfollowed := true, recurses := true, plainKeys := false, apart := false, narrowed := true }
def FnTermSameUptoSaid : Prop := fnTermSameUptoRow.holds Try.pinned (OpenSpec.upto fnTermSameSpec)

/-- 'laws.FnTermRounds', WHERE WHAT IT READS IS OF BULK AT MOST 1048576: true; the input reads as it did. -/
def fnTermRoundsUptoRow : OpenClaim := { program := "ytnilefmlbedfcaa", sum := "d391c422f761b608bae0b63d3d4015e186450ca56c7bcd5eb6fc2c68e9ca0757", func := "loop.example/mirrorgrids/laws.FnTermRounds", spec := "fnTermRounds", unfollowed := true, recurses := true, plainKeys := false, apart := false, narrowed := true }
def FnTermRoundsUptoSaid : Prop := fnTermRoundsUptoRow.holds Try.pinned (OpenSpec.upto fnTermRoundsSpec)

end Rows
end Go.Proofs.Ytnilefmlbedfcaa
