/-
  NARROWER THAN 'FOR EVERY INPUT', by the rows' own cells (each row's printed sentence says how): FnProofEither: laid · FnNoneIs: laid · FnProofRound: laid · FnExactProofRoundIs: laid · FnExactProofRound: laid · FnExactProofNone: laid · FnExactProofNoneIs: laid · FnRoundIs: laid · FnProofNone: laid.
  DERIVED. THE GIVEN ROWS OF THIS SEAT. 9 by the template 'for every input the law returns true; each argument reads behind the call as it read before'; 0 by the template 'total and deterministic' (their statements: YtmhmdlgcdeodmaaDoorTotals.lean).
  GIVEN WITH THE SEED: the statements are not yours to turn. If you find one false, say at which input.
  Laid BY PROGRAM, IN A SANDBOX (cutbox-rows.mjs): the forced cells as the released guide's own fill.sh prints them over the translation 5d60eb072411bb8a… (all of the seat's roots in one cut). By AI agents, Wed Nov 11 2026. No macro, syntax, notation, axiom, sorry.
-/
import Derived.Test.YtmhmdlgcdeodmaaDoorChecked
import GoSem.Claim
import GoSem.ClaimJoined
import GoSem.ClaimMapViews
import Derived.JoinedTies
import Derived.KernelRfl
namespace Go.Proofs.YtmhmdlgcdeodmaaDoor
/- THE CELL 'sum', in the pinned program and in every row, IS THE sha256 OF THE DUMP (.gsa) THAT YtmhmdlgcdeodmaaDoorProg.lean LOADS. Nothing in Lean hashes anything: it is a label: what it is worth is what the hold of that sum in a sandbox is worth. -/
noncomputable def Tryd.pinned : Pinned := { name := "ytmhmdlgcdeodmaadoor", sum := "5d60eb072411bb8a1d376c57338d627b47848b3e7a850d439fab65278ba59909", checked := Tryd.checked }
namespace Rows
def none {H : Type} : Left H := { results := [], args := [] }

/- WHAT THE LISTED PACKAGE-LEVEL VARIABLES READ AS WHEN THE CALL BEGINS. Each datum BY PROGRAM (the guide's laid-datum.mjs) off the statement by which the dump's own 'gosem.cut.vars' lays the variable. In a bare row this is a premise. The card (YtmhmdlgcdeodmaaDoorCards.lean) ties it to the program's text. -/
def laid_math_bits_deBruijn32tab {H : Type} : DataW H := .agg [.lit (.int .u8 0), .lit (.int .u8 1), .lit (.int .u8 28), .lit (.int .u8 2), .lit (.int .u8 29), .lit (.int .u8 14), .lit (.int .u8 24), .lit (.int .u8 3), .lit (.int .u8 30), .lit (.int .u8 22), .lit (.int .u8 20), .lit (.int .u8 15), .lit (.int .u8 25), .lit (.int .u8 17), .lit (.int .u8 4), .lit (.int .u8 8), .lit (.int .u8 31), .lit (.int .u8 27), .lit (.int .u8 13), .lit (.int .u8 23), .lit (.int .u8 21), .lit (.int .u8 19), .lit (.int .u8 16), .lit (.int .u8 7), .lit (.int .u8 26), .lit (.int .u8 12), .lit (.int .u8 18), .lit (.int .u8 6), .lit (.int .u8 11), .lit (.int .u8 5), .lit (.int .u8 10), .lit (.int .u8 9)]
def laid_math_bits_deBruijn64tab {H : Type} : DataW H := .agg [.lit (.int .u8 0), .lit (.int .u8 1), .lit (.int .u8 56), .lit (.int .u8 2), .lit (.int .u8 57), .lit (.int .u8 49), .lit (.int .u8 28), .lit (.int .u8 3), .lit (.int .u8 61), .lit (.int .u8 58), .lit (.int .u8 42), .lit (.int .u8 50), .lit (.int .u8 38), .lit (.int .u8 29), .lit (.int .u8 17), .lit (.int .u8 4), .lit (.int .u8 62), .lit (.int .u8 47), .lit (.int .u8 59), .lit (.int .u8 36), .lit (.int .u8 45), .lit (.int .u8 43), .lit (.int .u8 51), .lit (.int .u8 22), .lit (.int .u8 53), .lit (.int .u8 39), .lit (.int .u8 33), .lit (.int .u8 30), .lit (.int .u8 24), .lit (.int .u8 18), .lit (.int .u8 12), .lit (.int .u8 5), .lit (.int .u8 63), .lit (.int .u8 55), .lit (.int .u8 48), .lit (.int .u8 27), .lit (.int .u8 60), .lit (.int .u8 41), .lit (.int .u8 37), .lit (.int .u8 16), .lit (.int .u8 46), .lit (.int .u8 35), .lit (.int .u8 44), .lit (.int .u8 21), .lit (.int .u8 52), .lit (.int .u8 32), .lit (.int .u8 23), .lit (.int .u8 11), .lit (.int .u8 54), .lit (.int .u8 26), .lit (.int .u8 40), .lit (.int .u8 15), .lit (.int .u8 34), .lit (.int .u8 20), .lit (.int .u8 31), .lit (.int .u8 10), .lit (.int .u8 25), .lit (.int .u8 14), .lit (.int .u8 19), .lit (.int .u8 9), .lit (.int .u8 13), .lit (.int .u8 8), .lit (.int .u8 7), .lit (.int .u8 6)]
def laid_internal_strconv_uint64pow10 {H : Type} : DataW H := .agg [.lit (.int .u64 1), .lit (.int .u64 10), .lit (.int .u64 100), .lit (.int .u64 1000), .lit (.int .u64 10000), .lit (.int .u64 100000), .lit (.int .u64 1000000), .lit (.int .u64 10000000), .lit (.int .u64 100000000), .lit (.int .u64 1000000000), .lit (.int .u64 10000000000), .lit (.int .u64 100000000000), .lit (.int .u64 1000000000000), .lit (.int .u64 10000000000000), .lit (.int .u64 100000000000000), .lit (.int .u64 1000000000000000), .lit (.int .u64 10000000000000000), .lit (.int .u64 100000000000000000), .lit (.int .u64 1000000000000000000), .lit (.int .u64 10000000000000000000)]

/-- 'laws.FnProofEither': WHATEVER THE INPUT: true; the input reads as it did. -/
def fnProofEitherSpec : ChangeSpec := { name := "fnProofEither", fn := fun _ => fun
  | [d] => { results := [.lit (.bool true)], args := [d] }
  | _ => none }
def fnProofEitherRow : OpenClaim := { program := "ytmhmdlgcdeodmaadoor", sum := "5d60eb072411bb8a1d376c57338d627b47848b3e7a850d439fab65278ba59909", func := "loop.example/mirrorgrids/laws.FnProofEither", spec := "fnProofEither", inPlace := ["internal/abi.NoEscape", "internal/bytealg.MakeNoZero"], named := ["internal/strconv.uint64pow10", "math/bits.deBruijn32tab", "math/bits.deBruijn64tab"], plainKeys := false, apart := false, laid := [("math/bits.deBruijn32tab", laid_math_bits_deBruijn32tab), ("math/bits.deBruijn64tab", laid_math_bits_deBruijn64tab), ("internal/strconv.uint64pow10", laid_internal_strconv_uint64pow10)] }
def FnProofEitherSaid : Prop := fnProofEitherRow.holds Tryd.pinned (OpenSpec.ofChange fnProofEitherSpec)

/-- ITS FALSE NEIGHBOUR: 'it returns false'. Refute it at one input. -/
def fnProofEitherWrong : ChangeSpec := { name := "fnProofEither", fn := fun _ => fun
  | [d] => { results := [.lit (.bool false)], args := [d] }
  | _ => none }
def FnProofEitherWrongFalsely : Prop := fnProofEitherRow.holds Tryd.pinned (OpenSpec.ofChange fnProofEitherWrong)

/-- 'laws.FnNoneIs': WHATEVER THE INPUT: true; the input reads as it did. -/
def fnNoneIsSpec : ChangeSpec := { name := "fnNoneIs", fn := fun _ => fun
  | [d] => { results := [.lit (.bool true)], args := [d] }
  | _ => none }
def fnNoneIsRow : OpenClaim := { program := "ytmhmdlgcdeodmaadoor", sum := "5d60eb072411bb8a1d376c57338d627b47848b3e7a850d439fab65278ba59909", func := "loop.example/mirrorgrids/laws.FnNoneIs", spec := "fnNoneIs", inPlace := ["internal/abi.NoEscape", "internal/bytealg.MakeNoZero"], recurses := true, named := ["internal/strconv.uint64pow10", "math/bits.deBruijn32tab", "math/bits.deBruijn64tab"], plainKeys := false, apart := false, laid := [("math/bits.deBruijn32tab", laid_math_bits_deBruijn32tab), ("math/bits.deBruijn64tab", laid_math_bits_deBruijn64tab), ("internal/strconv.uint64pow10", laid_internal_strconv_uint64pow10)] }
def FnNoneIsSaid : Prop := fnNoneIsRow.holds Tryd.pinned (OpenSpec.ofChange fnNoneIsSpec)

/-- ITS FALSE NEIGHBOUR: 'it returns false'. Refute it at one input. -/
def fnNoneIsWrong : ChangeSpec := { name := "fnNoneIs", fn := fun _ => fun
  | [d] => { results := [.lit (.bool false)], args := [d] }
  | _ => none }
def FnNoneIsWrongFalsely : Prop := fnNoneIsRow.holds Tryd.pinned (OpenSpec.ofChange fnNoneIsWrong)

/-- 'laws.FnProofRound': WHATEVER THE INPUT: true; the input reads as it did. -/
def fnProofRoundSpec : ChangeSpec := { name := "fnProofRound", fn := fun _ => fun
  | [d] => { results := [.lit (.bool true)], args := [d] }
  | _ => none }
def fnProofRoundRow : OpenClaim := { program := "ytmhmdlgcdeodmaadoor", sum := "5d60eb072411bb8a1d376c57338d627b47848b3e7a850d439fab65278ba59909", func := "loop.example/mirrorgrids/laws.FnProofRound", spec := "fnProofRound", recurses := true, named := ["internal/strconv.uint64pow10", "math/bits.deBruijn32tab", "math/bits.deBruijn64tab"], plainKeys := false, apart := false, laid := [("math/bits.deBruijn32tab", laid_math_bits_deBruijn32tab), ("math/bits.deBruijn64tab", laid_math_bits_deBruijn64tab), ("internal/strconv.uint64pow10", laid_internal_strconv_uint64pow10)] }
def FnProofRoundSaid : Prop := fnProofRoundRow.holds Tryd.pinned (OpenSpec.ofChange fnProofRoundSpec)

/-- ITS FALSE NEIGHBOUR: 'it returns false'. Refute it at one input. -/
def fnProofRoundWrong : ChangeSpec := { name := "fnProofRound", fn := fun _ => fun
  | [d] => { results := [.lit (.bool false)], args := [d] }
  | _ => none }
def FnProofRoundWrongFalsely : Prop := fnProofRoundRow.holds Tryd.pinned (OpenSpec.ofChange fnProofRoundWrong)

/-- 'laws.FnExactProofRoundIs': WHATEVER THE INPUT: true; the input reads as it did. -/
def fnExactProofRoundIsSpec : ChangeSpec := { name := "fnExactProofRoundIs", fn := fun _ => fun
  | [d1, d2] => { results := [.lit (.bool true)], args := [d1, d2] }
  | _ => none }
def fnExactProofRoundIsRow : OpenClaim := { program := "ytmhmdlgcdeodmaadoor", sum := "5d60eb072411bb8a1d376c57338d627b47848b3e7a850d439fab65278ba59909", func := "loop.example/mirrorgrids/laws.FnExactProofRoundIs", spec := "fnExactProofRoundIs", named := ["internal/strconv.uint64pow10", "math/bits.deBruijn32tab", "math/bits.deBruijn64tab"], plainKeys := false, apart := false, laid := [("math/bits.deBruijn32tab", laid_math_bits_deBruijn32tab), ("math/bits.deBruijn64tab", laid_math_bits_deBruijn64tab), ("internal/strconv.uint64pow10", laid_internal_strconv_uint64pow10)] }
def FnExactProofRoundIsSaid : Prop := fnExactProofRoundIsRow.holds Tryd.pinned (OpenSpec.ofChange fnExactProofRoundIsSpec)

/-- ITS FALSE NEIGHBOUR: 'it returns false'. Refute it at one input. -/
def fnExactProofRoundIsWrong : ChangeSpec := { name := "fnExactProofRoundIs", fn := fun _ => fun
  | [d1, d2] => { results := [.lit (.bool false)], args := [d1, d2] }
  | _ => none }
def FnExactProofRoundIsWrongFalsely : Prop := fnExactProofRoundIsRow.holds Tryd.pinned (OpenSpec.ofChange fnExactProofRoundIsWrong)

/-- 'laws.FnExactProofRound': WHATEVER THE INPUT: true; the input reads as it did. -/
def fnExactProofRoundSpec : ChangeSpec := { name := "fnExactProofRound", fn := fun _ => fun
  | [d] => { results := [.lit (.bool true)], args := [d] }
  | _ => none }
def fnExactProofRoundRow : OpenClaim := { program := "ytmhmdlgcdeodmaadoor", sum := "5d60eb072411bb8a1d376c57338d627b47848b3e7a850d439fab65278ba59909", func := "loop.example/mirrorgrids/laws.FnExactProofRound", spec := "fnExactProofRound", recurses := true, named := ["internal/strconv.uint64pow10", "math/bits.deBruijn32tab", "math/bits.deBruijn64tab"], plainKeys := false, apart := false, laid := [("math/bits.deBruijn32tab", laid_math_bits_deBruijn32tab), ("math/bits.deBruijn64tab", laid_math_bits_deBruijn64tab), ("internal/strconv.uint64pow10", laid_internal_strconv_uint64pow10)] }
def FnExactProofRoundSaid : Prop := fnExactProofRoundRow.holds Tryd.pinned (OpenSpec.ofChange fnExactProofRoundSpec)

/-- ITS FALSE NEIGHBOUR: 'it returns false'. Refute it at one input. -/
def fnExactProofRoundWrong : ChangeSpec := { name := "fnExactProofRound", fn := fun _ => fun
  | [d] => { results := [.lit (.bool false)], args := [d] }
  | _ => none }
def FnExactProofRoundWrongFalsely : Prop := fnExactProofRoundRow.holds Tryd.pinned (OpenSpec.ofChange fnExactProofRoundWrong)

/-- 'laws.FnExactProofNone': WHATEVER THE INPUT: true; the input reads as it did. -/
def fnExactProofNoneSpec : ChangeSpec := { name := "fnExactProofNone", fn := fun _ => fun
  | [d] => { results := [.lit (.bool true)], args := [d] }
  | _ => none }
def fnExactProofNoneRow : OpenClaim := { program := "ytmhmdlgcdeodmaadoor", sum := "5d60eb072411bb8a1d376c57338d627b47848b3e7a850d439fab65278ba59909", func := "loop.example/mirrorgrids/laws.FnExactProofNone", spec := "fnExactProofNone", inPlace := ["internal/abi.NoEscape", "internal/bytealg.MakeNoZero"], recurses := true, named := ["internal/strconv.uint64pow10", "math/bits.deBruijn32tab", "math/bits.deBruijn64tab"], plainKeys := false, apart := false, laid := [("math/bits.deBruijn32tab", laid_math_bits_deBruijn32tab), ("math/bits.deBruijn64tab", laid_math_bits_deBruijn64tab), ("internal/strconv.uint64pow10", laid_internal_strconv_uint64pow10)] }
def FnExactProofNoneSaid : Prop := fnExactProofNoneRow.holds Tryd.pinned (OpenSpec.ofChange fnExactProofNoneSpec)

/-- ITS FALSE NEIGHBOUR: 'it returns false'. Refute it at one input. -/
def fnExactProofNoneWrong : ChangeSpec := { name := "fnExactProofNone", fn := fun _ => fun
  | [d] => { results := [.lit (.bool false)], args := [d] }
  | _ => none }
def FnExactProofNoneWrongFalsely : Prop := fnExactProofNoneRow.holds Tryd.pinned (OpenSpec.ofChange fnExactProofNoneWrong)

/-- 'laws.FnExactProofNoneIs': WHATEVER THE INPUT: true; the input reads as it did. -/
def fnExactProofNoneIsSpec : ChangeSpec := { name := "fnExactProofNoneIs", fn := fun _ => fun
  | [d1, d2] => { results := [.lit (.bool true)], args := [d1, d2] }
  | _ => none }
def fnExactProofNoneIsRow : OpenClaim := { program := "ytmhmdlgcdeodmaadoor", sum := "5d60eb072411bb8a1d376c57338d627b47848b3e7a850d439fab65278ba59909", func := "loop.example/mirrorgrids/laws.FnExactProofNoneIs", spec := "fnExactProofNoneIs", inPlace := ["internal/abi.NoEscape", "internal/bytealg.MakeNoZero"], recurses := true, named := ["internal/strconv.uint64pow10", "math/bits.deBruijn32tab", "math/bits.deBruijn64tab"], plainKeys := false, apart := false, laid := [("math/bits.deBruijn32tab", laid_math_bits_deBruijn32tab), ("math/bits.deBruijn64tab", laid_math_bits_deBruijn64tab), ("internal/strconv.uint64pow10", laid_internal_strconv_uint64pow10)] }
def FnExactProofNoneIsSaid : Prop := fnExactProofNoneIsRow.holds Tryd.pinned (OpenSpec.ofChange fnExactProofNoneIsSpec)

/-- ITS FALSE NEIGHBOUR: 'it returns false'. Refute it at one input. -/
def fnExactProofNoneIsWrong : ChangeSpec := { name := "fnExactProofNoneIs", fn := fun _ => fun
  | [d1, d2] => { results := [.lit (.bool false)], args := [d1, d2] }
  | _ => none }
def FnExactProofNoneIsWrongFalsely : Prop := fnExactProofNoneIsRow.holds Tryd.pinned (OpenSpec.ofChange fnExactProofNoneIsWrong)

/-- 'laws.FnRoundIs': WHATEVER THE INPUT: true; the input reads as it did. -/
def fnRoundIsSpec : ChangeSpec := { name := "fnRoundIs", fn := fun _ => fun
  | [d] => { results := [.lit (.bool true)], args := [d] }
  | _ => none }
def fnRoundIsRow : OpenClaim := { program := "ytmhmdlgcdeodmaadoor", sum := "5d60eb072411bb8a1d376c57338d627b47848b3e7a850d439fab65278ba59909", func := "loop.example/mirrorgrids/laws.FnRoundIs", spec := "fnRoundIs", recurses := true, named := ["internal/strconv.uint64pow10", "math/bits.deBruijn32tab", "math/bits.deBruijn64tab"], plainKeys := false, apart := false, laid := [("math/bits.deBruijn32tab", laid_math_bits_deBruijn32tab), ("math/bits.deBruijn64tab", laid_math_bits_deBruijn64tab), ("internal/strconv.uint64pow10", laid_internal_strconv_uint64pow10)] }
def FnRoundIsSaid : Prop := fnRoundIsRow.holds Tryd.pinned (OpenSpec.ofChange fnRoundIsSpec)

/-- ITS FALSE NEIGHBOUR: 'it returns false'. Refute it at one input. -/
def fnRoundIsWrong : ChangeSpec := { name := "fnRoundIs", fn := fun _ => fun
  | [d] => { results := [.lit (.bool false)], args := [d] }
  | _ => none }
def FnRoundIsWrongFalsely : Prop := fnRoundIsRow.holds Tryd.pinned (OpenSpec.ofChange fnRoundIsWrong)

/-- 'laws.FnProofNone': WHATEVER THE INPUT: true; the input reads as it did. -/
def fnProofNoneSpec : ChangeSpec := { name := "fnProofNone", fn := fun _ => fun
  | [d] => { results := [.lit (.bool true)], args := [d] }
  | _ => none }
def fnProofNoneRow : OpenClaim := { program := "ytmhmdlgcdeodmaadoor", sum := "5d60eb072411bb8a1d376c57338d627b47848b3e7a850d439fab65278ba59909", func := "loop.example/mirrorgrids/laws.FnProofNone", spec := "fnProofNone", inPlace := ["internal/abi.NoEscape", "internal/bytealg.MakeNoZero"], recurses := true, named := ["internal/strconv.uint64pow10", "math/bits.deBruijn32tab", "math/bits.deBruijn64tab"], plainKeys := false, apart := false, laid := [("math/bits.deBruijn32tab", laid_math_bits_deBruijn32tab), ("math/bits.deBruijn64tab", laid_math_bits_deBruijn64tab), ("internal/strconv.uint64pow10", laid_internal_strconv_uint64pow10)] }
def FnProofNoneSaid : Prop := fnProofNoneRow.holds Tryd.pinned (OpenSpec.ofChange fnProofNoneSpec)

/-- ITS FALSE NEIGHBOUR: 'it returns false'. Refute it at one input. -/
def fnProofNoneWrong : ChangeSpec := { name := "fnProofNone", fn := fun _ => fun
  | [d] => { results := [.lit (.bool false)], args := [d] }
  | _ => none }
def FnProofNoneWrongFalsely : Prop := fnProofNoneRow.holds Tryd.pinned (OpenSpec.ofChange fnProofNoneWrong)

/- THE SECOND FORM. 'bulk': how many values and letters a reading holds, each counted each time it is reached (what is shared counts as often as it is met; a slice's spare places count too). A statement '..UptoSaid' is the law's where the arguments, and the package variables that the reading takes, are together of bulk at most 1048576: NARROWER than '..Said'. Prove '..Said' where nothing that the law and all that it calls make is longer than what came in: it says more and counts as full. Else prove '..UptoSaid'. A law counts once. -/
mutual
def uptoBulk {H : Type} : DataW H → Nat
  | .lit (.string bytes) => bytes.length + 1
  | .lit _ => 1
  | .nil => 1
  | .ptr d => uptoBulk d + 1
  | .slice elems spare => uptoBulkAll elems + uptoBulkAll spare + 1
  | .agg parts => uptoBulkAll parts + 1
  | .iface _ d => uptoBulk d + 1
  | .map entries => uptoBulkEntries entries + 1
  | .held _ => 1
def uptoBulkAll {H : Type} : List (DataW H) → Nat
  | [] => 0
  | d :: r => uptoBulk d + uptoBulkAll r
def uptoBulkEntries {H : Type} : List (Lit × DataW H) → Nat
  | [] => 0
  | x :: r => uptoBulkEntry x + uptoBulkEntries r
def uptoBulkEntry {H : Type} : Lit × DataW H → Nat
  | (.string bytes, d) => bytes.length + uptoBulk d + 1
  | (_, d) => uptoBulk d + 1
 end
def uptoSmall : (H : Type) → List (DataW H) → Bool := fun _ ds => decide (uptoBulkAll ds ≤ 1048576)
def OpenSpec.upto (s : _root_.Go.ChangeSpec) : _root_.Go.OpenSpec := { _root_.Go.OpenSpec.ofChange s with cond := some uptoSmall }

/-- 'laws.FnProofEither', WHERE WHAT IT READS IS OF BULK AT MOST 1048576: true; the input reads as it did. -/
def fnProofEitherUptoRow : OpenClaim := { program := "ytmhmdlgcdeodmaadoor", sum := "5d60eb072411bb8a1d376c57338d627b47848b3e7a850d439fab65278ba59909", func := "loop.example/mirrorgrids/laws.FnProofEither", spec := "fnProofEither", inPlace := ["internal/abi.NoEscape", "internal/bytealg.MakeNoZero"], named := ["internal/strconv.uint64pow10", "math/bits.deBruijn32tab", "math/bits.deBruijn64tab"], plainKeys := false, apart := false, laid := [("math/bits.deBruijn32tab", laid_math_bits_deBruijn32tab), ("math/bits.deBruijn64tab", laid_math_bits_deBruijn64tab), ("internal/strconv.uint64pow10", laid_internal_strconv_uint64pow10)], narrowed := true }
def FnProofEitherUptoSaid : Prop := fnProofEitherUptoRow.holds Tryd.pinned (OpenSpec.upto fnProofEitherSpec)

/-- 'laws.FnNoneIs', WHERE WHAT IT READS IS OF BULK AT MOST 1048576: true; the input reads as it did. -/
def fnNoneIsUptoRow : OpenClaim := { program := "ytmhmdlgcdeodmaadoor", sum := "5d60eb072411bb8a1d376c57338d627b47848b3e7a850d439fab65278ba59909", func := "loop.example/mirrorgrids/laws.FnNoneIs", spec := "fnNoneIs", inPlace := ["internal/abi.NoEscape", "internal/bytealg.MakeNoZero"], recurses := true, named := ["internal/strconv.uint64pow10", "math/bits.deBruijn32tab", "math/bits.deBruijn64tab"], plainKeys := false, apart := false, laid := [("math/bits.deBruijn32tab", laid_math_bits_deBruijn32tab), ("math/bits.deBruijn64tab", laid_math_bits_deBruijn64tab), ("internal/strconv.uint64pow10", laid_internal_strconv_uint64pow10)], narrowed := true }
def FnNoneIsUptoSaid : Prop := fnNoneIsUptoRow.holds Tryd.pinned (OpenSpec.upto fnNoneIsSpec)

/-- 'laws.FnProofRound', WHERE WHAT IT READS IS OF BULK AT MOST 1048576: true; the input reads as it did. -/
def fnProofRoundUptoRow : OpenClaim := { program := "ytmhmdlgcdeodmaadoor", sum := "5d60eb072411bb8a1d376c57338d627b47848b3e7a850d439fab65278ba59909", func := "loop.example/mirrorgrids/laws.FnProofRound", spec := "fnProofRound", recurses := true, named := ["internal/strconv.uint64pow10", "math/bits.deBruijn32tab", "math/bits.deBruijn64tab"], plainKeys := false, apart := false, laid := [("math/bits.deBruijn32tab", laid_math_bits_deBruijn32tab), ("math/bits.deBruijn64tab", laid_math_bits_deBruijn64tab), ("internal/strconv.uint64pow10", laid_internal_strconv_uint64pow10)], narrowed := true }
def FnProofRoundUptoSaid : Prop := fnProofRoundUptoRow.holds Tryd.pinned (OpenSpec.upto fnProofRoundSpec)

/-- 'laws.FnExactProofRoundIs', WHERE WHAT IT READS IS OF BULK AT MOST 1048576: true; the input reads as it did. -/
def fnExactProofRoundIsUptoRow : OpenClaim := { program := "ytmhmdlgcdeodmaadoor", sum := "5d60eb072411bb8a1d376c57338d627b47848b3e7a850d439fab65278ba59909", func := "loop.example/mirrorgrids/laws.FnExactProofRoundIs", spec := "fnExactProofRoundIs", named := ["internal/strconv.uint64pow10", "math/bits.deBruijn32tab", "math/bits.deBruijn64tab"], plainKeys := false, apart := false, laid := [("math/bits.deBruijn32tab", laid_math_bits_deBruijn32tab), ("math/bits.deBruijn64tab", laid_math_bits_deBruijn64tab), ("internal/strconv.uint64pow10", laid_internal_strconv_uint64pow10)], narrowed := true }
def FnExactProofRoundIsUptoSaid : Prop := fnExactProofRoundIsUptoRow.holds Tryd.pinned (OpenSpec.upto fnExactProofRoundIsSpec)

/-- 'laws.FnExactProofRound', WHERE WHAT IT READS IS OF BULK AT MOST 1048576: true; the input reads as it did. -/
def fnExactProofRoundUptoRow : OpenClaim := { program := "ytmhmdlgcdeodmaadoor", sum := "5d60eb072411bb8a1d376c57338d627b47848b3e7a850d439fab65278ba59909", func := "loop.example/mirrorgrids/laws.FnExactProofRound", spec := "fnExactProofRound", recurses := true, named := ["internal/strconv.uint64pow10", "math/bits.deBruijn32tab", "math/bits.deBruijn64tab"], plainKeys := false, apart := false, laid := [("math/bits.deBruijn32tab", laid_math_bits_deBruijn32tab), ("math/bits.deBruijn64tab", laid_math_bits_deBruijn64tab), ("internal/strconv.uint64pow10", laid_internal_strconv_uint64pow10)], narrowed := true }
def FnExactProofRoundUptoSaid : Prop := fnExactProofRoundUptoRow.holds Tryd.pinned (OpenSpec.upto fnExactProofRoundSpec)

/-- 'laws.FnExactProofNone', WHERE WHAT IT READS IS OF BULK AT MOST 1048576: true; the input reads as it did. -/
def fnExactProofNoneUptoRow : OpenClaim := { program := "ytmhmdlgcdeodmaadoor", sum := "5d60eb072411bb8a1d376c57338d627b47848b3e7a850d439fab65278ba59909", func := "loop.example/mirrorgrids/laws.FnExactProofNone", spec := "fnExactProofNone", inPlace := ["internal/abi.NoEscape", "internal/bytealg.MakeNoZero"], recurses := true, named := ["internal/strconv.uint64pow10", "math/bits.deBruijn32tab", "math/bits.deBruijn64tab"], plainKeys := false, apart := false, laid := [("math/bits.deBruijn32tab", laid_math_bits_deBruijn32tab), ("math/bits.deBruijn64tab", laid_math_bits_deBruijn64tab), ("internal/strconv.uint64pow10", laid_internal_strconv_uint64pow10)], narrowed := true }
def FnExactProofNoneUptoSaid : Prop := fnExactProofNoneUptoRow.holds Tryd.pinned (OpenSpec.upto fnExactProofNoneSpec)

/-- 'laws.FnExactProofNoneIs', WHERE WHAT IT READS IS OF BULK AT MOST 1048576: true; the input reads as it did. -/
def fnExactProofNoneIsUptoRow : OpenClaim := { program := "ytmhmdlgcdeodmaadoor", sum := "5d60eb072411bb8a1d376c57338d627b47848b3e7a850d439fab65278ba59909", func := "loop.example/mirrorgrids/laws.FnExactProofNoneIs", spec := "fnExactProofNoneIs", inPlace := ["internal/abi.NoEscape", "internal/bytealg.MakeNoZero"], recurses := true, named := ["internal/strconv.uint64pow10", "math/bits.deBruijn32tab", "math/bits.deBruijn64tab"], plainKeys := false, apart := false, laid := [("math/bits.deBruijn32tab", laid_math_bits_deBruijn32tab), ("math/bits.deBruijn64tab", laid_math_bits_deBruijn64tab), ("internal/strconv.uint64pow10", laid_internal_strconv_uint64pow10)], narrowed := true }
def FnExactProofNoneIsUptoSaid : Prop := fnExactProofNoneIsUptoRow.holds Tryd.pinned (OpenSpec.upto fnExactProofNoneIsSpec)

/-- 'laws.FnRoundIs', WHERE WHAT IT READS IS OF BULK AT MOST 1048576: true; the input reads as it did. -/
def fnRoundIsUptoRow : OpenClaim := { program := "ytmhmdlgcdeodmaadoor", sum := "5d60eb072411bb8a1d376c57338d627b47848b3e7a850d439fab65278ba59909", func := "loop.example/mirrorgrids/laws.FnRoundIs", spec := "fnRoundIs", recurses := true, named := ["internal/strconv.uint64pow10", "math/bits.deBruijn32tab", "math/bits.deBruijn64tab"], plainKeys := false, apart := false, laid := [("math/bits.deBruijn32tab", laid_math_bits_deBruijn32tab), ("math/bits.deBruijn64tab", laid_math_bits_deBruijn64tab), ("internal/strconv.uint64pow10", laid_internal_strconv_uint64pow10)], narrowed := true }
def FnRoundIsUptoSaid : Prop := fnRoundIsUptoRow.holds Tryd.pinned (OpenSpec.upto fnRoundIsSpec)

/-- 'laws.FnProofNone', WHERE WHAT IT READS IS OF BULK AT MOST 1048576: true; the input reads as it did. -/
def fnProofNoneUptoRow : OpenClaim := { program := "ytmhmdlgcdeodmaadoor", sum := "5d60eb072411bb8a1d376c57338d627b47848b3e7a850d439fab65278ba59909", func := "loop.example/mirrorgrids/laws.FnProofNone", spec := "fnProofNone", inPlace := ["internal/abi.NoEscape", "internal/bytealg.MakeNoZero"], recurses := true, named := ["internal/strconv.uint64pow10", "math/bits.deBruijn32tab", "math/bits.deBruijn64tab"], plainKeys := false, apart := false, laid := [("math/bits.deBruijn32tab", laid_math_bits_deBruijn32tab), ("math/bits.deBruijn64tab", laid_math_bits_deBruijn64tab), ("internal/strconv.uint64pow10", laid_internal_strconv_uint64pow10)], narrowed := true }
def FnProofNoneUptoSaid : Prop := fnProofNoneUptoRow.holds Tryd.pinned (OpenSpec.upto fnProofNoneSpec)

end Rows
end Go.Proofs.YtmhmdlgcdeodmaaDoor
