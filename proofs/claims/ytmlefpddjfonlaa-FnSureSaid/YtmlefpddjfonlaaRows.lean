/-
  No cell of these rows narrows 'for every input' (looked for: loops, veiled, ifaces, maps, wideKeys, modest, calm, conditions, laid).
  DERIVED. THE GIVEN ROWS OF THIS SEAT. 14 by the template 'for every input the law returns true; each argument reads behind the call as it read before'; 0 by the template 'total and deterministic' (their statements: YtmlefpddjfonlaaTotals.lean).
  GIVEN WITH THE SEED: the statements are not yours to turn. If you find one false, say at which input.
  Laid BY PROGRAM, IN A SANDBOX (cutbox-rows.mjs): the forced cells as the released guide's own fill.sh prints them over the translation 732edf890b37a526… (all of the seat's roots in one cut). By AI agents, Wed Nov 11 2026. No macro, syntax, notation, axiom, sorry.
-/
import Derived.Test.YtmlefpddjfonlaaChecked
import GoSem.Claim
import GoSem.ClaimJoined
import GoSem.ClaimMapViews
import Derived.JoinedTies
import Derived.KernelRfl
namespace Go.Proofs.Ytmlefpddjfonlaa
/- THE CELL 'sum', in the pinned program and in every row, IS THE sha256 OF THE DUMP (.gsa) THAT YtmlefpddjfonlaaProg.lean LOADS. Nothing in Lean hashes anything: it is a label: what it is worth is what the hold of that sum in a sandbox is worth. -/
noncomputable def Try.pinned : Pinned := { name := "ytmlefpddjfonlaa", sum := "732edf890b37a5264117ad380add1ad33899ef66782f623f261623fc1fc5776a", checked := Try.checked }
namespace Rows
def none {H : Type} : Left H := { results := [], args := [] }

/-- 'laws.FnExactAskOf': WHATEVER THE INPUT: true; the input reads as it did. -/
def fnExactAskOfSpec : ChangeSpec := { name := "fnExactAskOf", fn := fun _ => fun
  | [d1, d2] => { results := [.lit (.bool true)], args := [d1, d2] }
  | _ => none }
def fnExactAskOfRow : OpenClaim := { program := "ytmlefpddjfonlaa", sum := "732edf890b37a5264117ad380add1ad33899ef66782f623f261623fc1fc5776a", func := "loop.example/mirrorgrids/laws.FnExactAskOf", spec := "fnExactAskOf", apart := false }
def FnExactAskOfSaid : Prop := fnExactAskOfRow.holds Try.pinned (OpenSpec.ofChange fnExactAskOfSpec)

/-- ITS FALSE NEIGHBOUR: 'it returns false'. Refute it at one input. -/
def fnExactAskOfWrong : ChangeSpec := { name := "fnExactAskOf", fn := fun _ => fun
  | [d1, d2] => { results := [.lit (.bool false)], args := [d1, d2] }
  | _ => none }
def FnExactAskOfWrongFalsely : Prop := fnExactAskOfRow.holds Try.pinned (OpenSpec.ofChange fnExactAskOfWrong)

/-- 'laws.FnExactAskFit': WHATEVER THE INPUT: true; the input reads as it did. -/
def fnExactAskFitSpec : ChangeSpec := { name := "fnExactAskFit", fn := fun _ => fun
  | [d1, d2, d3] => { results := [.lit (.bool true)], args := [d1, d2, d3] }
  | _ => none }
def fnExactAskFitRow : OpenClaim := { program := "ytmlefpddjfonlaa", sum := "732edf890b37a5264117ad380add1ad33899ef66782f623f261623fc1fc5776a", func := "loop.example/mirrorgrids/laws.FnExactAskFit", spec := "fnExactAskFit", unfollowed := true, recurses := true, apart := false }
def FnExactAskFitSaid : Prop := fnExactAskFitRow.holds Try.pinned (OpenSpec.ofChange fnExactAskFitSpec)

/-- ITS FALSE NEIGHBOUR: 'it returns false'. Refute it at one input. -/
def fnExactAskFitWrong : ChangeSpec := { name := "fnExactAskFit", fn := fun _ => fun
  | [d1, d2, d3] => { results := [.lit (.bool false)], args := [d1, d2, d3] }
  | _ => none }
def FnExactAskFitWrongFalsely : Prop := fnExactAskFitRow.holds Try.pinned (OpenSpec.ofChange fnExactAskFitWrong)

/-- 'laws.FnExactAskWorst': WHATEVER THE INPUT: true; the input reads as it did. -/
def fnExactAskWorstSpec : ChangeSpec := { name := "fnExactAskWorst", fn := fun _ => fun
  | [d1, d2, d3, d4] => { results := [.lit (.bool true)], args := [d1, d2, d3, d4] }
  | _ => none }
def fnExactAskWorstRow : OpenClaim := { program := "ytmlefpddjfonlaa", sum := "732edf890b37a5264117ad380add1ad33899ef66782f623f261623fc1fc5776a", func := "loop.example/mirrorgrids/laws.FnExactAskWorst", spec := "fnExactAskWorst", unfollowed := true, recurses := true, apart := false }
def FnExactAskWorstSaid : Prop := fnExactAskWorstRow.holds Try.pinned (OpenSpec.ofChange fnExactAskWorstSpec)

/-- ITS FALSE NEIGHBOUR: 'it returns false'. Refute it at one input. -/
def fnExactAskWorstWrong : ChangeSpec := { name := "fnExactAskWorst", fn := fun _ => fun
  | [d1, d2, d3, d4] => { results := [.lit (.bool false)], args := [d1, d2, d3, d4] }
  | _ => none }
def FnExactAskWorstWrongFalsely : Prop := fnExactAskWorstRow.holds Try.pinned (OpenSpec.ofChange fnExactAskWorstWrong)

/-- 'laws.FnExactAskBest': WHATEVER THE INPUT: true; the input reads as it did. -/
def fnExactAskBestSpec : ChangeSpec := { name := "fnExactAskBest", fn := fun _ => fun
  | [d1, d2, d3] => { results := [.lit (.bool true)], args := [d1, d2, d3] }
  | _ => none }
def fnExactAskBestRow : OpenClaim := { program := "ytmlefpddjfonlaa", sum := "732edf890b37a5264117ad380add1ad33899ef66782f623f261623fc1fc5776a", func := "loop.example/mirrorgrids/laws.FnExactAskBest", spec := "fnExactAskBest", unfollowed := true, recurses := true, apart := false }
def FnExactAskBestSaid : Prop := fnExactAskBestRow.holds Try.pinned (OpenSpec.ofChange fnExactAskBestSpec)

/-- ITS FALSE NEIGHBOUR: 'it returns false'. Refute it at one input. -/
def fnExactAskBestWrong : ChangeSpec := { name := "fnExactAskBest", fn := fun _ => fun
  | [d1, d2, d3] => { results := [.lit (.bool false)], args := [d1, d2, d3] }
  | _ => none }
def FnExactAskBestWrongFalsely : Prop := fnExactAskBestRow.holds Try.pinned (OpenSpec.ofChange fnExactAskBestWrong)

/-- 'laws.FnFitMore': WHATEVER THE INPUT: true; the input reads as it did. -/
def fnFitMoreSpec : ChangeSpec := { name := "fnFitMore", fn := fun _ => fun
  | [d] => { results := [.lit (.bool true)], args := [d] }
  | _ => none }
def fnFitMoreRow : OpenClaim := { program := "ytmlefpddjfonlaa", sum := "732edf890b37a5264117ad380add1ad33899ef66782f623f261623fc1fc5776a", func := "loop.example/mirrorgrids/laws.FnFitMore", spec := "fnFitMore", unfollowed := true, recurses := true, apart := false }
def FnFitMoreSaid : Prop := fnFitMoreRow.holds Try.pinned (OpenSpec.ofChange fnFitMoreSpec)

/-- ITS FALSE NEIGHBOUR: 'it returns false'. Refute it at one input. -/
def fnFitMoreWrong : ChangeSpec := { name := "fnFitMore", fn := fun _ => fun
  | [d] => { results := [.lit (.bool false)], args := [d] }
  | _ => none }
def FnFitMoreWrongFalsely : Prop := fnFitMoreRow.holds Try.pinned (OpenSpec.ofChange fnFitMoreWrong)

/-- 'laws.FnExactAskFirst': WHATEVER THE INPUT: true; the input reads as it did. -/
def fnExactAskFirstSpec : ChangeSpec := { name := "fnExactAskFirst", fn := fun _ => fun
  | [d1, d2, d3] => { results := [.lit (.bool true)], args := [d1, d2, d3] }
  | _ => none }
def fnExactAskFirstRow : OpenClaim := { program := "ytmlefpddjfonlaa", sum := "732edf890b37a5264117ad380add1ad33899ef66782f623f261623fc1fc5776a", func := "loop.example/mirrorgrids/laws.FnExactAskFirst", spec := "fnExactAskFirst", unfollowed := true, recurses := true, apart := false }
def FnExactAskFirstSaid : Prop := fnExactAskFirstRow.holds Try.pinned (OpenSpec.ofChange fnExactAskFirstSpec)

/-- ITS FALSE NEIGHBOUR: 'it returns false'. Refute it at one input. -/
def fnExactAskFirstWrong : ChangeSpec := { name := "fnExactAskFirst", fn := fun _ => fun
  | [d1, d2, d3] => { results := [.lit (.bool false)], args := [d1, d2, d3] }
  | _ => none }
def FnExactAskFirstWrongFalsely : Prop := fnExactAskFirstRow.holds Try.pinned (OpenSpec.ofChange fnExactAskFirstWrong)

/-- 'laws.FnFit': WHATEVER THE INPUT: true; the input reads as it did. -/
def fnFitSpec : ChangeSpec := { name := "fnFit", fn := fun _ => fun
  | [d] => { results := [.lit (.bool true)], args := [d] }
  | _ => none }
def fnFitRow : OpenClaim := { program := "ytmlefpddjfonlaa", sum := "732edf890b37a5264117ad380add1ad33899ef66782f623f261623fc1fc5776a", func := "loop.example/mirrorgrids/laws.FnFit", spec := "fnFit", unfollowed := true, recurses := true, apart := false }
def FnFitSaid : Prop := fnFitRow.holds Try.pinned (OpenSpec.ofChange fnFitSpec)

/-- ITS FALSE NEIGHBOUR: 'it returns false'. Refute it at one input. -/
def fnFitWrong : ChangeSpec := { name := "fnFit", fn := fun _ => fun
  | [d] => { results := [.lit (.bool false)], args := [d] }
  | _ => none }
def FnFitWrongFalsely : Prop := fnFitRow.holds Try.pinned (OpenSpec.ofChange fnFitWrong)

/-- 'laws.FnAskOf': WHATEVER THE INPUT: true; the input reads as it did. -/
def fnAskOfSpec : ChangeSpec := { name := "fnAskOf", fn := fun _ => fun
  | [d] => { results := [.lit (.bool true)], args := [d] }
  | _ => none }
def fnAskOfRow : OpenClaim := { program := "ytmlefpddjfonlaa", sum := "732edf890b37a5264117ad380add1ad33899ef66782f623f261623fc1fc5776a", func := "loop.example/mirrorgrids/laws.FnAskOf", spec := "fnAskOf", unfollowed := true, recurses := true, apart := false }
def FnAskOfSaid : Prop := fnAskOfRow.holds Try.pinned (OpenSpec.ofChange fnAskOfSpec)

/-- ITS FALSE NEIGHBOUR: 'it returns false'. Refute it at one input. -/
def fnAskOfWrong : ChangeSpec := { name := "fnAskOf", fn := fun _ => fun
  | [d] => { results := [.lit (.bool false)], args := [d] }
  | _ => none }
def FnAskOfWrongFalsely : Prop := fnAskOfRow.holds Try.pinned (OpenSpec.ofChange fnAskOfWrong)

/-- 'laws.FnExactAskSure': WHATEVER THE INPUT: true; the input reads as it did. -/
def fnExactAskSureSpec : ChangeSpec := { name := "fnExactAskSure", fn := fun _ => fun
  | [d1, d2, d3] => { results := [.lit (.bool true)], args := [d1, d2, d3] }
  | _ => none }
def fnExactAskSureRow : OpenClaim := { program := "ytmlefpddjfonlaa", sum := "732edf890b37a5264117ad380add1ad33899ef66782f623f261623fc1fc5776a", func := "loop.example/mirrorgrids/laws.FnExactAskSure", spec := "fnExactAskSure", unfollowed := true, recurses := true, apart := false }
def FnExactAskSureSaid : Prop := fnExactAskSureRow.holds Try.pinned (OpenSpec.ofChange fnExactAskSureSpec)

/-- ITS FALSE NEIGHBOUR: 'it returns false'. Refute it at one input. -/
def fnExactAskSureWrong : ChangeSpec := { name := "fnExactAskSure", fn := fun _ => fun
  | [d1, d2, d3] => { results := [.lit (.bool false)], args := [d1, d2, d3] }
  | _ => none }
def FnExactAskSureWrongFalsely : Prop := fnExactAskSureRow.holds Try.pinned (OpenSpec.ofChange fnExactAskSureWrong)

/-- 'laws.FnWorst': WHATEVER THE INPUT: true; the input reads as it did. -/
def fnWorstSpec : ChangeSpec := { name := "fnWorst", fn := fun _ => fun
  | [d] => { results := [.lit (.bool true)], args := [d] }
  | _ => none }
def fnWorstRow : OpenClaim := { program := "ytmlefpddjfonlaa", sum := "732edf890b37a5264117ad380add1ad33899ef66782f623f261623fc1fc5776a", func := "loop.example/mirrorgrids/laws.FnWorst", spec := "fnWorst", unfollowed := true, recurses := true, apart := false }
def FnWorstSaid : Prop := fnWorstRow.holds Try.pinned (OpenSpec.ofChange fnWorstSpec)

/-- ITS FALSE NEIGHBOUR: 'it returns false'. Refute it at one input. -/
def fnWorstWrong : ChangeSpec := { name := "fnWorst", fn := fun _ => fun
  | [d] => { results := [.lit (.bool false)], args := [d] }
  | _ => none }
def FnWorstWrongFalsely : Prop := fnWorstRow.holds Try.pinned (OpenSpec.ofChange fnWorstWrong)

/-- 'laws.FnAskBest': WHATEVER THE INPUT: true; the input reads as it did. -/
def fnAskBestSpec : ChangeSpec := { name := "fnAskBest", fn := fun _ => fun
  | [d] => { results := [.lit (.bool true)], args := [d] }
  | _ => none }
def fnAskBestRow : OpenClaim := { program := "ytmlefpddjfonlaa", sum := "732edf890b37a5264117ad380add1ad33899ef66782f623f261623fc1fc5776a", func := "loop.example/mirrorgrids/laws.FnAskBest", spec := "fnAskBest", unfollowed := true, recurses := true, apart := false }
def FnAskBestSaid : Prop := fnAskBestRow.holds Try.pinned (OpenSpec.ofChange fnAskBestSpec)

/-- ITS FALSE NEIGHBOUR: 'it returns false'. Refute it at one input. -/
def fnAskBestWrong : ChangeSpec := { name := "fnAskBest", fn := fun _ => fun
  | [d] => { results := [.lit (.bool false)], args := [d] }
  | _ => none }
def FnAskBestWrongFalsely : Prop := fnAskBestRow.holds Try.pinned (OpenSpec.ofChange fnAskBestWrong)

/-- 'laws.FnAskFirst': WHATEVER THE INPUT: true; the input reads as it did. -/
def fnAskFirstSpec : ChangeSpec := { name := "fnAskFirst", fn := fun _ => fun
  | [d] => { results := [.lit (.bool true)], args := [d] }
  | _ => none }
def fnAskFirstRow : OpenClaim := { program := "ytmlefpddjfonlaa", sum := "732edf890b37a5264117ad380add1ad33899ef66782f623f261623fc1fc5776a", func := "loop.example/mirrorgrids/laws.FnAskFirst", spec := "fnAskFirst", unfollowed := true, recurses := true, apart := false }
def FnAskFirstSaid : Prop := fnAskFirstRow.holds Try.pinned (OpenSpec.ofChange fnAskFirstSpec)

/-- ITS FALSE NEIGHBOUR: 'it returns false'. Refute it at one input. -/
def fnAskFirstWrong : ChangeSpec := { name := "fnAskFirst", fn := fun _ => fun
  | [d] => { results := [.lit (.bool false)], args := [d] }
  | _ => none }
def FnAskFirstWrongFalsely : Prop := fnAskFirstRow.holds Try.pinned (OpenSpec.ofChange fnAskFirstWrong)

/-- 'laws.FnSure': WHATEVER THE INPUT: true; the input reads as it did. -/
def fnSureSpec : ChangeSpec := { name := "fnSure", fn := fun _ => fun
  | [d] => { results := [.lit (.bool true)], args := [d] }
  | _ => none }
def fnSureRow : OpenClaim := { program := "ytmlefpddjfonlaa", sum := "732edf890b37a5264117ad380add1ad33899ef66782f623f261623fc1fc5776a", func := "loop.example/mirrorgrids/laws.FnSure", spec := "fnSure", unfollowed := true, recurses := true, apart := false }
def FnSureSaid : Prop := fnSureRow.holds Try.pinned (OpenSpec.ofChange fnSureSpec)

/-- ITS FALSE NEIGHBOUR: 'it returns false'. Refute it at one input. -/
def fnSureWrong : ChangeSpec := { name := "fnSure", fn := fun _ => fun
  | [d] => { results := [.lit (.bool false)], args := [d] }
  | _ => none }
def FnSureWrongFalsely : Prop := fnSureRow.holds Try.pinned (OpenSpec.ofChange fnSureWrong)

/-- 'laws.FnFewest': WHATEVER THE INPUT: true; the input reads as it did. -/
def fnFewestSpec : ChangeSpec := { name := "fnFewest", fn := fun _ => fun
  | [d] => { results := [.lit (.bool true)], args := [d] }
  | _ => none }
def fnFewestRow : OpenClaim := { program := "ytmlefpddjfonlaa", sum := "732edf890b37a5264117ad380add1ad33899ef66782f623f261623fc1fc5776a", func := "loop.example/mirrorgrids/laws.FnFewest", spec := "fnFewest", unfollowed := true, recurses := true, apart := false }
def FnFewestSaid : Prop := fnFewestRow.holds Try.pinned (OpenSpec.ofChange fnFewestSpec)

/-- ITS FALSE NEIGHBOUR: 'it returns false'. Refute it at one input. -/
def fnFewestWrong : ChangeSpec := { name := "fnFewest", fn := fun _ => fun
  | [d] => { results := [.lit (.bool false)], args := [d] }
  | _ => none }
def FnFewestWrongFalsely : Prop := fnFewestRow.holds Try.pinned (OpenSpec.ofChange fnFewestWrong)

/- THE SECOND FORM. 'bulk': how many values and letters a reading holds, each counted each time it is reached (what is shared counts as often as it is met; a slice's spare places count too). A statement '..UptoSaid' is the law's where the arguments, and the package variables that the reading takes, are together of bulk at most 1048576: NARROWER than '..Said'. Prove '..Said' where nothing that the law and all that it calls make is longer than what came in: it says more and counts as full. Else prove '..UptoSaid'. A law counts once. -/
mutual
def uptoBulk {H : Type} : DataW H → Nat
  | .lit (.string bytes) => bytes.length + 1
  | .lit _ => 1
  | .nil => 1
  | .ptr d => uptoBulk d + 1
  | .slice elems spare => uptoBulkAll elems + uptoBulkAll spare + 1
  | .agg parts => uptoBulkAll parts + 1
  | .iface _ d => uptoBulk d + 1
  | .map entries => uptoBulkEntries entries + 1
  | .held _ => 1
def uptoBulkAll {H : Type} : List (DataW H) → Nat
  | [] => 0
  | d :: r => uptoBulk d + uptoBulkAll r
def uptoBulkEntries {H : Type} : List (Lit × DataW H) → Nat
  | [] => 0
  | x :: r => uptoBulkEntry x + uptoBulkEntries r
def uptoBulkEntry {H : Type} : Lit × DataW H → Nat
  | (.string bytes, d) => bytes.length + uptoBulk d + 1
  | (_, d) => uptoBulk d + 1
 end
def uptoSmall : (H : Type) → List (DataW H) → Bool := fun _ ds => decide (uptoBulkAll ds ≤ 1048576)
def OpenSpec.upto (s : _root_.Go.ChangeSpec) : _root_.Go.OpenSpec := { _root_.Go.OpenSpec.ofChange s with cond := some uptoSmall }

/-- 'laws.FnExactAskOf', WHERE WHAT IT READS IS OF BULK AT MOST 1048576: true; the input reads as it did. -/
def fnExactAskOfUptoRow : OpenClaim := { program := "ytmlefpddjfonlaa", sum := "732edf890b37a5264117ad380add1ad33899ef66782f623f261623fc1fc5776a", func := "loop.example/mirrorgrids/laws.FnExactAskOf", spec := "fnExactAskOf", apart := false, narrowed := true }
def FnExactAskOfUptoSaid : Prop := fnExactAskOfUptoRow.holds Try.pinned (OpenSpec.upto fnExactAskOfSpec)

/-- 'laws.FnExactAskFit', WHERE WHAT IT READS IS OF BULK AT MOST 1048576: true; the input reads as it did. -/
def fnExactAskFitUptoRow : OpenClaim := { program := "ytmlefpddjfonlaa", sum := "732edf890b37a5264117ad380add1ad33899ef66782f623f261623fc1fc5776a", func := "loop.example/mirrorgrids/laws.FnExactAskFit", spec := "fnExactAskFit", unfollowed := true, recurses := true, apart := false, narrowed := true }
def FnExactAskFitUptoSaid : Prop := fnExactAskFitUptoRow.holds Try.pinned (OpenSpec.upto fnExactAskFitSpec)

/-- 'laws.FnExactAskWorst', WHERE WHAT IT READS IS OF BULK AT MOST 1048576: true; the input reads as it did. -/
def fnExactAskWorstUptoRow : OpenClaim := { program := "ytmlefpddjfonlaa", sum := "732edf890b37a5264117ad380add1ad33899ef66782f623f261623fc1fc5776a", func := "loop.example/mirrorgrids/laws.FnExactAskWorst", spec := "fnExactAskWorst", unfollowed := true, recurses := true, apart := false, narrowed := true }
def FnExactAskWorstUptoSaid : Prop := fnExactAskWorstUptoRow.holds Try.pinned (OpenSpec.upto fnExactAskWorstSpec)

/-- 'laws.FnExactAskBest', WHERE WHAT IT READS IS OF BULK AT MOST 1048576: true; the input reads as it did. -/
def fnExactAskBestUptoRow : OpenClaim := { program := "ytmlefpddjfonlaa", sum := "732edf890b37a5264117ad380add1ad33899ef66782f623f261623fc1fc5776a", func := "loop.example/mirrorgrids/laws.FnExactAskBest", spec := "fnExactAskBest", unfollowed := true, recurses := true, apart := false, narrowed := true }
def FnExactAskBestUptoSaid : Prop := fnExactAskBestUptoRow.holds Try.pinned (OpenSpec.upto fnExactAskBestSpec)

/-- 'laws.FnFitMore', WHERE WHAT IT READS IS OF BULK AT MOST 1048576: true; the input reads as it did. -/
def fnFitMoreUptoRow : OpenClaim := { program := "ytmlefpddjfonlaa", sum := "732edf890b37a5264117ad380add1ad33899ef66782f623f261623fc1fc5776a", func := "loop.example/mirrorgrids/laws.FnFitMore", spec := "fnFitMore", unfollowed := true, recurses := true, apart := false, narrowed := true }
def FnFitMoreUptoSaid : Prop := fnFitMoreUptoRow.holds Try.pinned (OpenSpec.upto fnFitMoreSpec)

/-- 'laws.FnExactAskFirst', WHERE WHAT IT READS IS OF BULK AT MOST 1048576: true; the input reads as it did. -/
def fnExactAskFirstUptoRow : OpenClaim := { program := "ytmlefpddjfonlaa", sum := "732edf890b37a5264117ad380add1ad33899ef66782f623f261623fc1fc5776a", func := "loop.example/mirrorgrids/laws.FnExactAskFirst", spec := "fnExactAskFirst", unfollowed := true, recurses := true, apart := false, narrowed := true }
def FnExactAskFirstUptoSaid : Prop := fnExactAskFirstUptoRow.holds Try.pinned (OpenSpec.upto fnExactAskFirstSpec)

/-- 'laws.FnFit', WHERE WHAT IT READS IS OF BULK AT MOST 1048576: true; the input reads as it did. -/
def fnFitUptoRow : OpenClaim := { program := "ytmlefpddjfonlaa", sum := "732edf890b37a5264117ad380add1ad33899ef66782f623f261623fc1fc5776a", func := "loop.example/mirrorgrids/laws.FnFit", spec := "fnFit", unfollowed := true, recurses := true, apart := false, narrowed := true }
def FnFitUptoSaid : Prop := fnFitUptoRow.holds Try.pinned (OpenSpec.upto fnFitSpec)

/-- 'laws.FnAskOf', WHERE WHAT IT READS IS OF BULK AT MOST 1048576: true; the input reads as it did. -/
def fnAskOfUptoRow : OpenClaim := { program := "ytmlefpddjfonlaa", sum := "732edf890b37a5264117ad380add1ad33899ef66782f623f261623fc1fc5776a", func := "loop.example/mirrorgrids/laws.FnAskOf", spec := "fnAskOf", unfollowed := true, recurses := true, apart := false, narrowed := true }
def FnAskOfUptoSaid : Prop := fnAskOfUptoRow.holds Try.pinned (OpenSpec.upto fnAskOfSpec)

/-- 'laws.FnExactAskSure', WHERE WHAT IT READS IS OF BULK AT MOST 1048576: true; the input reads as it did. -/
def fnExactAskSureUptoRow : OpenClaim := { program := "ytmlefpddjfonlaa", sum := "732edf890b37a5264117ad380add1ad33899ef66782f623f261623fc1fc5776a", func := "loop.example/mirrorgrids/laws.FnExactAskSure", spec := "fnExactAskSure", unfollowed := true, recurses := true, apart := false, narrowed := true }
def FnExactAskSureUptoSaid : Prop := fnExactAskSureUptoRow.holds Try.pinned (OpenSpec.upto fnExactAskSureSpec)

/-- 'laws.FnWorst', WHERE WHAT IT READS IS OF BULK AT MOST 1048576: true; the input reads as it did. -/
def fnWorstUptoRow : OpenClaim := { program := "ytmlefpddjfonlaa", sum := "732edf890b37a5264117ad380add1ad33899ef66782f623f261623fc1fc5776a", func := "loop.example/mirrorgrids/laws.FnWorst", spec := "fnWorst", unfollowed := true, recurses := true, apart := false, narrowed := true }
def FnWorstUptoSaid : Prop := fnWorstUptoRow.holds Try.pinned (OpenSpec.upto fnWorstSpec)

/-- 'laws.FnAskBest', WHERE WHAT IT READS IS OF BULK AT MOST 1048576: true; the input reads as it did. -/
def fnAskBestUptoRow : OpenClaim := { program := "ytmlefpddjfonlaa", sum := "732edf890b37a5264117ad380add1ad33899ef66782f623f261623fc1fc5776a", func := "loop.example/mirrorgrids/laws.FnAskBest", spec := "fnAskBest", unfollowed := true, recurses := true, apart := false, narrowed := true }
def FnAskBestUptoSaid : Prop := fnAskBestUptoRow.holds Try.pinned (OpenSpec.upto fnAskBestSpec)

/-- 'laws.FnAskFirst', WHERE WHAT IT READS IS OF BULK AT MOST 1048576: true; the input reads as it did. -/
def fnAskFirstUptoRow : OpenClaim := { program := "ytmlefpddjfonlaa", sum := "732edf890b37a5264117ad380add1ad33899ef66782f623f261623fc1fc5776a", func := "loop.example/mirrorgrids/laws.FnAskFirst", spec := "fnAskFirst", unfollowed := true, recurses := true, apart := false, narrowed := true }
def FnAskFirstUptoSaid : Prop := fnAskFirstUptoRow.holds Try.pinned (OpenSpec.upto fnAskFirstSpec)

/-- 'laws.FnSure', WHERE WHAT IT READS IS OF BULK AT MOST 1048576: true; the input reads as it did. -/
def fnSureUptoRow : OpenClaim := { program := "ytmlefpddjfonlaa", sum := "732edf890b37a5264117ad380add1ad33899ef66782f623f261623fc1fc5776a", func := "loop.example/mirrorgrids/laws.FnSure", spec := "fnSure", unfollowed := true, recurses := true, apart := false, narrowed := true }
def FnSureUptoSaid : Prop := fnSureUptoRow.holds Try.pinned (OpenSpec.upto fnSureSpec)

/-- 'laws.FnFewest', WHERE WHAT IT READS IS OF BULK AT MOST 1048576: true; the input reads as it did. -/
def fnFewestUptoRow : OpenClaim := { program := "ytmlefpddjfonlaa", sum := "732edf890b37a5264117ad380add1ad33899ef66782f623f261623fc1fc5776a", func := "loop.example/mirrorgrids/laws.FnFewest", spec := "fnFewest", unfollowed := true, recurses := true, apart := false, narrowed := true }
def FnFewestUptoSaid : Prop := fnFewestUptoRow.holds Try.pinned (OpenSpec.upto fnFewestSpec)

end Rows
end Go.Proofs.Ytmlefpddjfonlaa
