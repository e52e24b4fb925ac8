/-
  No cell of these rows narrows 'for every input' (looked for: loops, veiled, ifaces, maps, wideKeys, modest, calm, conditions, laid).
  DERIVED. THE GIVEN ROWS OF THIS SEAT. 5 by the template 'for every input the law returns true; each argument reads behind the call as it read before'; 0 by the template 'total and deterministic' (their statements: YtlkdobnfoimieaaTotals.lean).
  GIVEN WITH THE SEED: the statements are not yours to turn. If you find one false, say at which input.
  Laid BY PROGRAM, IN A SANDBOX (cutbox-rows.mjs): the forced cells as the released guide's own fill.sh prints them over the translation d6690db027824c0d… (all of the seat's roots in one cut). By AI agents, Wed Nov 11 2026. No macro, syntax, notation, axiom, sorry.
-/
import Derived.Test.YtlkdobnfoimieaaChecked
import GoSem.Claim
import GoSem.ClaimJoined
import GoSem.ClaimMapViews
import Derived.JoinedTies
import Derived.KernelRfl
namespace Go.Proofs.Ytlkdobnfoimieaa
/- THE CELL 'sum', in the pinned program and in every row, IS THE sha256 OF THE DUMP (.gsa) THAT YtlkdobnfoimieaaProg.lean LOADS. Nothing in Lean hashes anything: it is a label: what it is worth is what the hold of that sum in a sandbox is worth. -/
noncomputable def Try.pinned : Pinned := { name := "ytlkdobnfoimieaa", sum := "d6690db027824c0d61d500fb7acbd1ad1eb4ae81b2a3ad577ea343611e1fdc28", checked := Try.checked }
namespace Rows
def none {H : Type} : Left H := { results := [], args := [] }

/-- 'laws.FnExactProofBeam': WHATEVER THE INPUT: true; the input reads as it did. -/
def fnExactProofBeamSpec : ChangeSpec := { name := "fnExactProofBeam", fn := fun _ => fun
  | [d1, d2] => { results := [.lit (.bool true)], args := [d1, d2] }
  | _ => none }
def fnExactProofBeamRow : OpenClaim := { program := "ytlkdobnfoimieaa", sum := "d6690db027824c0d61d500fb7acbd1ad1eb4ae81b2a3ad577ea343611e1fdc28", func := "loop.example/mirrorgrids/laws.FnExactProofBeam", spec := "fnExactProofBeam", apart := false }
def FnExactProofBeamSaid : Prop := fnExactProofBeamRow.holds Try.pinned (OpenSpec.ofChange fnExactProofBeamSpec)

/-- ITS FALSE NEIGHBOUR: 'it returns false'. Refute it at one input. -/
def fnExactProofBeamWrong : ChangeSpec := { name := "fnExactProofBeam", fn := fun _ => fun
  | [d1, d2] => { results := [.lit (.bool false)], args := [d1, d2] }
  | _ => none }
def FnExactProofBeamWrongFalsely : Prop := fnExactProofBeamRow.holds Try.pinned (OpenSpec.ofChange fnExactProofBeamWrong)

/-- 'laws.FnExactProofBeamIs': WHATEVER THE INPUT: true; the input reads as it did. -/
def fnExactProofBeamIsSpec : ChangeSpec := { name := "fnExactProofBeamIs", fn := fun _ => fun
  | [d1, d2, d3] => { results := [.lit (.bool true)], args := [d1, d2, d3] }
  | _ => none }
def fnExactProofBeamIsRow : OpenClaim := { program := "ytlkdobnfoimieaa", sum := "d6690db027824c0d61d500fb7acbd1ad1eb4ae81b2a3ad577ea343611e1fdc28", func := "loop.example/mirrorgrids/laws.FnExactProofBeamIs", spec := "fnExactProofBeamIs", apart := false }
def FnExactProofBeamIsSaid : Prop := fnExactProofBeamIsRow.holds Try.pinned (OpenSpec.ofChange fnExactProofBeamIsSpec)

/-- ITS FALSE NEIGHBOUR: 'it returns false'. Refute it at one input. -/
def fnExactProofBeamIsWrong : ChangeSpec := { name := "fnExactProofBeamIs", fn := fun _ => fun
  | [d1, d2, d3] => { results := [.lit (.bool false)], args := [d1, d2, d3] }
  | _ => none }
def FnExactProofBeamIsWrongFalsely : Prop := fnExactProofBeamIsRow.holds Try.pinned (OpenSpec.ofChange fnExactProofBeamIsWrong)

/-- 'laws.FnBeamBack': WHATEVER THE INPUT: true; the input reads as it did. -/
def fnBeamBackSpec : ChangeSpec := { name := "fnBeamBack", fn := fun _ => fun
  | [d] => { results := [.lit (.bool true)], args := [d] }
  | _ => none }
def fnBeamBackRow : OpenClaim := { program := "ytlkdobnfoimieaa", sum := "d6690db027824c0d61d500fb7acbd1ad1eb4ae81b2a3ad577ea343611e1fdc28", func := "loop.example/mirrorgrids/laws.FnBeamBack", spec := "fnBeamBack", apart := false }
def FnBeamBackSaid : Prop := fnBeamBackRow.holds Try.pinned (OpenSpec.ofChange fnBeamBackSpec)

/-- ITS FALSE NEIGHBOUR: 'it returns false'. Refute it at one input. -/
def fnBeamBackWrong : ChangeSpec := { name := "fnBeamBack", fn := fun _ => fun
  | [d] => { results := [.lit (.bool false)], args := [d] }
  | _ => none }
def FnBeamBackWrongFalsely : Prop := fnBeamBackRow.holds Try.pinned (OpenSpec.ofChange fnBeamBackWrong)

/-- 'laws.FnProofBeam': WHATEVER THE INPUT: true; the input reads as it did. -/
def fnProofBeamSpec : ChangeSpec := { name := "fnProofBeam", fn := fun _ => fun
  | [d] => { results := [.lit (.bool true)], args := [d] }
  | _ => none }
def fnProofBeamRow : OpenClaim := { program := "ytlkdobnfoimieaa", sum := "d6690db027824c0d61d500fb7acbd1ad1eb4ae81b2a3ad577ea343611e1fdc28", func := "loop.example/mirrorgrids/laws.FnProofBeam", spec := "fnProofBeam", apart := false }
def FnProofBeamSaid : Prop := fnProofBeamRow.holds Try.pinned (OpenSpec.ofChange fnProofBeamSpec)

/-- ITS FALSE NEIGHBOUR: 'it returns false'. Refute it at one input. -/
def fnProofBeamWrong : ChangeSpec := { name := "fnProofBeam", fn := fun _ => fun
  | [d] => { results := [.lit (.bool false)], args := [d] }
  | _ => none }
def FnProofBeamWrongFalsely : Prop := fnProofBeamRow.holds Try.pinned (OpenSpec.ofChange fnProofBeamWrong)

/-- 'laws.FnBeamIs': WHATEVER THE INPUT: true; the input reads as it did. -/
def fnBeamIsSpec : ChangeSpec := { name := "fnBeamIs", fn := fun _ => fun
  | [d] => { results := [.lit (.bool true)], args := [d] }
  | _ => none }
def fnBeamIsRow : OpenClaim := { program := "ytlkdobnfoimieaa", sum := "d6690db027824c0d61d500fb7acbd1ad1eb4ae81b2a3ad577ea343611e1fdc28", func := "loop.example/mirrorgrids/laws.FnBeamIs", spec := "fnBeamIs", apart := false }
def FnBeamIsSaid : Prop := fnBeamIsRow.holds Try.pinned (OpenSpec.ofChange fnBeamIsSpec)

/-- ITS FALSE NEIGHBOUR: 'it returns false'. Refute it at one input. -/
def fnBeamIsWrong : ChangeSpec := { name := "fnBeamIs", fn := fun _ => fun
  | [d] => { results := [.lit (.bool false)], args := [d] }
  | _ => none }
def FnBeamIsWrongFalsely : Prop := fnBeamIsRow.holds Try.pinned (OpenSpec.ofChange fnBeamIsWrong)

/- THE SECOND FORM. 'bulk': how many values and letters a reading holds, each counted each time it is reached (what is shared counts as often as it is met; a slice's spare places count too). A statement '..UptoSaid' is the law's where the arguments, and the package variables that the reading takes, are together of bulk at most 1048576: NARROWER than '..Said'. Prove '..Said' where nothing that the law and all that it calls make is longer than what came in: it says more and counts as full. Else prove '..UptoSaid'. A law counts once. -/
mutual
def uptoBulk {H : Type} : DataW H → Nat
  | .lit (.string bytes) => bytes.length + 1
  | .lit _ => 1
  | .nil => 1
  | .ptr d => uptoBulk d + 1
  | .slice elems spare => uptoBulkAll elems + uptoBulkAll spare + 1
  | .agg parts => uptoBulkAll parts + 1
  | .iface _ d => uptoBulk d + 1
  | .map entries => uptoBulkEntries entries + 1
  | .held _ => 1
def uptoBulkAll {H : Type} : List (DataW H) → Nat
  | [] => 0
  | d :: r => uptoBulk d + uptoBulkAll r
def uptoBulkEntries {H : Type} : List (Lit × DataW H) → Nat
  | [] => 0
  | x :: r => uptoBulkEntry x + uptoBulkEntries r
def uptoBulkEntry {H : Type} : Lit × DataW H → Nat
  | (.string bytes, d) => bytes.length + uptoBulk d + 1
  | (_, d) => uptoBulk d + 1
 end
def uptoSmall : (H : Type) → List (DataW H) → Bool := fun _ ds => decide (uptoBulkAll ds ≤ 1048576)
def OpenSpec.upto (s : _root_.Go.ChangeSpec) : _root_.Go.OpenSpec := { _root_.Go.OpenSpec.ofChange s with cond := some uptoSmall }

/-- 'laws.FnExactProofBeam', WHERE WHAT IT READS IS OF BULK AT MOST 1048576: true; the input reads as it did. -/
def fnExactProofBeamUptoRow : OpenClaim := { program := "ytlkdobnfoimieaa", sum := "d6690db027824c0d61d500fb7acbd1ad1eb4ae81b2a3ad577ea343611e1fdc28", func := "loop.example/mirrorgrids/laws.FnExactProofBeam", spec := "fnExactProofBeam", apart := false, narrowed := true }
def FnExactProofBeamUptoSaid : Prop := fnExactProofBeamUptoRow.holds Try.pinned (OpenSpec.upto fnExactProofBeamSpec)

/-- 'laws.FnExactProofBeamIs', WHERE WHAT IT READS IS OF BULK AT MOST 1048576: true; the input reads as it did. -/
def fnExactProofBeamIsUptoRow : OpenClaim := { program := "ytlkdobnfoimieaa", sum := "d6690db027824c0d61d500fb7acbd1ad1eb4ae81b2a3ad577ea343611e1fdc28", func := "loop.example/mirrorgrids/laws.FnExactProofBeamIs", spec := "fnExactProofBeamIs", apart := false, narrowed := true }
def FnExactProofBeamIsUptoSaid : Prop := fnExactProofBeamIsUptoRow.holds Try.pinned (OpenSpec.upto fnExactProofBeamIsSpec)

/-- 'laws.FnBeamBack', WHERE WHAT IT READS IS OF BULK AT MOST 1048576: true; the input reads as it did. -/
def fnBeamBackUptoRow : OpenClaim := { program := "ytlkdobnfoimieaa", sum := "d6690db027824c0d61d500fb7acbd1ad1eb4ae81b2a3ad577ea343611e1fdc28", func := "loop.example/mirrorgrids/laws.FnBeamBack", spec := "fnBeamBack", apart := false, narrowed := true }
def FnBeamBackUptoSaid : Prop := fnBeamBackUptoRow.holds Try.pinned (OpenSpec.upto fnBeamBackSpec)

/-- 'laws.FnProofBeam', WHERE WHAT IT READS IS OF BULK AT MOST 1048576: true; the input reads as it did. -/
def fnProofBeamUptoRow : OpenClaim := { program := "ytlkdobnfoimieaa", sum := "d6690db027824c0d61d500fb7acbd1ad1eb4ae81b2a3ad577ea343611e1fdc28", func := "loop.example/mirrorgrids/laws.FnProofBeam", spec := "fnProofBeam", apart := false, narrowed := true }
def FnProofBeamUptoSaid : Prop := fnProofBeamUptoRow.holds Try.pinned (OpenSpec.upto fnProofBeamSpec)

/-- 'laws.FnBeamIs', WHERE WHAT IT READS IS OF BULK AT MOST 1048576: true; the input reads as it did. -/
def fnBeamIsUptoRow : OpenClaim := { program := "ytlkdobnfoimieaa", sum := "d6690db027824c0d61d500fb7acbd1ad1eb4ae81b2a3ad577ea343611e1fdc28", func := "loop.example/mirrorgrids/laws.FnBeamIs", spec := "fnBeamIs", apart := false, narrowed := true }
def FnBeamIsUptoSaid : Prop := fnBeamIsUptoRow.holds Try.pinned (OpenSpec.upto fnBeamIsSpec)

end Rows
end Go.Proofs.Ytlkdobnfoimieaa
