/- The tables that the rows list: the door's own heap meets the condition; the cards' ties. -/
import Derived.Test.YtmhmdlgcdeodmaaDoorCards
import Derived.Test.YtmhmdlgcdeodmaaDoorTie
import Derived.Test.YtmhmdlgcdeodmaaDoorChecked
import Derived.ProofKit
import Derived.LaidMore
import Derived.OpenShut
import Derived.Stop.Joined
import Derived.SevenTiedAt
namespace Go.Proofs.YtmhmdlgcdeodmaaDoor
set_option maxRecDepth 100000
set_option linter.unusedSimpArgs false
set_option linter.unusedVariables false
open Go
def laid3 : List (String × DataW Unit) := Rows.fnExactProofNoneRow.laid
theorem door_met (os : Os) (args : Array Value) : laidMetH Tryd.prog laid3 ((World.doorLaid Tryd.prog 24 os).forCall (fun _ _ => 0) ⟨#[], args, []⟩).memory :=
  laidMetH_of_parts3 (fuel := 8) (laidMet_of_run' 8 (by kernel_rfl) (by kernel_rfl)) (by kernel_rfl) (by kernel_rfl)
end Go.Proofs.YtmhmdlgcdeodmaaDoor
