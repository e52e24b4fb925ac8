/-
  DERIVED. GIVEN WITH THE SEED: THE CARDS: each row of YtmhmdlgcdeodmaaDoorRows.lean that lists a variable, with what it lists TIED to the program's text (the seventh form; the later family's looks); each row that meets fmt, with fmt's text TOLD by the authors' own Lean function (tested against real Go, not proved from fmt's source: count such statements apart). THE CARD IS WHAT COUNTS. Prove the row's statement (the work); the ties are given (YtmhmdlgcdeodmaaDoorTie.lean); close each card by the builder's one call (the guide's Derived/Test/ToyasCard.lean, 'card_holds'). Laid BY PROGRAM, IN A SANDBOX (cutbox-door.mjs). By AI agents, Wed Nov 11 2026. No macro, syntax, notation, axiom, sorry.
-/
import Derived.Test.YtmhmdlgcdeodmaaDoorRows
import GoSem.ClaimSeven
namespace Go.Proofs.YtmhmdlgcdeodmaaDoor
namespace Rows

/-- THE TIED CARD OF 'laws.FnProofEither'. -/
def fnProofEitherCard : Claim7 := { stood := { row := fnProofEitherRow, standIns := [], harness := (true, "ddb4956f3eac43d633a907f10a7095602daaea372f44afe155c0a73b6f563393"), looks := false }, kinds := [], alts := [], laidByText := true, laidKinds := [.data, .data, .data], laidTests := true, laidLooks := .later }
def FnProofEitherCardSaid : Prop := Claim7.holds Tryd.pinned (.plain (OpenSpec.ofChange fnProofEitherSpec)) fnProofEitherCard

/-- THE TIED CARD OF 'laws.FnNoneIs'. -/
def fnNoneIsCard : Claim7 := { stood := { row := fnNoneIsRow, standIns := [], harness := (true, "ddb4956f3eac43d633a907f10a7095602daaea372f44afe155c0a73b6f563393"), looks := false }, kinds := [], alts := [], laidByText := true, laidKinds := [.data, .data, .data], laidTests := true, laidLooks := .later }
def FnNoneIsCardSaid : Prop := Claim7.holds Tryd.pinned (.plain (OpenSpec.ofChange fnNoneIsSpec)) fnNoneIsCard

/-- THE TIED CARD OF 'laws.FnProofRound'. -/
def fnProofRoundCard : Claim7 := { stood := { row := fnProofRoundRow, standIns := [], harness := (true, "ddb4956f3eac43d633a907f10a7095602daaea372f44afe155c0a73b6f563393"), looks := false }, kinds := [], alts := [], laidByText := true, laidKinds := [.data, .data, .data], laidTests := true, laidLooks := .later }
def FnProofRoundCardSaid : Prop := Claim7.holds Tryd.pinned (.plain (OpenSpec.ofChange fnProofRoundSpec)) fnProofRoundCard

/-- THE TIED CARD OF 'laws.FnExactProofRoundIs'. -/
def fnExactProofRoundIsCard : Claim7 := { stood := { row := fnExactProofRoundIsRow, standIns := [], harness := (true, "ddb4956f3eac43d633a907f10a7095602daaea372f44afe155c0a73b6f563393"), looks := false }, kinds := [], alts := [], laidByText := true, laidKinds := [.data, .data, .data], laidTests := true, laidLooks := .later }
def FnExactProofRoundIsCardSaid : Prop := Claim7.holds Tryd.pinned (.plain (OpenSpec.ofChange fnExactProofRoundIsSpec)) fnExactProofRoundIsCard

/-- THE TIED CARD OF 'laws.FnExactProofRound'. -/
def fnExactProofRoundCard : Claim7 := { stood := { row := fnExactProofRoundRow, standIns := [], harness := (true, "ddb4956f3eac43d633a907f10a7095602daaea372f44afe155c0a73b6f563393"), looks := false }, kinds := [], alts := [], laidByText := true, laidKinds := [.data, .data, .data], laidTests := true, laidLooks := .later }
def FnExactProofRoundCardSaid : Prop := Claim7.holds Tryd.pinned (.plain (OpenSpec.ofChange fnExactProofRoundSpec)) fnExactProofRoundCard

/-- THE TIED CARD OF 'laws.FnExactProofNone'. -/
def fnExactProofNoneCard : Claim7 := { stood := { row := fnExactProofNoneRow, standIns := [], harness := (true, "ddb4956f3eac43d633a907f10a7095602daaea372f44afe155c0a73b6f563393"), looks := false }, kinds := [], alts := [], laidByText := true, laidKinds := [.data, .data, .data], laidTests := true, laidLooks := .later }
def FnExactProofNoneCardSaid : Prop := Claim7.holds Tryd.pinned (.plain (OpenSpec.ofChange fnExactProofNoneSpec)) fnExactProofNoneCard

/-- THE TIED CARD OF 'laws.FnExactProofNoneIs'. -/
def fnExactProofNoneIsCard : Claim7 := { stood := { row := fnExactProofNoneIsRow, standIns := [], harness := (true, "ddb4956f3eac43d633a907f10a7095602daaea372f44afe155c0a73b6f563393"), looks := false }, kinds := [], alts := [], laidByText := true, laidKinds := [.data, .data, .data], laidTests := true, laidLooks := .later }
def FnExactProofNoneIsCardSaid : Prop := Claim7.holds Tryd.pinned (.plain (OpenSpec.ofChange fnExactProofNoneIsSpec)) fnExactProofNoneIsCard

/-- THE TIED CARD OF 'laws.FnRoundIs'. -/
def fnRoundIsCard : Claim7 := { stood := { row := fnRoundIsRow, standIns := [], harness := (true, "ddb4956f3eac43d633a907f10a7095602daaea372f44afe155c0a73b6f563393"), looks := false }, kinds := [], alts := [], laidByText := true, laidKinds := [.data, .data, .data], laidTests := true, laidLooks := .later }
def FnRoundIsCardSaid : Prop := Claim7.holds Tryd.pinned (.plain (OpenSpec.ofChange fnRoundIsSpec)) fnRoundIsCard

/-- THE TIED CARD OF 'laws.FnProofNone'. -/
def fnProofNoneCard : Claim7 := { stood := { row := fnProofNoneRow, standIns := [], harness := (true, "ddb4956f3eac43d633a907f10a7095602daaea372f44afe155c0a73b6f563393"), looks := false }, kinds := [], alts := [], laidByText := true, laidKinds := [.data, .data, .data], laidTests := true, laidLooks := .later }
def FnProofNoneCardSaid : Prop := Claim7.holds Tryd.pinned (.plain (OpenSpec.ofChange fnProofNoneSpec)) fnProofNoneCard

/-- THE SECOND FORM's CARD OF 'laws.FnProofEither'. -/
def fnProofEitherUptoCard : Claim7 := { stood := { row := fnProofEitherUptoRow, standIns := [], harness := (true, "ddb4956f3eac43d633a907f10a7095602daaea372f44afe155c0a73b6f563393"), looks := false }, kinds := [], alts := [], laidByText := true, laidKinds := [.data, .data, .data], laidTests := true, laidLooks := .later }
def FnProofEitherUptoCardSaid : Prop := Claim7.holds Tryd.pinned (.plain (OpenSpec.upto fnProofEitherSpec)) fnProofEitherUptoCard

/-- THE SECOND FORM's CARD OF 'laws.FnNoneIs'. -/
def fnNoneIsUptoCard : Claim7 := { stood := { row := fnNoneIsUptoRow, standIns := [], harness := (true, "ddb4956f3eac43d633a907f10a7095602daaea372f44afe155c0a73b6f563393"), looks := false }, kinds := [], alts := [], laidByText := true, laidKinds := [.data, .data, .data], laidTests := true, laidLooks := .later }
def FnNoneIsUptoCardSaid : Prop := Claim7.holds Tryd.pinned (.plain (OpenSpec.upto fnNoneIsSpec)) fnNoneIsUptoCard

/-- THE SECOND FORM's CARD OF 'laws.FnProofRound'. -/
def fnProofRoundUptoCard : Claim7 := { stood := { row := fnProofRoundUptoRow, standIns := [], harness := (true, "ddb4956f3eac43d633a907f10a7095602daaea372f44afe155c0a73b6f563393"), looks := false }, kinds := [], alts := [], laidByText := true, laidKinds := [.data, .data, .data], laidTests := true, laidLooks := .later }
def FnProofRoundUptoCardSaid : Prop := Claim7.holds Tryd.pinned (.plain (OpenSpec.upto fnProofRoundSpec)) fnProofRoundUptoCard

/-- THE SECOND FORM's CARD OF 'laws.FnExactProofRoundIs'. -/
def fnExactProofRoundIsUptoCard : Claim7 := { stood := { row := fnExactProofRoundIsUptoRow, standIns := [], harness := (true, "ddb4956f3eac43d633a907f10a7095602daaea372f44afe155c0a73b6f563393"), looks := false }, kinds := [], alts := [], laidByText := true, laidKinds := [.data, .data, .data], laidTests := true, laidLooks := .later }
def FnExactProofRoundIsUptoCardSaid : Prop := Claim7.holds Tryd.pinned (.plain (OpenSpec.upto fnExactProofRoundIsSpec)) fnExactProofRoundIsUptoCard

/-- THE SECOND FORM's CARD OF 'laws.FnExactProofRound'. -/
def fnExactProofRoundUptoCard : Claim7 := { stood := { row := fnExactProofRoundUptoRow, standIns := [], harness := (true, "ddb4956f3eac43d633a907f10a7095602daaea372f44afe155c0a73b6f563393"), looks := false }, kinds := [], alts := [], laidByText := true, laidKinds := [.data, .data, .data], laidTests := true, laidLooks := .later }
def FnExactProofRoundUptoCardSaid : Prop := Claim7.holds Tryd.pinned (.plain (OpenSpec.upto fnExactProofRoundSpec)) fnExactProofRoundUptoCard

/-- THE SECOND FORM's CARD OF 'laws.FnExactProofNone'. -/
def fnExactProofNoneUptoCard : Claim7 := { stood := { row := fnExactProofNoneUptoRow, standIns := [], harness := (true, "ddb4956f3eac43d633a907f10a7095602daaea372f44afe155c0a73b6f563393"), looks := false }, kinds := [], alts := [], laidByText := true, laidKinds := [.data, .data, .data], laidTests := true, laidLooks := .later }
def FnExactProofNoneUptoCardSaid : Prop := Claim7.holds Tryd.pinned (.plain (OpenSpec.upto fnExactProofNoneSpec)) fnExactProofNoneUptoCard

/-- THE SECOND FORM's CARD OF 'laws.FnExactProofNoneIs'. -/
def fnExactProofNoneIsUptoCard : Claim7 := { stood := { row := fnExactProofNoneIsUptoRow, standIns := [], harness := (true, "ddb4956f3eac43d633a907f10a7095602daaea372f44afe155c0a73b6f563393"), looks := false }, kinds := [], alts := [], laidByText := true, laidKinds := [.data, .data, .data], laidTests := true, laidLooks := .later }
def FnExactProofNoneIsUptoCardSaid : Prop := Claim7.holds Tryd.pinned (.plain (OpenSpec.upto fnExactProofNoneIsSpec)) fnExactProofNoneIsUptoCard

/-- THE SECOND FORM's CARD OF 'laws.FnRoundIs'. -/
def fnRoundIsUptoCard : Claim7 := { stood := { row := fnRoundIsUptoRow, standIns := [], harness := (true, "ddb4956f3eac43d633a907f10a7095602daaea372f44afe155c0a73b6f563393"), looks := false }, kinds := [], alts := [], laidByText := true, laidKinds := [.data, .data, .data], laidTests := true, laidLooks := .later }
def FnRoundIsUptoCardSaid : Prop := Claim7.holds Tryd.pinned (.plain (OpenSpec.upto fnRoundIsSpec)) fnRoundIsUptoCard

/-- THE SECOND FORM's CARD OF 'laws.FnProofNone'. -/
def fnProofNoneUptoCard : Claim7 := { stood := { row := fnProofNoneUptoRow, standIns := [], harness := (true, "ddb4956f3eac43d633a907f10a7095602daaea372f44afe155c0a73b6f563393"), looks := false }, kinds := [], alts := [], laidByText := true, laidKinds := [.data, .data, .data], laidTests := true, laidLooks := .later }
def FnProofNoneUptoCardSaid : Prop := Claim7.holds Tryd.pinned (.plain (OpenSpec.upto fnProofNoneSpec)) fnProofNoneUptoCard
end Rows
end Go.Proofs.YtmhmdlgcdeodmaaDoor
