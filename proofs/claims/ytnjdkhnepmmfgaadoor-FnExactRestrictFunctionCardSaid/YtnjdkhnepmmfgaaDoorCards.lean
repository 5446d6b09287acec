/-
  DERIVED. GIVEN WITH THE SEED: THE CARDS: each row of YtnjdkhnepmmfgaaDoorRows.lean that lists a variable, with what it lists TIED to the program's text (the seventh form; the later family's looks); each row that meets fmt, with fmt's text TOLD by the authors' own Lean function (tested against real Go, not proved from fmt's source: count such statements apart). THE CARD IS WHAT COUNTS. Prove the row's statement (the work); the ties are given (YtnjdkhnepmmfgaaDoorTie.lean); close each card by the builder's one call (the guide's Derived/Test/ToyasCard.lean, 'card_holds'). Laid BY PROGRAM, IN A SANDBOX (cutbox-door.mjs). By AI agents, Wed Nov 11 2026. No macro, syntax, notation, axiom, sorry.
-/
import Derived.Test.YtnjdkhnepmmfgaaDoorRows
import GoSem.ClaimSeven
namespace Go.Proofs.YtnjdkhnepmmfgaaDoor
namespace Rows

/-- THE TIED CARD OF 'laws.FnExactRestrictFunction'. -/
def fnExactRestrictFunctionCard : Claim7 := { stood := { row := fnExactRestrictFunctionRow, standIns := [], harness := (true, "0068d5a150a074a4f92c5fd215a46a5fc3c7f104f476b5cf36f5e1ed669cf291"), looks := false }, kinds := [], alts := [], laidByText := true, laidKinds := [.data, .data, .data], laidTests := true, laidLooks := .later }
def FnExactRestrictFunctionCardSaid : Prop := Claim7.holds Tryd.pinned (.plain (OpenSpec.ofChange fnExactRestrictFunctionSpec)) fnExactRestrictFunctionCard

/-- THE TIED CARD OF 'laws.FnExactScribeOf'. -/
def fnExactScribeOfCard : Claim7 := { stood := { row := fnExactScribeOfRow, standIns := [], harness := (true, "0068d5a150a074a4f92c5fd215a46a5fc3c7f104f476b5cf36f5e1ed669cf291"), looks := false }, kinds := [], alts := [], laidByText := true, laidKinds := [.data, .data, .data], laidTests := true, laidLooks := .later }
def FnExactScribeOfCardSaid : Prop := Claim7.holds Tryd.pinned (.plain (OpenSpec.ofChange fnExactScribeOfSpec)) fnExactScribeOfCard

/-- THE TIED CARD OF 'laws.FnExactRelationOfScribe'. -/
def fnExactRelationOfScribeCard : Claim7 := { stood := { row := fnExactRelationOfScribeRow, standIns := [], harness := (true, "0068d5a150a074a4f92c5fd215a46a5fc3c7f104f476b5cf36f5e1ed669cf291"), looks := false }, kinds := [], alts := [], laidByText := true, laidKinds := [.data, .data, .data], laidTests := true, laidLooks := .later }
def FnExactRelationOfScribeCardSaid : Prop := Claim7.holds Tryd.pinned (.plain (OpenSpec.ofChange fnExactRelationOfScribeSpec)) fnExactRelationOfScribeCard

/-- THE SECOND FORM's CARD OF 'laws.FnExactRestrictFunction'. -/
def fnExactRestrictFunctionUptoCard : Claim7 := { stood := { row := fnExactRestrictFunctionUptoRow, standIns := [], harness := (true, "0068d5a150a074a4f92c5fd215a46a5fc3c7f104f476b5cf36f5e1ed669cf291"), looks := false }, kinds := [], alts := [], laidByText := true, laidKinds := [.data, .data, .data], laidTests := true, laidLooks := .later }
def FnExactRestrictFunctionUptoCardSaid : Prop := Claim7.holds Tryd.pinned (.plain (OpenSpec.upto fnExactRestrictFunctionSpec)) fnExactRestrictFunctionUptoCard

/-- THE SECOND FORM's CARD OF 'laws.FnExactScribeOf'. -/
def fnExactScribeOfUptoCard : Claim7 := { stood := { row := fnExactScribeOfUptoRow, standIns := [], harness := (true, "0068d5a150a074a4f92c5fd215a46a5fc3c7f104f476b5cf36f5e1ed669cf291"), looks := false }, kinds := [], alts := [], laidByText := true, laidKinds := [.data, .data, .data], laidTests := true, laidLooks := .later }
def FnExactScribeOfUptoCardSaid : Prop := Claim7.holds Tryd.pinned (.plain (OpenSpec.upto fnExactScribeOfSpec)) fnExactScribeOfUptoCard

/-- THE SECOND FORM's CARD OF 'laws.FnExactRelationOfScribe'. -/
def fnExactRelationOfScribeUptoCard : Claim7 := { stood := { row := fnExactRelationOfScribeUptoRow, standIns := [], harness := (true, "0068d5a150a074a4f92c5fd215a46a5fc3c7f104f476b5cf36f5e1ed669cf291"), looks := false }, kinds := [], alts := [], laidByText := true, laidKinds := [.data, .data, .data], laidTests := true, laidLooks := .later }
def FnExactRelationOfScribeUptoCardSaid : Prop := Claim7.holds Tryd.pinned (.plain (OpenSpec.upto fnExactRelationOfScribeSpec)) fnExactRelationOfScribeUptoCard
end Rows
end Go.Proofs.YtnjdkhnepmmfgaaDoor
