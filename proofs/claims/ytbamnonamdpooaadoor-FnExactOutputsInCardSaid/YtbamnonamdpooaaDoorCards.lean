/-
  DERIVED. GIVEN WITH THE SEED: THE CARDS: each row of YtbamnonamdpooaaDoorRows.lean that lists a variable, with what it lists TIED to the program's text (the seventh form; the later family's looks); each row that meets fmt, with fmt's text TOLD by the authors' own Lean function (tested against real Go, not proved from fmt's source: count such statements apart). THE CARD IS WHAT COUNTS. Prove the row's statement (the work); the ties are given (YtbamnonamdpooaaDoorTie.lean); close each card by the builder's one call (the guide's Derived/Test/ToyasCard.lean, 'card_holds'). Laid BY PROGRAM, IN A SANDBOX (cutbox-door.mjs). By AI agents, Wed Nov 11 2026. No macro, syntax, notation, axiom, sorry.
-/
import Derived.Test.YtbamnonamdpooaaDoorRows
import GoSem.ClaimSeven
namespace Go.Proofs.YtbamnonamdpooaaDoor
namespace Rows

/-- THE TIED CARD OF 'laws.FnExactIsLetterwise'. -/
def fnExactIsLetterwiseCard : Claim7 := { stood := { row := fnExactIsLetterwiseRow, standIns := [], harness := (true, "5394e8975338e066a81e2b6abf546032484e2161aa5464c32db47c705b4a6457"), looks := false }, kinds := [], alts := [], laidByText := true, laidKinds := [.data, .data, .data], laidTests := true, laidLooks := .later }
def FnExactIsLetterwiseCardSaid : Prop := Claim7.holds Tryd.pinned (.plain (OpenSpec.ofChange fnExactIsLetterwiseSpec)) fnExactIsLetterwiseCard

/-- THE TIED CARD OF 'laws.FnExactRelationOfScribe'. -/
def fnExactRelationOfScribeCard : Claim7 := { stood := { row := fnExactRelationOfScribeRow, standIns := [], harness := (true, "5394e8975338e066a81e2b6abf546032484e2161aa5464c32db47c705b4a6457"), looks := false }, kinds := [], alts := [], laidByText := true, laidKinds := [.data, .data, .data], laidTests := true, laidLooks := .later }
def FnExactRelationOfScribeCardSaid : Prop := Claim7.holds Tryd.pinned (.plain (OpenSpec.ofChange fnExactRelationOfScribeSpec)) fnExactRelationOfScribeCard

/-- THE TIED CARD OF 'laws.FnExactInputsOf'. -/
def fnExactInputsOfCard : Claim7 := { stood := { row := fnExactInputsOfRow, standIns := [], harness := (true, "5394e8975338e066a81e2b6abf546032484e2161aa5464c32db47c705b4a6457"), looks := false }, kinds := [], alts := [], laidByText := true, laidKinds := [.data, .data, .data], laidTests := true, laidLooks := .later }
def FnExactInputsOfCardSaid : Prop := Claim7.holds Tryd.pinned (.plain (OpenSpec.ofChange fnExactInputsOfSpec)) fnExactInputsOfCard

/-- THE TIED CARD OF 'laws.FnExactTransducerOf'. -/
def fnExactTransducerOfCard : Claim7 := { stood := { row := fnExactTransducerOfRow, standIns := [], harness := (true, "5394e8975338e066a81e2b6abf546032484e2161aa5464c32db47c705b4a6457"), looks := false }, kinds := [], alts := [], laidByText := true, laidKinds := [.data, .data, .data], laidTests := true, laidLooks := .later }
def FnExactTransducerOfCardSaid : Prop := Claim7.holds Tryd.pinned (.plain (OpenSpec.ofChange fnExactTransducerOfSpec)) fnExactTransducerOfCard

/-- THE TIED CARD OF 'laws.FnExactOutputsOf'. -/
def fnExactOutputsOfCard : Claim7 := { stood := { row := fnExactOutputsOfRow, standIns := [], harness := (true, "5394e8975338e066a81e2b6abf546032484e2161aa5464c32db47c705b4a6457"), looks := false }, kinds := [], alts := [], laidByText := true, laidKinds := [.data, .data, .data], laidTests := true, laidLooks := .later }
def FnExactOutputsOfCardSaid : Prop := Claim7.holds Tryd.pinned (.plain (OpenSpec.ofChange fnExactOutputsOfSpec)) fnExactOutputsOfCard

/-- THE TIED CARD OF 'laws.FnExactRestrictFunction'. -/
def fnExactRestrictFunctionCard : Claim7 := { stood := { row := fnExactRestrictFunctionRow, standIns := [], harness := (true, "5394e8975338e066a81e2b6abf546032484e2161aa5464c32db47c705b4a6457"), looks := false }, kinds := [], alts := [], laidByText := true, laidKinds := [.data, .data, .data], laidTests := true, laidLooks := .later }
def FnExactRestrictFunctionCardSaid : Prop := Claim7.holds Tryd.pinned (.plain (OpenSpec.ofChange fnExactRestrictFunctionSpec)) fnExactRestrictFunctionCard

/-- THE TIED CARD OF 'laws.FnExactScribeOf'. -/
def fnExactScribeOfCard : Claim7 := { stood := { row := fnExactScribeOfRow, standIns := [], harness := (true, "5394e8975338e066a81e2b6abf546032484e2161aa5464c32db47c705b4a6457"), looks := false }, kinds := [], alts := [], laidByText := true, laidKinds := [.data, .data, .data], laidTests := true, laidLooks := .later }
def FnExactScribeOfCardSaid : Prop := Claim7.holds Tryd.pinned (.plain (OpenSpec.ofChange fnExactScribeOfSpec)) fnExactScribeOfCard

/-- THE TIED CARD OF 'laws.FnExactInputsIn'. -/
def fnExactInputsInCard : Claim7 := { stood := { row := fnExactInputsInRow, standIns := [], harness := (true, "5394e8975338e066a81e2b6abf546032484e2161aa5464c32db47c705b4a6457"), looks := false }, kinds := [], alts := [], laidByText := true, laidKinds := [.data, .data, .data], laidTests := true, laidLooks := .later }
def FnExactInputsInCardSaid : Prop := Claim7.holds Tryd.pinned (.plain (OpenSpec.ofChange fnExactInputsInSpec)) fnExactInputsInCard

/-- THE TIED CARD OF 'laws.FnExactOutputsIn'. -/
def fnExactOutputsInCard : Claim7 := { stood := { row := fnExactOutputsInRow, standIns := [], harness := (true, "5394e8975338e066a81e2b6abf546032484e2161aa5464c32db47c705b4a6457"), looks := false }, kinds := [], alts := [], laidByText := true, laidKinds := [.data, .data, .data], laidTests := true, laidLooks := .later }
def FnExactOutputsInCardSaid : Prop := Claim7.holds Tryd.pinned (.plain (OpenSpec.ofChange fnExactOutputsInSpec)) fnExactOutputsInCard

/-- THE SECOND FORM's CARD OF 'laws.FnExactIsLetterwise'. -/
def fnExactIsLetterwiseUptoCard : Claim7 := { stood := { row := fnExactIsLetterwiseUptoRow, standIns := [], harness := (true, "5394e8975338e066a81e2b6abf546032484e2161aa5464c32db47c705b4a6457"), looks := false }, kinds := [], alts := [], laidByText := true, laidKinds := [.data, .data, .data], laidTests := true, laidLooks := .later }
def FnExactIsLetterwiseUptoCardSaid : Prop := Claim7.holds Tryd.pinned (.plain (OpenSpec.upto fnExactIsLetterwiseSpec)) fnExactIsLetterwiseUptoCard

/-- THE SECOND FORM's CARD OF 'laws.FnExactRelationOfScribe'. -/
def fnExactRelationOfScribeUptoCard : Claim7 := { stood := { row := fnExactRelationOfScribeUptoRow, standIns := [], harness := (true, "5394e8975338e066a81e2b6abf546032484e2161aa5464c32db47c705b4a6457"), looks := false }, kinds := [], alts := [], laidByText := true, laidKinds := [.data, .data, .data], laidTests := true, laidLooks := .later }
def FnExactRelationOfScribeUptoCardSaid : Prop := Claim7.holds Tryd.pinned (.plain (OpenSpec.upto fnExactRelationOfScribeSpec)) fnExactRelationOfScribeUptoCard

/-- THE SECOND FORM's CARD OF 'laws.FnExactInputsOf'. -/
def fnExactInputsOfUptoCard : Claim7 := { stood := { row := fnExactInputsOfUptoRow, standIns := [], harness := (true, "5394e8975338e066a81e2b6abf546032484e2161aa5464c32db47c705b4a6457"), looks := false }, kinds := [], alts := [], laidByText := true, laidKinds := [.data, .data, .data], laidTests := true, laidLooks := .later }
def FnExactInputsOfUptoCardSaid : Prop := Claim7.holds Tryd.pinned (.plain (OpenSpec.upto fnExactInputsOfSpec)) fnExactInputsOfUptoCard

/-- THE SECOND FORM's CARD OF 'laws.FnExactTransducerOf'. -/
def fnExactTransducerOfUptoCard : Claim7 := { stood := { row := fnExactTransducerOfUptoRow, standIns := [], harness := (true, "5394e8975338e066a81e2b6abf546032484e2161aa5464c32db47c705b4a6457"), looks := false }, kinds := [], alts := [], laidByText := true, laidKinds := [.data, .data, .data], laidTests := true, laidLooks := .later }
def FnExactTransducerOfUptoCardSaid : Prop := Claim7.holds Tryd.pinned (.plain (OpenSpec.upto fnExactTransducerOfSpec)) fnExactTransducerOfUptoCard

/-- THE SECOND FORM's CARD OF 'laws.FnExactOutputsOf'. -/
def fnExactOutputsOfUptoCard : Claim7 := { stood := { row := fnExactOutputsOfUptoRow, standIns := [], harness := (true, "5394e8975338e066a81e2b6abf546032484e2161aa5464c32db47c705b4a6457"), looks := false }, kinds := [], alts := [], laidByText := true, laidKinds := [.data, .data, .data], laidTests := true, laidLooks := .later }
def FnExactOutputsOfUptoCardSaid : Prop := Claim7.holds Tryd.pinned (.plain (OpenSpec.upto fnExactOutputsOfSpec)) fnExactOutputsOfUptoCard

/-- THE SECOND FORM's CARD OF 'laws.FnExactRestrictFunction'. -/
def fnExactRestrictFunctionUptoCard : Claim7 := { stood := { row := fnExactRestrictFunctionUptoRow, standIns := [], harness := (true, "5394e8975338e066a81e2b6abf546032484e2161aa5464c32db47c705b4a6457"), looks := false }, kinds := [], alts := [], laidByText := true, laidKinds := [.data, .data, .data], laidTests := true, laidLooks := .later }
def FnExactRestrictFunctionUptoCardSaid : Prop := Claim7.holds Tryd.pinned (.plain (OpenSpec.upto fnExactRestrictFunctionSpec)) fnExactRestrictFunctionUptoCard

/-- THE SECOND FORM's CARD OF 'laws.FnExactScribeOf'. -/
def fnExactScribeOfUptoCard : Claim7 := { stood := { row := fnExactScribeOfUptoRow, standIns := [], harness := (true, "5394e8975338e066a81e2b6abf546032484e2161aa5464c32db47c705b4a6457"), looks := false }, kinds := [], alts := [], laidByText := true, laidKinds := [.data, .data, .data], laidTests := true, laidLooks := .later }
def FnExactScribeOfUptoCardSaid : Prop := Claim7.holds Tryd.pinned (.plain (OpenSpec.upto fnExactScribeOfSpec)) fnExactScribeOfUptoCard

/-- THE SECOND FORM's CARD OF 'laws.FnExactInputsIn'. -/
def fnExactInputsInUptoCard : Claim7 := { stood := { row := fnExactInputsInUptoRow, standIns := [], harness := (true, "5394e8975338e066a81e2b6abf546032484e2161aa5464c32db47c705b4a6457"), looks := false }, kinds := [], alts := [], laidByText := true, laidKinds := [.data, .data, .data], laidTests := true, laidLooks := .later }
def FnExactInputsInUptoCardSaid : Prop := Claim7.holds Tryd.pinned (.plain (OpenSpec.upto fnExactInputsInSpec)) fnExactInputsInUptoCard

/-- THE SECOND FORM's CARD OF 'laws.FnExactOutputsIn'. -/
def fnExactOutputsInUptoCard : Claim7 := { stood := { row := fnExactOutputsInUptoRow, standIns := [], harness := (true, "5394e8975338e066a81e2b6abf546032484e2161aa5464c32db47c705b4a6457"), looks := false }, kinds := [], alts := [], laidByText := true, laidKinds := [.data, .data, .data], laidTests := true, laidLooks := .later }
def FnExactOutputsInUptoCardSaid : Prop := Claim7.holds Tryd.pinned (.plain (OpenSpec.upto fnExactOutputsInSpec)) fnExactOutputsInUptoCard
end Rows
end Go.Proofs.YtbamnonamdpooaaDoor
