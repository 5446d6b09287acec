/-
  DERIVED. GIVEN WITH THE SEED: THE CARDS: each row of YtjclfbcofclopaaDoorRows.lean that lists a variable, with what it lists TIED to the program's text (the seventh form; the later family's looks); each row that meets fmt, with fmt's text TOLD by the authors' own Lean function (tested against real Go, not proved from fmt's source: count such statements apart). THE CARD IS WHAT COUNTS. Prove the row's statement (the work); the ties are given (YtjclfbcofclopaaDoorTie.lean); close each card by the builder's one call (the guide's Derived/Test/ToyasCard.lean, 'card_holds'). Laid BY PROGRAM, IN A SANDBOX (cutbox-door.mjs). By AI agents, Wed Nov 11 2026. No macro, syntax, notation, axiom, sorry.
-/
import Derived.Test.YtjclfbcofclopaaDoorRows
import GoSem.ClaimSeven
namespace Go.Proofs.YtjclfbcofclopaaDoor
namespace Rows

/-- THE TIED CARD OF 'laws.FnExactTransducerText'. -/
def fnExactTransducerTextCard : Claim7 := { stood := { row := fnExactTransducerTextRow, standIns := [], harness := (true, "8a5931706a185981572694e0b4848c9037f476c311f4a470f80e2a1a48309b41"), looks := true }, kinds := [], alts := [], laidByText := true, laidKinds := [.data, .data, .data], laidTests := true, laidLooks := .later }
def FnExactTransducerTextCardSaid : Prop := Claim7.holds Tryd.pinned (.plain (OpenSpec.ofChange fnExactTransducerTextSpec)) fnExactTransducerTextCard

/-- THE TIED CARD OF 'laws.FnExactRunScribe'. -/
def fnExactRunScribeCard : Claim7 := { stood := { row := fnExactRunScribeRow, standIns := [], harness := (true, "8a5931706a185981572694e0b4848c9037f476c311f4a470f80e2a1a48309b41"), looks := true }, kinds := [], alts := [], laidByText := true, laidKinds := [.data, .pinned], laidTests := true, laidLooks := .later }
def FnExactRunScribeCardSaid : Prop := Claim7.holds Tryd.pinned (.plain (OpenSpec.ofChange fnExactRunScribeSpec)) fnExactRunScribeCard

/-- THE TIED CARD OF 'laws.FnBehind'. -/
def fnBehindCard : Claim7 := { stood := { row := fnBehindRow, standIns := [], harness := (true, "8a5931706a185981572694e0b4848c9037f476c311f4a470f80e2a1a48309b41"), looks := true }, kinds := [], alts := [], laidByText := true, laidKinds := [.data, .pinned], laidTests := true, laidLooks := .later }
def FnBehindCardSaid : Prop := Claim7.holds Tryd.pinned (.plain (OpenSpec.ofChange fnBehindSpec)) fnBehindCard

/-- THE TIED CARD OF 'laws.FnExactRelates'. -/
def fnExactRelatesCard : Claim7 := { stood := { row := fnExactRelatesRow, standIns := [], harness := (true, "8a5931706a185981572694e0b4848c9037f476c311f4a470f80e2a1a48309b41"), looks := true }, kinds := [], alts := [], laidByText := true, laidKinds := [.data, .pinned], laidTests := true, laidLooks := .later }
def FnExactRelatesCardSaid : Prop := Claim7.holds Tryd.pinned (.plain (OpenSpec.ofChange fnExactRelatesSpec)) fnExactRelatesCard

/-- THE TIED CARD OF 'laws.FnChained'. -/
def fnChainedCard : Claim7 := { stood := { row := fnChainedRow, standIns := [], harness := (true, "8a5931706a185981572694e0b4848c9037f476c311f4a470f80e2a1a48309b41"), looks := true }, kinds := [], alts := [], laidByText := true, laidKinds := [.data, .pinned], laidTests := true, laidLooks := .later }
def FnChainedCardSaid : Prop := Claim7.holds Tryd.pinned (.plain (OpenSpec.ofChange fnChainedSpec)) fnChainedCard

/-- THE TIED CARD OF 'laws.FnExactReadDeed'. -/
def fnExactReadDeedCard : Claim7 := { stood := { row := fnExactReadDeedRow, standIns := [], harness := (true, "8a5931706a185981572694e0b4848c9037f476c311f4a470f80e2a1a48309b41"), looks := true }, kinds := [], alts := [], laidByText := true, laidKinds := [.data, .data, .data, .sentinel, .sentinel], laidTests := true, laidLooks := .later }
def FnExactReadDeedCardSaid : Prop := Claim7.holds Tryd.pinned (.plain (OpenSpec.ofChange fnExactReadDeedSpec)) fnExactReadDeedCard

/-- THE TIED CARD OF 'laws.FnExactImagesOf'. -/
def fnExactImagesOfCard : Claim7 := { stood := { row := fnExactImagesOfRow, standIns := [], harness := (true, "8a5931706a185981572694e0b4848c9037f476c311f4a470f80e2a1a48309b41"), looks := true }, kinds := [], alts := [], laidByText := true, laidKinds := [.data, .pinned], laidTests := true, laidLooks := .later }
def FnExactImagesOfCardSaid : Prop := Claim7.holds Tryd.pinned (.plain (OpenSpec.ofChange fnExactImagesOfSpec)) fnExactImagesOfCard

/-- THE TIED CARD OF 'laws.FnFunctional'. -/
def fnFunctionalCard : Claim7 := { stood := { row := fnFunctionalRow, standIns := [], harness := (true, "8a5931706a185981572694e0b4848c9037f476c311f4a470f80e2a1a48309b41"), looks := true }, kinds := [], alts := [], laidByText := true, laidKinds := [.data, .pinned], laidTests := true, laidLooks := .later }
def FnFunctionalCardSaid : Prop := Claim7.holds Tryd.pinned (.plain (OpenSpec.ofChange fnFunctionalSpec)) fnFunctionalCard

/-- THE SECOND FORM's CARD OF 'laws.FnExactTransducerText'. -/
def fnExactTransducerTextUptoCard : Claim7 := { stood := { row := fnExactTransducerTextUptoRow, standIns := [], harness := (true, "8a5931706a185981572694e0b4848c9037f476c311f4a470f80e2a1a48309b41"), looks := true }, kinds := [], alts := [], laidByText := true, laidKinds := [.data, .data, .data], laidTests := true, laidLooks := .later }
def FnExactTransducerTextUptoCardSaid : Prop := Claim7.holds Tryd.pinned (.plain (OpenSpec.upto fnExactTransducerTextSpec)) fnExactTransducerTextUptoCard

/-- THE SECOND FORM's CARD OF 'laws.FnExactRunScribe'. -/
def fnExactRunScribeUptoCard : Claim7 := { stood := { row := fnExactRunScribeUptoRow, standIns := [], harness := (true, "8a5931706a185981572694e0b4848c9037f476c311f4a470f80e2a1a48309b41"), looks := true }, kinds := [], alts := [], laidByText := true, laidKinds := [.data, .pinned], laidTests := true, laidLooks := .later }
def FnExactRunScribeUptoCardSaid : Prop := Claim7.holds Tryd.pinned (.plain (OpenSpec.upto fnExactRunScribeSpec)) fnExactRunScribeUptoCard

/-- THE SECOND FORM's CARD OF 'laws.FnBehind'. -/
def fnBehindUptoCard : Claim7 := { stood := { row := fnBehindUptoRow, standIns := [], harness := (true, "8a5931706a185981572694e0b4848c9037f476c311f4a470f80e2a1a48309b41"), looks := true }, kinds := [], alts := [], laidByText := true, laidKinds := [.data, .pinned], laidTests := true, laidLooks := .later }
def FnBehindUptoCardSaid : Prop := Claim7.holds Tryd.pinned (.plain (OpenSpec.upto fnBehindSpec)) fnBehindUptoCard

/-- THE SECOND FORM's CARD OF 'laws.FnExactRelates'. -/
def fnExactRelatesUptoCard : Claim7 := { stood := { row := fnExactRelatesUptoRow, standIns := [], harness := (true, "8a5931706a185981572694e0b4848c9037f476c311f4a470f80e2a1a48309b41"), looks := true }, kinds := [], alts := [], laidByText := true, laidKinds := [.data, .pinned], laidTests := true, laidLooks := .later }
def FnExactRelatesUptoCardSaid : Prop := Claim7.holds Tryd.pinned (.plain (OpenSpec.upto fnExactRelatesSpec)) fnExactRelatesUptoCard

/-- THE SECOND FORM's CARD OF 'laws.FnChained'. -/
def fnChainedUptoCard : Claim7 := { stood := { row := fnChainedUptoRow, standIns := [], harness := (true, "8a5931706a185981572694e0b4848c9037f476c311f4a470f80e2a1a48309b41"), looks := true }, kinds := [], alts := [], laidByText := true, laidKinds := [.data, .pinned], laidTests := true, laidLooks := .later }
def FnChainedUptoCardSaid : Prop := Claim7.holds Tryd.pinned (.plain (OpenSpec.upto fnChainedSpec)) fnChainedUptoCard

/-- THE SECOND FORM's CARD OF 'laws.FnExactReadDeed'. -/
def fnExactReadDeedUptoCard : Claim7 := { stood := { row := fnExactReadDeedUptoRow, standIns := [], harness := (true, "8a5931706a185981572694e0b4848c9037f476c311f4a470f80e2a1a48309b41"), looks := true }, kinds := [], alts := [], laidByText := true, laidKinds := [.data, .data, .data, .sentinel, .sentinel], laidTests := true, laidLooks := .later }
def FnExactReadDeedUptoCardSaid : Prop := Claim7.holds Tryd.pinned (.plain (OpenSpec.upto fnExactReadDeedSpec)) fnExactReadDeedUptoCard

/-- THE SECOND FORM's CARD OF 'laws.FnExactImagesOf'. -/
def fnExactImagesOfUptoCard : Claim7 := { stood := { row := fnExactImagesOfUptoRow, standIns := [], harness := (true, "8a5931706a185981572694e0b4848c9037f476c311f4a470f80e2a1a48309b41"), looks := true }, kinds := [], alts := [], laidByText := true, laidKinds := [.data, .pinned], laidTests := true, laidLooks := .later }
def FnExactImagesOfUptoCardSaid : Prop := Claim7.holds Tryd.pinned (.plain (OpenSpec.upto fnExactImagesOfSpec)) fnExactImagesOfUptoCard

/-- THE SECOND FORM's CARD OF 'laws.FnFunctional'. -/
def fnFunctionalUptoCard : Claim7 := { stood := { row := fnFunctionalUptoRow, standIns := [], harness := (true, "8a5931706a185981572694e0b4848c9037f476c311f4a470f80e2a1a48309b41"), looks := true }, kinds := [], alts := [], laidByText := true, laidKinds := [.data, .pinned], laidTests := true, laidLooks := .later }
def FnFunctionalUptoCardSaid : Prop := Claim7.holds Tryd.pinned (.plain (OpenSpec.upto fnFunctionalSpec)) fnFunctionalUptoCard
end Rows
end Go.Proofs.YtjclfbcofclopaaDoor
