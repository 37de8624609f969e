/-
  DERIVED. GIVEN WITH THE SEED: THE CARDS: each row of YtplkdeknjghobaaGreatDoorRows.lean that lists a variable, with what it lists TIED to the program's text (the seventh form; the later family's looks); each row that meets fmt, with fmt's text TOLD by the authors' own Lean function (tested against real Go, not proved from fmt's source: count such statements apart). THE CARD IS WHAT COUNTS. Prove the row's statement (the work); the ties are given (YtplkdeknjghobaaGreatDoorTie.lean); close each card by the builder's one call (the guide's Derived/Test/ToyasCard.lean, 'card_holds'). Laid BY PROGRAM, IN A SANDBOX (cutbox-door.mjs). By AI agents, Wed Nov 11 2026. No macro, syntax, notation, axiom, sorry.
-/
import Derived.Test.YtplkdeknjghobaaGreatDoorRows
import GoSem.ClaimSeven
namespace Go.Proofs.YtplkdeknjghobaaGreatDoor
namespace Rows

/-- THE TIED CARD OF 'verdigrislaw32.FitBest'. -/
def fitBestCard : Claim7 := { stood := { row := fitBestRow, standIns := [], harness := (true, "9b05d2fc1ff85d5dc0477f326f390b72a370e4f499729e5259227d07228ba241"), looks := true }, kinds := [], alts := [], laidByText := true, laidKinds := [.data, .data, .data, .sentinel, .sentinel], laidTests := true, laidLooks := .later }
def FitBestCardSaid : Prop := Claim7.holds Tryz.pinned (.plain (OpenSpec.ofChange fitBestSpec)) fitBestCard

/-- THE TIED CARD OF 'verdigrislaw32.FitFits'. -/
def fitFitsCard : Claim7 := { stood := { row := fitFitsRow, standIns := [], harness := (true, "9b05d2fc1ff85d5dc0477f326f390b72a370e4f499729e5259227d07228ba241"), looks := true }, kinds := [], alts := [], laidByText := true, laidKinds := [.data, .data, .data, .sentinel, .sentinel], laidTests := true, laidLooks := .later }
def FitFitsCardSaid : Prop := Claim7.holds Tryz.pinned (.plain (OpenSpec.ofChange fitFitsSpec)) fitFitsCard

/-- THE TIED CARD OF 'verdigrislaw32.FitExact'. -/
def fitExactCard : Claim7 := { stood := { row := fitExactRow, standIns := [], harness := (true, "9b05d2fc1ff85d5dc0477f326f390b72a370e4f499729e5259227d07228ba241"), looks := true }, kinds := [], alts := [], laidByText := true, laidKinds := [.data, .data, .data, .sentinel, .sentinel], laidTests := true, laidLooks := .later }
def FitExactCardSaid : Prop := Claim7.holds Tryz.pinned (.plain (OpenSpec.ofChange fitExactSpec)) fitExactCard

/-- THE TIED CARD OF 'verdigrislaw32.FitSums'. -/
def fitSumsCard : Claim7 := { stood := { row := fitSumsRow, standIns := [], harness := (true, "9b05d2fc1ff85d5dc0477f326f390b72a370e4f499729e5259227d07228ba241"), looks := true }, kinds := [], alts := [], laidByText := true, laidKinds := [.data, .data, .data, .sentinel, .sentinel], laidTests := true, laidLooks := .later }
def FitSumsCardSaid : Prop := Claim7.holds Tryz.pinned (.plain (OpenSpec.ofChange fitSumsSpec)) fitSumsCard

/-- THE TIED CARD OF 'verdigrislaw32.FitElements'. -/
def fitElementsCard : Claim7 := { stood := { row := fitElementsRow, standIns := [], harness := (true, "9b05d2fc1ff85d5dc0477f326f390b72a370e4f499729e5259227d07228ba241"), looks := true }, kinds := [], alts := [], laidByText := true, laidKinds := [.data, .data, .data, .sentinel, .sentinel], laidTests := true, laidLooks := .later }
def FitElementsCardSaid : Prop := Claim7.holds Tryz.pinned (.plain (OpenSpec.ofChange fitElementsSpec)) fitElementsCard

/-- THE TIED CARD OF 'verdigrislaw32.FitResiduals'. -/
def fitResidualsCard : Claim7 := { stood := { row := fitResidualsRow, standIns := [], harness := (true, "9b05d2fc1ff85d5dc0477f326f390b72a370e4f499729e5259227d07228ba241"), looks := true }, kinds := [], alts := [], laidByText := true, laidKinds := [.data, .data, .data, .sentinel, .sentinel], laidTests := true, laidLooks := .later }
def FitResidualsCardSaid : Prop := Claim7.holds Tryz.pinned (.plain (OpenSpec.ofChange fitResidualsSpec)) fitResidualsCard

/-- THE TIED CARD OF 'verdigrislaw32.FitTerms'. -/
def fitTermsCard : Claim7 := { stood := { row := fitTermsRow, standIns := [], harness := (true, "9b05d2fc1ff85d5dc0477f326f390b72a370e4f499729e5259227d07228ba241"), looks := true }, kinds := [], alts := [], laidByText := true, laidKinds := [.data, .data, .data, .sentinel, .sentinel], laidTests := true, laidLooks := .later }
def FitTermsCardSaid : Prop := Claim7.holds Tryz.pinned (.plain (OpenSpec.ofChange fitTermsSpec)) fitTermsCard

/-- THE TIED CARD OF 'verdigrislaw32.FitKnown'. -/
def fitKnownCard : Claim7 := { stood := { row := fitKnownRow, standIns := [], harness := (true, "9b05d2fc1ff85d5dc0477f326f390b72a370e4f499729e5259227d07228ba241"), looks := true }, kinds := [], alts := [], laidByText := true, laidKinds := [.data, .data, .data, .sentinel, .sentinel], laidTests := true, laidLooks := .later }
def FitKnownCardSaid : Prop := Claim7.holds Tryz.pinned (.plain (OpenSpec.ofChange fitKnownSpec)) fitKnownCard

/-- THE SECOND FORM's CARD OF 'verdigrislaw32.FitBest'. -/
def fitBestUptoCard : Claim7 := { stood := { row := fitBestUptoRow, standIns := [], harness := (true, "9b05d2fc1ff85d5dc0477f326f390b72a370e4f499729e5259227d07228ba241"), looks := true }, kinds := [], alts := [], laidByText := true, laidKinds := [.data, .data, .data, .sentinel, .sentinel], laidTests := true, laidLooks := .later }
def FitBestUptoCardSaid : Prop := Claim7.holds Tryz.pinned (.plain (OpenSpec.upto fitBestSpec)) fitBestUptoCard

/-- THE SECOND FORM's CARD OF 'verdigrislaw32.FitFits'. -/
def fitFitsUptoCard : Claim7 := { stood := { row := fitFitsUptoRow, standIns := [], harness := (true, "9b05d2fc1ff85d5dc0477f326f390b72a370e4f499729e5259227d07228ba241"), looks := true }, kinds := [], alts := [], laidByText := true, laidKinds := [.data, .data, .data, .sentinel, .sentinel], laidTests := true, laidLooks := .later }
def FitFitsUptoCardSaid : Prop := Claim7.holds Tryz.pinned (.plain (OpenSpec.upto fitFitsSpec)) fitFitsUptoCard

/-- THE SECOND FORM's CARD OF 'verdigrislaw32.FitExact'. -/
def fitExactUptoCard : Claim7 := { stood := { row := fitExactUptoRow, standIns := [], harness := (true, "9b05d2fc1ff85d5dc0477f326f390b72a370e4f499729e5259227d07228ba241"), looks := true }, kinds := [], alts := [], laidByText := true, laidKinds := [.data, .data, .data, .sentinel, .sentinel], laidTests := true, laidLooks := .later }
def FitExactUptoCardSaid : Prop := Claim7.holds Tryz.pinned (.plain (OpenSpec.upto fitExactSpec)) fitExactUptoCard

/-- THE SECOND FORM's CARD OF 'verdigrislaw32.FitSums'. -/
def fitSumsUptoCard : Claim7 := { stood := { row := fitSumsUptoRow, standIns := [], harness := (true, "9b05d2fc1ff85d5dc0477f326f390b72a370e4f499729e5259227d07228ba241"), looks := true }, kinds := [], alts := [], laidByText := true, laidKinds := [.data, .data, .data, .sentinel, .sentinel], laidTests := true, laidLooks := .later }
def FitSumsUptoCardSaid : Prop := Claim7.holds Tryz.pinned (.plain (OpenSpec.upto fitSumsSpec)) fitSumsUptoCard

/-- THE SECOND FORM's CARD OF 'verdigrislaw32.FitElements'. -/
def fitElementsUptoCard : Claim7 := { stood := { row := fitElementsUptoRow, standIns := [], harness := (true, "9b05d2fc1ff85d5dc0477f326f390b72a370e4f499729e5259227d07228ba241"), looks := true }, kinds := [], alts := [], laidByText := true, laidKinds := [.data, .data, .data, .sentinel, .sentinel], laidTests := true, laidLooks := .later }
def FitElementsUptoCardSaid : Prop := Claim7.holds Tryz.pinned (.plain (OpenSpec.upto fitElementsSpec)) fitElementsUptoCard

/-- THE SECOND FORM's CARD OF 'verdigrislaw32.FitResiduals'. -/
def fitResidualsUptoCard : Claim7 := { stood := { row := fitResidualsUptoRow, standIns := [], harness := (true, "9b05d2fc1ff85d5dc0477f326f390b72a370e4f499729e5259227d07228ba241"), looks := true }, kinds := [], alts := [], laidByText := true, laidKinds := [.data, .data, .data, .sentinel, .sentinel], laidTests := true, laidLooks := .later }
def FitResidualsUptoCardSaid : Prop := Claim7.holds Tryz.pinned (.plain (OpenSpec.upto fitResidualsSpec)) fitResidualsUptoCard

/-- THE SECOND FORM's CARD OF 'verdigrislaw32.FitTerms'. -/
def fitTermsUptoCard : Claim7 := { stood := { row := fitTermsUptoRow, standIns := [], harness := (true, "9b05d2fc1ff85d5dc0477f326f390b72a370e4f499729e5259227d07228ba241"), looks := true }, kinds := [], alts := [], laidByText := true, laidKinds := [.data, .data, .data, .sentinel, .sentinel], laidTests := true, laidLooks := .later }
def FitTermsUptoCardSaid : Prop := Claim7.holds Tryz.pinned (.plain (OpenSpec.upto fitTermsSpec)) fitTermsUptoCard

/-- THE SECOND FORM's CARD OF 'verdigrislaw32.FitKnown'. -/
def fitKnownUptoCard : Claim7 := { stood := { row := fitKnownUptoRow, standIns := [], harness := (true, "9b05d2fc1ff85d5dc0477f326f390b72a370e4f499729e5259227d07228ba241"), looks := true }, kinds := [], alts := [], laidByText := true, laidKinds := [.data, .data, .data, .sentinel, .sentinel], laidTests := true, laidLooks := .later }
def FitKnownUptoCardSaid : Prop := Claim7.holds Tryz.pinned (.plain (OpenSpec.upto fitKnownSpec)) fitKnownUptoCard
end Rows
end Go.Proofs.YtplkdeknjghobaaGreatDoor
