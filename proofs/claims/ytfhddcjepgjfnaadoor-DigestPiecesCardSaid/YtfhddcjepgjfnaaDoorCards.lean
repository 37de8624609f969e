/-
  DERIVED. GIVEN WITH THE SEED: THE CARDS: each row of YtfhddcjepgjfnaaDoorRows.lean that lists a variable, with what it lists TIED to the program's text (the seventh form; the later family's looks); each row that meets fmt, with fmt's text TOLD by the authors' own Lean function (tested against real Go, not proved from fmt's source: count such statements apart). THE CARD IS WHAT COUNTS. Prove the row's statement (the work); the ties are given (YtfhddcjepgjfnaaDoorTie.lean); close each card by the builder's one call (the guide's Derived/Test/ToyasCard.lean, 'card_holds'). Laid BY PROGRAM, IN A SANDBOX (cutbox-door.mjs). By AI agents, Wed Nov 11 2026. No macro, syntax, notation, axiom, sorry.
-/
import Derived.Test.YtfhddcjepgjfnaaDoorRows
import GoSem.ClaimSeven
namespace Go.Proofs.YtfhddcjepgjfnaaDoor
namespace Rows

/-- THE TIED CARD OF 'verdigrislaw08.DigestSums'. -/
def digestSumsCard : Claim7 := { stood := { row := digestSumsRow, standIns := [], harness := (true, "5e31a7453354b1d803bfdbe8040ae386c7340f7b690da59b1bee9f3a5a1e1474"), looks := false }, kinds := [], alts := [], laidByText := true, laidKinds := [.data], laidTests := true, laidLooks := .later }
def DigestSumsCardSaid : Prop := Claim7.holds Tryd.pinned (.plain (OpenSpec.ofChange digestSumsSpec)) digestSumsCard

/-- THE TIED CARD OF 'verdigrislaw08.DigestTexts'. -/
def digestTextsCard : Claim7 := { stood := { row := digestTextsRow, standIns := [], harness := (true, "5e31a7453354b1d803bfdbe8040ae386c7340f7b690da59b1bee9f3a5a1e1474"), looks := false }, kinds := [], alts := [], laidByText := true, laidKinds := [.data], laidTests := true, laidLooks := .later }
def DigestTextsCardSaid : Prop := Claim7.holds Tryd.pinned (.plain (OpenSpec.ofChange digestTextsSpec)) digestTextsCard

/-- THE TIED CARD OF 'verdigrislaw08.DigestPieces'. -/
def digestPiecesCard : Claim7 := { stood := { row := digestPiecesRow, standIns := [], harness := (true, "5e31a7453354b1d803bfdbe8040ae386c7340f7b690da59b1bee9f3a5a1e1474"), looks := false }, kinds := [], alts := [], laidByText := true, laidKinds := [.data], laidTests := true, laidLooks := .later }
def DigestPiecesCardSaid : Prop := Claim7.holds Tryd.pinned (.plain (OpenSpec.ofChange digestPiecesSpec)) digestPiecesCard

/-- THE TIED CARD OF 'verdigrislaw08.DigestBack'. -/
def digestBackCard : Claim7 := { stood := { row := digestBackRow, standIns := [], harness := (true, "5e31a7453354b1d803bfdbe8040ae386c7340f7b690da59b1bee9f3a5a1e1474"), looks := false }, kinds := [], alts := [], laidByText := true, laidKinds := [.data], laidTests := true, laidLooks := .later }
def DigestBackCardSaid : Prop := Claim7.holds Tryd.pinned (.plain (OpenSpec.ofChange digestBackSpec)) digestBackCard

/-- THE TIED CARD OF 'verdigrislaw08.DigestExtends'. -/
def digestExtendsCard : Claim7 := { stood := { row := digestExtendsRow, standIns := [], harness := (true, "5e31a7453354b1d803bfdbe8040ae386c7340f7b690da59b1bee9f3a5a1e1474"), looks := false }, kinds := [], alts := [], laidByText := true, laidKinds := [.data], laidTests := true, laidLooks := .later }
def DigestExtendsCardSaid : Prop := Claim7.holds Tryd.pinned (.plain (OpenSpec.ofChange digestExtendsSpec)) digestExtendsCard

/-- THE TIED CARD OF 'verdigrislaw08.DigestKnown'. -/
def digestKnownCard : Claim7 := { stood := { row := digestKnownRow, standIns := [], harness := (true, "5e31a7453354b1d803bfdbe8040ae386c7340f7b690da59b1bee9f3a5a1e1474"), looks := false }, kinds := [], alts := [], laidByText := true, laidKinds := [.data], laidTests := true, laidLooks := .later }
def DigestKnownCardSaid : Prop := Claim7.holds Tryd.pinned (.plain (OpenSpec.ofChange digestKnownSpec)) digestKnownCard

/-- THE TIED CARD OF 'verdigrislaw08.DigestCuts'. -/
def digestCutsCard : Claim7 := { stood := { row := digestCutsRow, standIns := [], harness := (true, "5e31a7453354b1d803bfdbe8040ae386c7340f7b690da59b1bee9f3a5a1e1474"), looks := false }, kinds := [], alts := [], laidByText := true, laidKinds := [.data], laidTests := true, laidLooks := .later }
def DigestCutsCardSaid : Prop := Claim7.holds Tryd.pinned (.plain (OpenSpec.ofChange digestCutsSpec)) digestCutsCard

/-- THE SECOND FORM's CARD OF 'verdigrislaw08.DigestSums'. -/
def digestSumsUptoCard : Claim7 := { stood := { row := digestSumsUptoRow, standIns := [], harness := (true, "5e31a7453354b1d803bfdbe8040ae386c7340f7b690da59b1bee9f3a5a1e1474"), looks := false }, kinds := [], alts := [], laidByText := true, laidKinds := [.data], laidTests := true, laidLooks := .later }
def DigestSumsUptoCardSaid : Prop := Claim7.holds Tryd.pinned (.plain (OpenSpec.upto digestSumsSpec)) digestSumsUptoCard

/-- THE SECOND FORM's CARD OF 'verdigrislaw08.DigestTexts'. -/
def digestTextsUptoCard : Claim7 := { stood := { row := digestTextsUptoRow, standIns := [], harness := (true, "5e31a7453354b1d803bfdbe8040ae386c7340f7b690da59b1bee9f3a5a1e1474"), looks := false }, kinds := [], alts := [], laidByText := true, laidKinds := [.data], laidTests := true, laidLooks := .later }
def DigestTextsUptoCardSaid : Prop := Claim7.holds Tryd.pinned (.plain (OpenSpec.upto digestTextsSpec)) digestTextsUptoCard

/-- THE SECOND FORM's CARD OF 'verdigrislaw08.DigestPieces'. -/
def digestPiecesUptoCard : Claim7 := { stood := { row := digestPiecesUptoRow, standIns := [], harness := (true, "5e31a7453354b1d803bfdbe8040ae386c7340f7b690da59b1bee9f3a5a1e1474"), looks := false }, kinds := [], alts := [], laidByText := true, laidKinds := [.data], laidTests := true, laidLooks := .later }
def DigestPiecesUptoCardSaid : Prop := Claim7.holds Tryd.pinned (.plain (OpenSpec.upto digestPiecesSpec)) digestPiecesUptoCard

/-- THE SECOND FORM's CARD OF 'verdigrislaw08.DigestBack'. -/
def digestBackUptoCard : Claim7 := { stood := { row := digestBackUptoRow, standIns := [], harness := (true, "5e31a7453354b1d803bfdbe8040ae386c7340f7b690da59b1bee9f3a5a1e1474"), looks := false }, kinds := [], alts := [], laidByText := true, laidKinds := [.data], laidTests := true, laidLooks := .later }
def DigestBackUptoCardSaid : Prop := Claim7.holds Tryd.pinned (.plain (OpenSpec.upto digestBackSpec)) digestBackUptoCard

/-- THE SECOND FORM's CARD OF 'verdigrislaw08.DigestExtends'. -/
def digestExtendsUptoCard : Claim7 := { stood := { row := digestExtendsUptoRow, standIns := [], harness := (true, "5e31a7453354b1d803bfdbe8040ae386c7340f7b690da59b1bee9f3a5a1e1474"), looks := false }, kinds := [], alts := [], laidByText := true, laidKinds := [.data], laidTests := true, laidLooks := .later }
def DigestExtendsUptoCardSaid : Prop := Claim7.holds Tryd.pinned (.plain (OpenSpec.upto digestExtendsSpec)) digestExtendsUptoCard

/-- THE SECOND FORM's CARD OF 'verdigrislaw08.DigestKnown'. -/
def digestKnownUptoCard : Claim7 := { stood := { row := digestKnownUptoRow, standIns := [], harness := (true, "5e31a7453354b1d803bfdbe8040ae386c7340f7b690da59b1bee9f3a5a1e1474"), looks := false }, kinds := [], alts := [], laidByText := true, laidKinds := [.data], laidTests := true, laidLooks := .later }
def DigestKnownUptoCardSaid : Prop := Claim7.holds Tryd.pinned (.plain (OpenSpec.upto digestKnownSpec)) digestKnownUptoCard

/-- THE SECOND FORM's CARD OF 'verdigrislaw08.DigestCuts'. -/
def digestCutsUptoCard : Claim7 := { stood := { row := digestCutsUptoRow, standIns := [], harness := (true, "5e31a7453354b1d803bfdbe8040ae386c7340f7b690da59b1bee9f3a5a1e1474"), looks := false }, kinds := [], alts := [], laidByText := true, laidKinds := [.data], laidTests := true, laidLooks := .later }
def DigestCutsUptoCardSaid : Prop := Claim7.holds Tryd.pinned (.plain (OpenSpec.upto digestCutsSpec)) digestCutsUptoCard
end Rows
end Go.Proofs.YtfhddcjepgjfnaaDoor
