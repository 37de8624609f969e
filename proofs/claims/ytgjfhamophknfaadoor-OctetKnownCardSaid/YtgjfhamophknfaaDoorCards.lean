/-
  DERIVED. GIVEN WITH THE SEED: THE CARDS: each row of YtgjfhamophknfaaDoorRows.lean that lists a variable, with what it lists TIED to the program's text (the seventh form; the later family's looks); each row that meets fmt, with fmt's text TOLD by the authors' own Lean function (tested against real Go, not proved from fmt's source: count such statements apart). THE CARD IS WHAT COUNTS. Prove the row's statement (the work); the ties are given (YtgjfhamophknfaaDoorTie.lean); close each card by the builder's one call (the guide's Derived/Test/ToyasCard.lean, 'card_holds'). Laid BY PROGRAM, IN A SANDBOX (cutbox-door.mjs). By AI agents, Wed Nov 11 2026. No macro, syntax, notation, axiom, sorry.
-/
import Derived.Test.YtgjfhamophknfaaDoorRows
import GoSem.ClaimSeven
namespace Go.Proofs.YtgjfhamophknfaaDoor
namespace Rows

/-- THE TIED CARD OF 'verdigrislaw07.OctetParts'. -/
def octetPartsCard : Claim7 := { stood := { row := octetPartsRow, standIns := [], harness := (true, "3bd0da2e2437399cbe2830cd0ab725b3a779692d93ba8bfff934554a35c03c15"), looks := false }, kinds := [], alts := [], laidByText := true, laidKinds := [.data, .pinned], laidTests := true, laidLooks := .later }
def OctetPartsCardSaid : Prop := Claim7.holds Tryd.pinned (.plain (OpenSpec.ofChange octetPartsSpec)) octetPartsCard

/-- THE TIED CARD OF 'verdigrislaw07.OctetWrites'. -/
def octetWritesCard : Claim7 := { stood := { row := octetWritesRow, standIns := [], harness := (true, "3bd0da2e2437399cbe2830cd0ab725b3a779692d93ba8bfff934554a35c03c15"), looks := false }, kinds := [], alts := [], laidByText := true, laidKinds := [.data, .pinned], laidTests := true, laidLooks := .later }
def OctetWritesCardSaid : Prop := Claim7.holds Tryd.pinned (.plain (OpenSpec.ofChange octetWritesSpec)) octetWritesCard

/-- THE TIED CARD OF 'verdigrislaw07.OctetKnown'. -/
def octetKnownCard : Claim7 := { stood := { row := octetKnownRow, standIns := [], harness := (true, "3bd0da2e2437399cbe2830cd0ab725b3a779692d93ba8bfff934554a35c03c15"), looks := false }, kinds := [], alts := [], laidByText := true, laidKinds := [.data, .pinned], laidTests := true, laidLooks := .later }
def OctetKnownCardSaid : Prop := Claim7.holds Tryd.pinned (.plain (OpenSpec.ofChange octetKnownSpec)) octetKnownCard

/-- THE TIED CARD OF 'verdigrislaw07.OctetBack'. -/
def octetBackCard : Claim7 := { stood := { row := octetBackRow, standIns := [], harness := (true, "3bd0da2e2437399cbe2830cd0ab725b3a779692d93ba8bfff934554a35c03c15"), looks := false }, kinds := [], alts := [], laidByText := true, laidKinds := [.data, .pinned], laidTests := true, laidLooks := .later }
def OctetBackCardSaid : Prop := Claim7.holds Tryd.pinned (.plain (OpenSpec.ofChange octetBackSpec)) octetBackCard

/-- THE SECOND FORM's CARD OF 'verdigrislaw07.OctetParts'. -/
def octetPartsUptoCard : Claim7 := { stood := { row := octetPartsUptoRow, standIns := [], harness := (true, "3bd0da2e2437399cbe2830cd0ab725b3a779692d93ba8bfff934554a35c03c15"), looks := false }, kinds := [], alts := [], laidByText := true, laidKinds := [.data, .pinned], laidTests := true, laidLooks := .later }
def OctetPartsUptoCardSaid : Prop := Claim7.holds Tryd.pinned (.plain (OpenSpec.upto octetPartsSpec)) octetPartsUptoCard

/-- THE SECOND FORM's CARD OF 'verdigrislaw07.OctetWrites'. -/
def octetWritesUptoCard : Claim7 := { stood := { row := octetWritesUptoRow, standIns := [], harness := (true, "3bd0da2e2437399cbe2830cd0ab725b3a779692d93ba8bfff934554a35c03c15"), looks := false }, kinds := [], alts := [], laidByText := true, laidKinds := [.data, .pinned], laidTests := true, laidLooks := .later }
def OctetWritesUptoCardSaid : Prop := Claim7.holds Tryd.pinned (.plain (OpenSpec.upto octetWritesSpec)) octetWritesUptoCard

/-- THE SECOND FORM's CARD OF 'verdigrislaw07.OctetKnown'. -/
def octetKnownUptoCard : Claim7 := { stood := { row := octetKnownUptoRow, standIns := [], harness := (true, "3bd0da2e2437399cbe2830cd0ab725b3a779692d93ba8bfff934554a35c03c15"), looks := false }, kinds := [], alts := [], laidByText := true, laidKinds := [.data, .pinned], laidTests := true, laidLooks := .later }
def OctetKnownUptoCardSaid : Prop := Claim7.holds Tryd.pinned (.plain (OpenSpec.upto octetKnownSpec)) octetKnownUptoCard

/-- THE SECOND FORM's CARD OF 'verdigrislaw07.OctetBack'. -/
def octetBackUptoCard : Claim7 := { stood := { row := octetBackUptoRow, standIns := [], harness := (true, "3bd0da2e2437399cbe2830cd0ab725b3a779692d93ba8bfff934554a35c03c15"), looks := false }, kinds := [], alts := [], laidByText := true, laidKinds := [.data, .pinned], laidTests := true, laidLooks := .later }
def OctetBackUptoCardSaid : Prop := Claim7.holds Tryd.pinned (.plain (OpenSpec.upto octetBackSpec)) octetBackUptoCard
end Rows
end Go.Proofs.YtgjfhamophknfaaDoor
