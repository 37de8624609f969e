/-
  DERIVED. GIVEN WITH THE SEED: THE CARDS: each row of YtjalhnlhcdfncaaGreatDoorRows.lean that lists a variable, with what it lists TIED to the program's text (the seventh form; the later family's looks); each row that meets fmt, with fmt's text TOLD by the authors' own Lean function (tested against real Go, not proved from fmt's source: count such statements apart). THE CARD IS WHAT COUNTS. Prove the row's statement (the work); the ties are given (YtjalhnlhcdfncaaGreatDoorTie.lean); close each card by the builder's one call (the guide's Derived/Test/ToyasCard.lean, 'card_holds'). Laid BY PROGRAM, IN A SANDBOX (cutbox-door.mjs). By AI agents, Wed Nov 11 2026. No macro, syntax, notation, axiom, sorry.
-/
import Derived.Test.YtjalhnlhcdfncaaGreatDoorRows
import GoSem.ClaimSeven
namespace Go.Proofs.YtjalhnlhcdfncaaGreatDoor
namespace Rows

/-- THE TIED CARD OF 'verdigrislaw33.RobustOrders'. -/
def robustOrdersCard : Claim7 := { stood := { row := robustOrdersRow, standIns := [], harness := (true, "252e0a21811d6cb709456a3fcf7983f263497123ef99f17ea89c4d3ca69a01d1"), looks := true }, kinds := [], alts := [], laidByText := true, laidKinds := [.data, .data, .data], laidTests := true, laidLooks := .later }
def RobustOrdersCardSaid : Prop := Claim7.holds Tryz.pinned (.plain (OpenSpec.ofChange robustOrdersSpec)) robustOrdersCard

/-- THE TIED CARD OF 'verdigrislaw33.RobustCosts'. -/
def robustCostsCard : Claim7 := { stood := { row := robustCostsRow, standIns := [], harness := (true, "252e0a21811d6cb709456a3fcf7983f263497123ef99f17ea89c4d3ca69a01d1"), looks := true }, kinds := [], alts := [], laidByText := true, laidKinds := [.data, .data, .data], laidTests := true, laidLooks := .later }
def RobustCostsCardSaid : Prop := Claim7.holds Tryz.pinned (.plain (OpenSpec.ofChange robustCostsSpec)) robustCostsCard

/-- THE TIED CARD OF 'verdigrislaw33.RobustFits'. -/
def robustFitsCard : Claim7 := { stood := { row := robustFitsRow, standIns := [], harness := (true, "252e0a21811d6cb709456a3fcf7983f263497123ef99f17ea89c4d3ca69a01d1"), looks := true }, kinds := [], alts := [], laidByText := true, laidKinds := [.data, .data, .data], laidTests := true, laidLooks := .later }
def RobustFitsCardSaid : Prop := Claim7.holds Tryz.pinned (.plain (OpenSpec.ofChange robustFitsSpec)) robustFitsCard

/-- THE TIED CARD OF 'verdigrislaw33.RobustFalls'. -/
def robustFallsCard : Claim7 := { stood := { row := robustFallsRow, standIns := [], harness := (true, "252e0a21811d6cb709456a3fcf7983f263497123ef99f17ea89c4d3ca69a01d1"), looks := true }, kinds := [], alts := [], laidByText := true, laidKinds := [.data, .data, .data], laidTests := true, laidLooks := .later }
def RobustFallsCardSaid : Prop := Claim7.holds Tryz.pinned (.plain (OpenSpec.ofChange robustFallsSpec)) robustFallsCard

/-- THE TIED CARD OF 'verdigrislaw33.RobustWhole'. -/
def robustWholeCard : Claim7 := { stood := { row := robustWholeRow, standIns := [], harness := (true, "252e0a21811d6cb709456a3fcf7983f263497123ef99f17ea89c4d3ca69a01d1"), looks := true }, kinds := [], alts := [], laidByText := true, laidKinds := [.data, .data, .data], laidTests := true, laidLooks := .later }
def RobustWholeCardSaid : Prop := Claim7.holds Tryz.pinned (.plain (OpenSpec.ofChange robustWholeSpec)) robustWholeCard

/-- THE TIED CARD OF 'verdigrislaw33.RobustKnown'. -/
def robustKnownCard : Claim7 := { stood := { row := robustKnownRow, standIns := [], harness := (true, "252e0a21811d6cb709456a3fcf7983f263497123ef99f17ea89c4d3ca69a01d1"), looks := true }, kinds := [], alts := [], laidByText := true, laidKinds := [.data, .data, .data], laidTests := true, laidLooks := .later }
def RobustKnownCardSaid : Prop := Claim7.holds Tryz.pinned (.plain (OpenSpec.ofChange robustKnownSpec)) robustKnownCard

/-- THE TIED CARD OF 'verdigrislaw33.RobustFinds'. -/
def robustFindsCard : Claim7 := { stood := { row := robustFindsRow, standIns := [], harness := (true, "252e0a21811d6cb709456a3fcf7983f263497123ef99f17ea89c4d3ca69a01d1"), looks := true }, kinds := [], alts := [], laidByText := true, laidKinds := [.data, .data, .data], laidTests := true, laidLooks := .later }
def RobustFindsCardSaid : Prop := Claim7.holds Tryz.pinned (.plain (OpenSpec.ofChange robustFindsSpec)) robustFindsCard

/-- THE TIED CARD OF 'verdigrislaw33.RobustSorts'. -/
def robustSortsCard : Claim7 := { stood := { row := robustSortsRow, standIns := [], harness := (true, "252e0a21811d6cb709456a3fcf7983f263497123ef99f17ea89c4d3ca69a01d1"), looks := true }, kinds := [], alts := [], laidByText := true, laidKinds := [.data, .data, .data], laidTests := true, laidLooks := .later }
def RobustSortsCardSaid : Prop := Claim7.holds Tryz.pinned (.plain (OpenSpec.ofChange robustSortsSpec)) robustSortsCard

/-- THE SECOND FORM's CARD OF 'verdigrislaw33.RobustOrders'. -/
def robustOrdersUptoCard : Claim7 := { stood := { row := robustOrdersUptoRow, standIns := [], harness := (true, "252e0a21811d6cb709456a3fcf7983f263497123ef99f17ea89c4d3ca69a01d1"), looks := true }, kinds := [], alts := [], laidByText := true, laidKinds := [.data, .data, .data], laidTests := true, laidLooks := .later }
def RobustOrdersUptoCardSaid : Prop := Claim7.holds Tryz.pinned (.plain (OpenSpec.upto robustOrdersSpec)) robustOrdersUptoCard

/-- THE SECOND FORM's CARD OF 'verdigrislaw33.RobustCosts'. -/
def robustCostsUptoCard : Claim7 := { stood := { row := robustCostsUptoRow, standIns := [], harness := (true, "252e0a21811d6cb709456a3fcf7983f263497123ef99f17ea89c4d3ca69a01d1"), looks := true }, kinds := [], alts := [], laidByText := true, laidKinds := [.data, .data, .data], laidTests := true, laidLooks := .later }
def RobustCostsUptoCardSaid : Prop := Claim7.holds Tryz.pinned (.plain (OpenSpec.upto robustCostsSpec)) robustCostsUptoCard

/-- THE SECOND FORM's CARD OF 'verdigrislaw33.RobustFits'. -/
def robustFitsUptoCard : Claim7 := { stood := { row := robustFitsUptoRow, standIns := [], harness := (true, "252e0a21811d6cb709456a3fcf7983f263497123ef99f17ea89c4d3ca69a01d1"), looks := true }, kinds := [], alts := [], laidByText := true, laidKinds := [.data, .data, .data], laidTests := true, laidLooks := .later }
def RobustFitsUptoCardSaid : Prop := Claim7.holds Tryz.pinned (.plain (OpenSpec.upto robustFitsSpec)) robustFitsUptoCard

/-- THE SECOND FORM's CARD OF 'verdigrislaw33.RobustFalls'. -/
def robustFallsUptoCard : Claim7 := { stood := { row := robustFallsUptoRow, standIns := [], harness := (true, "252e0a21811d6cb709456a3fcf7983f263497123ef99f17ea89c4d3ca69a01d1"), looks := true }, kinds := [], alts := [], laidByText := true, laidKinds := [.data, .data, .data], laidTests := true, laidLooks := .later }
def RobustFallsUptoCardSaid : Prop := Claim7.holds Tryz.pinned (.plain (OpenSpec.upto robustFallsSpec)) robustFallsUptoCard

/-- THE SECOND FORM's CARD OF 'verdigrislaw33.RobustWhole'. -/
def robustWholeUptoCard : Claim7 := { stood := { row := robustWholeUptoRow, standIns := [], harness := (true, "252e0a21811d6cb709456a3fcf7983f263497123ef99f17ea89c4d3ca69a01d1"), looks := true }, kinds := [], alts := [], laidByText := true, laidKinds := [.data, .data, .data], laidTests := true, laidLooks := .later }
def RobustWholeUptoCardSaid : Prop := Claim7.holds Tryz.pinned (.plain (OpenSpec.upto robustWholeSpec)) robustWholeUptoCard

/-- THE SECOND FORM's CARD OF 'verdigrislaw33.RobustKnown'. -/
def robustKnownUptoCard : Claim7 := { stood := { row := robustKnownUptoRow, standIns := [], harness := (true, "252e0a21811d6cb709456a3fcf7983f263497123ef99f17ea89c4d3ca69a01d1"), looks := true }, kinds := [], alts := [], laidByText := true, laidKinds := [.data, .data, .data], laidTests := true, laidLooks := .later }
def RobustKnownUptoCardSaid : Prop := Claim7.holds Tryz.pinned (.plain (OpenSpec.upto robustKnownSpec)) robustKnownUptoCard

/-- THE SECOND FORM's CARD OF 'verdigrislaw33.RobustFinds'. -/
def robustFindsUptoCard : Claim7 := { stood := { row := robustFindsUptoRow, standIns := [], harness := (true, "252e0a21811d6cb709456a3fcf7983f263497123ef99f17ea89c4d3ca69a01d1"), looks := true }, kinds := [], alts := [], laidByText := true, laidKinds := [.data, .data, .data], laidTests := true, laidLooks := .later }
def RobustFindsUptoCardSaid : Prop := Claim7.holds Tryz.pinned (.plain (OpenSpec.upto robustFindsSpec)) robustFindsUptoCard

/-- THE SECOND FORM's CARD OF 'verdigrislaw33.RobustSorts'. -/
def robustSortsUptoCard : Claim7 := { stood := { row := robustSortsUptoRow, standIns := [], harness := (true, "252e0a21811d6cb709456a3fcf7983f263497123ef99f17ea89c4d3ca69a01d1"), looks := true }, kinds := [], alts := [], laidByText := true, laidKinds := [.data, .data, .data], laidTests := true, laidLooks := .later }
def RobustSortsUptoCardSaid : Prop := Claim7.holds Tryz.pinned (.plain (OpenSpec.upto robustSortsSpec)) robustSortsUptoCard
end Rows
end Go.Proofs.YtjalhnlhcdfncaaGreatDoor
