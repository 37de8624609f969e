/-
  NARROWER THAN 'FOR EVERY INPUT', by the rows' own cells (each row's printed sentence says how): RobustOrders: laid · RobustCosts: laid · RobustFits: laid · RobustFalls: laid · RobustWhole: laid · RobustKnown: laid · RobustFinds: laid · RobustSorts: laid.
  DERIVED. THE GIVEN ROWS OF THIS SEAT. 8 by the template 'for every input the law returns true; each argument reads behind the call as it read before'; 0 by the template 'total and deterministic' (their statements: YtjalhnlhcdfncaaGreatDoorTotals.lean).
  GIVEN WITH THE SEED: the statements are not yours to turn. If you find one false, say at which input.
  Laid BY PROGRAM, IN A SANDBOX (cutbox-rows.mjs): the forced cells as the released guide's own fill.sh prints them over the translation 3d70e10defc6c81f… (all of the seat's roots in one cut). By AI agents, Wed Nov 11 2026. No macro, syntax, notation, axiom, sorry.
-/
import Derived.Test.YtjalhnlhcdfncaaGreatDoorChecked
import GoSem.Claim
import GoSem.ClaimJoined
import GoSem.ClaimMapViews
import Derived.JoinedTies
import Derived.KernelRfl
namespace Go.Proofs.YtjalhnlhcdfncaaGreatDoor
/- THE CELL 'sum', in the pinned program and in every row, IS THE sha256 OF THE DUMP (.gsa) THAT YtjalhnlhcdfncaaGreatDoorProg.lean LOADS. Nothing in Lean hashes anything: it is a label: what it is worth is what the hold of that sum in a sandbox is worth. -/
noncomputable def Tryz.pinned : Pinned := { name := "ytjalhnlhcdfncaagreatdoor", sum := "3d70e10defc6c81fd39baf0508f4fc5ea746e9ce7d6d906e9ba3ea2d24b7df38", checked := Tryz.checked }
namespace Rows
def none {H : Type} : Left H := { results := [], args := [] }

/- WHAT THE LISTED PACKAGE-LEVEL VARIABLES READ AS WHEN THE CALL BEGINS. Each datum BY PROGRAM (the guide's laid-datum.mjs) off the statement by which the dump's own 'gosem.cut.vars' lays the variable. In a bare row this is a premise. The card (YtjalhnlhcdfncaaGreatDoorCards.lean) ties it to the program's text. -/
def laid_math_bits_deBruijn32tab {H : Type} : DataW H := .agg [.lit (.int .u8 0), .lit (.int .u8 1), .lit (.int .u8 28), .lit (.int .u8 2), .lit (.int .u8 29), .lit (.int .u8 14), .lit (.int .u8 24), .lit (.int .u8 3), .lit (.int .u8 30), .lit (.int .u8 22), .lit (.int .u8 20), .lit (.int .u8 15), .lit (.int .u8 25), .lit (.int .u8 17), .lit (.int .u8 4), .lit (.int .u8 8), .lit (.int .u8 31), .lit (.int .u8 27), .lit (.int .u8 13), .lit (.int .u8 23), .lit (.int .u8 21), .lit (.int .u8 19), .lit (.int .u8 16), .lit (.int .u8 7), .lit (.int .u8 26), .lit (.int .u8 12), .lit (.int .u8 18), .lit (.int .u8 6), .lit (.int .u8 11), .lit (.int .u8 5), .lit (.int .u8 10), .lit (.int .u8 9)]
def laid_math_bits_deBruijn64tab {H : Type} : DataW H := .agg [.lit (.int .u8 0), .lit (.int .u8 1), .lit (.int .u8 56), .lit (.int .u8 2), .lit (.int .u8 57), .lit (.int .u8 49), .lit (.int .u8 28), .lit (.int .u8 3), .lit (.int .u8 61), .lit (.int .u8 58), .lit (.int .u8 42), .lit (.int .u8 50), .lit (.int .u8 38), .lit (.int .u8 29), .lit (.int .u8 17), .lit (.int .u8 4), .lit (.int .u8 62), .lit (.int .u8 47), .lit (.int .u8 59), .lit (.int .u8 36), .lit (.int .u8 45), .lit (.int .u8 43), .lit (.int .u8 51), .lit (.int .u8 22), .lit (.int .u8 53), .lit (.int .u8 39), .lit (.int .u8 33), .lit (.int .u8 30), .lit (.int .u8 24), .lit (.int .u8 18), .lit (.int .u8 12), .lit (.int .u8 5), .lit (.int .u8 63), .lit (.int .u8 55), .lit (.int .u8 48), .lit (.int .u8 27), .lit (.int .u8 60), .lit (.int .u8 41), .lit (.int .u8 37), .lit (.int .u8 16), .lit (.int .u8 46), .lit (.int .u8 35), .lit (.int .u8 44), .lit (.int .u8 21), .lit (.int .u8 52), .lit (.int .u8 32), .lit (.int .u8 23), .lit (.int .u8 11), .lit (.int .u8 54), .lit (.int .u8 26), .lit (.int .u8 40), .lit (.int .u8 15), .lit (.int .u8 34), .lit (.int .u8 20), .lit (.int .u8 31), .lit (.int .u8 10), .lit (.int .u8 25), .lit (.int .u8 14), .lit (.int .u8 19), .lit (.int .u8 9), .lit (.int .u8 13), .lit (.int .u8 8), .lit (.int .u8 7), .lit (.int .u8 6)]
def laid_internal_strconv_uint64pow10 {H : Type} : DataW H := .agg [.lit (.int .u64 1), .lit (.int .u64 10), .lit (.int .u64 100), .lit (.int .u64 1000), .lit (.int .u64 10000), .lit (.int .u64 100000), .lit (.int .u64 1000000), .lit (.int .u64 10000000), .lit (.int .u64 100000000), .lit (.int .u64 1000000000), .lit (.int .u64 10000000000), .lit (.int .u64 100000000000), .lit (.int .u64 1000000000000), .lit (.int .u64 10000000000000), .lit (.int .u64 100000000000000), .lit (.int .u64 1000000000000000), .lit (.int .u64 10000000000000000), .lit (.int .u64 100000000000000000), .lit (.int .u64 1000000000000000000), .lit (.int .u64 10000000000000000000)]

/-- 'verdigrislaw33.RobustOrders': WHATEVER THE INPUT: true; the input reads as it did. -/
def robustOrdersSpec : ChangeSpec := { name := "robustOrders", fn := fun _ => fun
  | [d1, d2, d3, d4] => { results := [.lit (.bool true)], args := [d1, d2, d3, d4] }
  | _ => none }
def robustOrdersRow : OpenClaim := { program := "ytjalhnlhcdfncaagreatdoor", sum := "3d70e10defc6c81fd39baf0508f4fc5ea746e9ce7d6d906e9ba3ea2d24b7df38", func := "verdigris/verdigrislaw33.RobustOrders", spec := "robustOrders", inPlace := ["internal/abi.NoEscape"], unfollowed := true, recurses := true, named := ["internal/strconv.uint64pow10", "math/bits.deBruijn32tab", "math/bits.deBruijn64tab"], apart := false, laid := [("math/bits.deBruijn32tab", laid_math_bits_deBruijn32tab), ("math/bits.deBruijn64tab", laid_math_bits_deBruijn64tab), ("internal/strconv.uint64pow10", laid_internal_strconv_uint64pow10)] }
def RobustOrdersSaid : Prop := robustOrdersRow.holds Tryz.pinned (OpenSpec.ofChange robustOrdersSpec)

/-- ITS FALSE NEIGHBOUR: 'it returns false'. Refute it at one input. -/
def robustOrdersWrong : ChangeSpec := { name := "robustOrders", fn := fun _ => fun
  | [d1, d2, d3, d4] => { results := [.lit (.bool false)], args := [d1, d2, d3, d4] }
  | _ => none }
def RobustOrdersWrongFalsely : Prop := robustOrdersRow.holds Tryz.pinned (OpenSpec.ofChange robustOrdersWrong)

/-- 'verdigrislaw33.RobustCosts': WHATEVER THE INPUT: true; the input reads as it did. -/
def robustCostsSpec : ChangeSpec := { name := "robustCosts", fn := fun _ => fun
  | [d1, d2, d3, d4] => { results := [.lit (.bool true)], args := [d1, d2, d3, d4] }
  | _ => none }
def robustCostsRow : OpenClaim := { program := "ytjalhnlhcdfncaagreatdoor", sum := "3d70e10defc6c81fd39baf0508f4fc5ea746e9ce7d6d906e9ba3ea2d24b7df38", func := "verdigris/verdigrislaw33.RobustCosts", spec := "robustCosts", inPlace := ["internal/abi.NoEscape"], unfollowed := true, recurses := true, named := ["internal/strconv.uint64pow10", "math/bits.deBruijn32tab", "math/bits.deBruijn64tab"], apart := false, laid := [("math/bits.deBruijn32tab", laid_math_bits_deBruijn32tab), ("math/bits.deBruijn64tab", laid_math_bits_deBruijn64tab), ("internal/strconv.uint64pow10", laid_internal_strconv_uint64pow10)] }
def RobustCostsSaid : Prop := robustCostsRow.holds Tryz.pinned (OpenSpec.ofChange robustCostsSpec)

/-- ITS FALSE NEIGHBOUR: 'it returns false'. Refute it at one input. -/
def robustCostsWrong : ChangeSpec := { name := "robustCosts", fn := fun _ => fun
  | [d1, d2, d3, d4] => { results := [.lit (.bool false)], args := [d1, d2, d3, d4] }
  | _ => none }
def RobustCostsWrongFalsely : Prop := robustCostsRow.holds Tryz.pinned (OpenSpec.ofChange robustCostsWrong)

/-- 'verdigrislaw33.RobustFits': WHATEVER THE INPUT: true; the input reads as it did. -/
def robustFitsSpec : ChangeSpec := { name := "robustFits", fn := fun _ => fun
  | [d1, d2, d3, d4] => { results := [.lit (.bool true)], args := [d1, d2, d3, d4] }
  | _ => none }
def robustFitsRow : OpenClaim := { program := "ytjalhnlhcdfncaagreatdoor", sum := "3d70e10defc6c81fd39baf0508f4fc5ea746e9ce7d6d906e9ba3ea2d24b7df38", func := "verdigris/verdigrislaw33.RobustFits", spec := "robustFits", inPlace := ["internal/abi.NoEscape"], unfollowed := true, recurses := true, named := ["internal/strconv.uint64pow10", "math/bits.deBruijn32tab", "math/bits.deBruijn64tab"], apart := false, laid := [("math/bits.deBruijn32tab", laid_math_bits_deBruijn32tab), ("math/bits.deBruijn64tab", laid_math_bits_deBruijn64tab), ("internal/strconv.uint64pow10", laid_internal_strconv_uint64pow10)] }
def RobustFitsSaid : Prop := robustFitsRow.holds Tryz.pinned (OpenSpec.ofChange robustFitsSpec)

/-- ITS FALSE NEIGHBOUR: 'it returns false'. Refute it at one input. -/
def robustFitsWrong : ChangeSpec := { name := "robustFits", fn := fun _ => fun
  | [d1, d2, d3, d4] => { results := [.lit (.bool false)], args := [d1, d2, d3, d4] }
  | _ => none }
def RobustFitsWrongFalsely : Prop := robustFitsRow.holds Tryz.pinned (OpenSpec.ofChange robustFitsWrong)

/-- 'verdigrislaw33.RobustFalls': WHATEVER THE INPUT: true; the input reads as it did. -/
def robustFallsSpec : ChangeSpec := { name := "robustFalls", fn := fun _ => fun
  | [d1, d2, d3, d4] => { results := [.lit (.bool true)], args := [d1, d2, d3, d4] }
  | _ => none }
def robustFallsRow : OpenClaim := { program := "ytjalhnlhcdfncaagreatdoor", sum := "3d70e10defc6c81fd39baf0508f4fc5ea746e9ce7d6d906e9ba3ea2d24b7df38", func := "verdigris/verdigrislaw33.RobustFalls", spec := "robustFalls", inPlace := ["internal/abi.NoEscape"], unfollowed := true, recurses := true, named := ["internal/strconv.uint64pow10", "math/bits.deBruijn32tab", "math/bits.deBruijn64tab"], apart := false, laid := [("math/bits.deBruijn32tab", laid_math_bits_deBruijn32tab), ("math/bits.deBruijn64tab", laid_math_bits_deBruijn64tab), ("internal/strconv.uint64pow10", laid_internal_strconv_uint64pow10)] }
def RobustFallsSaid : Prop := robustFallsRow.holds Tryz.pinned (OpenSpec.ofChange robustFallsSpec)

/-- ITS FALSE NEIGHBOUR: 'it returns false'. Refute it at one input. -/
def robustFallsWrong : ChangeSpec := { name := "robustFalls", fn := fun _ => fun
  | [d1, d2, d3, d4] => { results := [.lit (.bool false)], args := [d1, d2, d3, d4] }
  | _ => none }
def RobustFallsWrongFalsely : Prop := robustFallsRow.holds Tryz.pinned (OpenSpec.ofChange robustFallsWrong)

/-- 'verdigrislaw33.RobustWhole': WHATEVER THE INPUT: true; the input reads as it did. -/
def robustWholeSpec : ChangeSpec := { name := "robustWhole", fn := fun _ => fun
  | [d1, d2, d3] => { results := [.lit (.bool true)], args := [d1, d2, d3] }
  | _ => none }
def robustWholeRow : OpenClaim := { program := "ytjalhnlhcdfncaagreatdoor", sum := "3d70e10defc6c81fd39baf0508f4fc5ea746e9ce7d6d906e9ba3ea2d24b7df38", func := "verdigris/verdigrislaw33.RobustWhole", spec := "robustWhole", inPlace := ["internal/abi.NoEscape"], unfollowed := true, recurses := true, named := ["internal/strconv.uint64pow10", "math/bits.deBruijn32tab", "math/bits.deBruijn64tab"], apart := false, laid := [("math/bits.deBruijn32tab", laid_math_bits_deBruijn32tab), ("math/bits.deBruijn64tab", laid_math_bits_deBruijn64tab), ("internal/strconv.uint64pow10", laid_internal_strconv_uint64pow10)] }
def RobustWholeSaid : Prop := robustWholeRow.holds Tryz.pinned (OpenSpec.ofChange robustWholeSpec)

/-- ITS FALSE NEIGHBOUR: 'it returns false'. Refute it at one input. -/
def robustWholeWrong : ChangeSpec := { name := "robustWhole", fn := fun _ => fun
  | [d1, d2, d3] => { results := [.lit (.bool false)], args := [d1, d2, d3] }
  | _ => none }
def RobustWholeWrongFalsely : Prop := robustWholeRow.holds Tryz.pinned (OpenSpec.ofChange robustWholeWrong)

/-- 'verdigrislaw33.RobustKnown': WHATEVER THE INPUT: true; the input reads as it did. -/
def robustKnownSpec : ChangeSpec := { name := "robustKnown", fn := fun _ => fun
  | [] => { results := [.lit (.bool true)], args := [] }
  | _ => none }
def robustKnownRow : OpenClaim := { program := "ytjalhnlhcdfncaagreatdoor", sum := "3d70e10defc6c81fd39baf0508f4fc5ea746e9ce7d6d906e9ba3ea2d24b7df38", func := "verdigris/verdigrislaw33.RobustKnown", spec := "robustKnown", inPlace := ["internal/abi.NoEscape"], unfollowed := true, recurses := true, named := ["internal/strconv.uint64pow10", "math/bits.deBruijn32tab", "math/bits.deBruijn64tab"], apart := false, laid := [("math/bits.deBruijn32tab", laid_math_bits_deBruijn32tab), ("math/bits.deBruijn64tab", laid_math_bits_deBruijn64tab), ("internal/strconv.uint64pow10", laid_internal_strconv_uint64pow10)] }
def RobustKnownSaid : Prop := robustKnownRow.holds Tryz.pinned (OpenSpec.ofChange robustKnownSpec)

/-- ITS FALSE NEIGHBOUR: 'it returns false'. Refute it at one input. -/
def robustKnownWrong : ChangeSpec := { name := "robustKnown", fn := fun _ => fun
  | [] => { results := [.lit (.bool false)], args := [] }
  | _ => none }
def RobustKnownWrongFalsely : Prop := robustKnownRow.holds Tryz.pinned (OpenSpec.ofChange robustKnownWrong)

/-- 'verdigrislaw33.RobustFinds': WHATEVER THE INPUT: true; the input reads as it did. -/
def robustFindsSpec : ChangeSpec := { name := "robustFinds", fn := fun _ => fun
  | [d1, d2, d3] => { results := [.lit (.bool true)], args := [d1, d2, d3] }
  | _ => none }
def robustFindsRow : OpenClaim := { program := "ytjalhnlhcdfncaagreatdoor", sum := "3d70e10defc6c81fd39baf0508f4fc5ea746e9ce7d6d906e9ba3ea2d24b7df38", func := "verdigris/verdigrislaw33.RobustFinds", spec := "robustFinds", inPlace := ["internal/abi.NoEscape"], unfollowed := true, recurses := true, named := ["internal/strconv.uint64pow10", "math/bits.deBruijn32tab", "math/bits.deBruijn64tab"], apart := false, laid := [("math/bits.deBruijn32tab", laid_math_bits_deBruijn32tab), ("math/bits.deBruijn64tab", laid_math_bits_deBruijn64tab), ("internal/strconv.uint64pow10", laid_internal_strconv_uint64pow10)] }
def RobustFindsSaid : Prop := robustFindsRow.holds Tryz.pinned (OpenSpec.ofChange robustFindsSpec)

/-- ITS FALSE NEIGHBOUR: 'it returns false'. Refute it at one input. -/
def robustFindsWrong : ChangeSpec := { name := "robustFinds", fn := fun _ => fun
  | [d1, d2, d3] => { results := [.lit (.bool false)], args := [d1, d2, d3] }
  | _ => none }
def RobustFindsWrongFalsely : Prop := robustFindsRow.holds Tryz.pinned (OpenSpec.ofChange robustFindsWrong)

/-- 'verdigrislaw33.RobustSorts': WHATEVER THE INPUT: true; the input reads as it did. -/
def robustSortsSpec : ChangeSpec := { name := "robustSorts", fn := fun _ => fun
  | [d1, d2, d3] => { results := [.lit (.bool true)], args := [d1, d2, d3] }
  | _ => none }
def robustSortsRow : OpenClaim := { program := "ytjalhnlhcdfncaagreatdoor", sum := "3d70e10defc6c81fd39baf0508f4fc5ea746e9ce7d6d906e9ba3ea2d24b7df38", func := "verdigris/verdigrislaw33.RobustSorts", spec := "robustSorts", inPlace := ["internal/abi.NoEscape"], unfollowed := true, recurses := true, named := ["internal/strconv.uint64pow10", "math/bits.deBruijn32tab", "math/bits.deBruijn64tab"], apart := false, laid := [("math/bits.deBruijn32tab", laid_math_bits_deBruijn32tab), ("math/bits.deBruijn64tab", laid_math_bits_deBruijn64tab), ("internal/strconv.uint64pow10", laid_internal_strconv_uint64pow10)] }
def RobustSortsSaid : Prop := robustSortsRow.holds Tryz.pinned (OpenSpec.ofChange robustSortsSpec)

/-- ITS FALSE NEIGHBOUR: 'it returns false'. Refute it at one input. -/
def robustSortsWrong : ChangeSpec := { name := "robustSorts", fn := fun _ => fun
  | [d1, d2, d3] => { results := [.lit (.bool false)], args := [d1, d2, d3] }
  | _ => none }
def RobustSortsWrongFalsely : Prop := robustSortsRow.holds Tryz.pinned (OpenSpec.ofChange robustSortsWrong)

/- THE SECOND FORM. 'bulk': how many values and letters a reading holds, each counted each time it is reached (what is shared counts as often as it is met; a slice's spare places count too). A statement '..UptoSaid' is the law's where the arguments, and the package variables that the reading takes, are together of bulk at most 1048576: NARROWER than '..Said'. Prove '..Said' where nothing that the law and all that it calls make is longer than what came in: it says more and counts as full. Else prove '..UptoSaid'. A law counts once. -/
mutual
def uptoBulk {H : Type} : DataW H → Nat
  | .lit (.string bytes) => bytes.length + 1
  | .lit _ => 1
  | .nil => 1
  | .ptr d => uptoBulk d + 1
  | .slice elems spare => uptoBulkAll elems + uptoBulkAll spare + 1
  | .agg parts => uptoBulkAll parts + 1
  | .iface _ d => uptoBulk d + 1
  | .map entries => uptoBulkEntries entries + 1
  | .held _ => 1
def uptoBulkAll {H : Type} : List (DataW H) → Nat
  | [] => 0
  | d :: r => uptoBulk d + uptoBulkAll r
def uptoBulkEntries {H : Type} : List (Lit × DataW H) → Nat
  | [] => 0
  | x :: r => uptoBulkEntry x + uptoBulkEntries r
def uptoBulkEntry {H : Type} : Lit × DataW H → Nat
  | (.string bytes, d) => bytes.length + uptoBulk d + 1
  | (_, d) => uptoBulk d + 1
 end
def uptoSmall : (H : Type) → List (DataW H) → Bool := fun _ ds => decide (uptoBulkAll ds ≤ 1048576)
def OpenSpec.upto (s : _root_.Go.ChangeSpec) : _root_.Go.OpenSpec := { _root_.Go.OpenSpec.ofChange s with cond := some uptoSmall }

/-- 'verdigrislaw33.RobustOrders', WHERE WHAT IT READS IS OF BULK AT MOST 1048576: true; the input reads as it did. -/
def robustOrdersUptoRow : OpenClaim := { program := "ytjalhnlhcdfncaagreatdoor", sum := "3d70e10defc6c81fd39baf0508f4fc5ea746e9ce7d6d906e9ba3ea2d24b7df38", func := "verdigris/verdigrislaw33.RobustOrders", spec := "robustOrders", inPlace := ["internal/abi.NoEscape"], unfollowed := true, recurses := true, named := ["internal/strconv.uint64pow10", "math/bits.deBruijn32tab", "math/bits.deBruijn64tab"], apart := false, laid := [("math/bits.deBruijn32tab", laid_math_bits_deBruijn32tab), ("math/bits.deBruijn64tab", laid_math_bits_deBruijn64tab), ("internal/strconv.uint64pow10", laid_internal_strconv_uint64pow10)], narrowed := true }
def RobustOrdersUptoSaid : Prop := robustOrdersUptoRow.holds Tryz.pinned (OpenSpec.upto robustOrdersSpec)

/-- 'verdigrislaw33.RobustCosts', WHERE WHAT IT READS IS OF BULK AT MOST 1048576: true; the input reads as it did. -/
def robustCostsUptoRow : OpenClaim := { program := "ytjalhnlhcdfncaagreatdoor", sum := "3d70e10defc6c81fd39baf0508f4fc5ea746e9ce7d6d906e9ba3ea2d24b7df38", func := "verdigris/verdigrislaw33.RobustCosts", spec := "robustCosts", inPlace := ["internal/abi.NoEscape"], unfollowed := true, recurses := true, named := ["internal/strconv.uint64pow10", "math/bits.deBruijn32tab", "math/bits.deBruijn64tab"], apart := false, laid := [("math/bits.deBruijn32tab", laid_math_bits_deBruijn32tab), ("math/bits.deBruijn64tab", laid_math_bits_deBruijn64tab), ("internal/strconv.uint64pow10", laid_internal_strconv_uint64pow10)], narrowed := true }
def RobustCostsUptoSaid : Prop := robustCostsUptoRow.holds Tryz.pinned (OpenSpec.upto robustCostsSpec)

/-- 'verdigrislaw33.RobustFits', WHERE WHAT IT READS IS OF BULK AT MOST 1048576: true; the input reads as it did. -/
def robustFitsUptoRow : OpenClaim := { program := "ytjalhnlhcdfncaagreatdoor", sum := "3d70e10defc6c81fd39baf0508f4fc5ea746e9ce7d6d906e9ba3ea2d24b7df38", func := "verdigris/verdigrislaw33.RobustFits", spec := "robustFits", inPlace := ["internal/abi.NoEscape"], unfollowed := true, recurses := true, named := ["internal/strconv.uint64pow10", "math/bits.deBruijn32tab", "math/bits.deBruijn64tab"], apart := false, laid := [("math/bits.deBruijn32tab", laid_math_bits_deBruijn32tab), ("math/bits.deBruijn64tab", laid_math_bits_deBruijn64tab), ("internal/strconv.uint64pow10", laid_internal_strconv_uint64pow10)], narrowed := true }
def RobustFitsUptoSaid : Prop := robustFitsUptoRow.holds Tryz.pinned (OpenSpec.upto robustFitsSpec)

/-- 'verdigrislaw33.RobustFalls', WHERE WHAT IT READS IS OF BULK AT MOST 1048576: true; the input reads as it did. -/
def robustFallsUptoRow : OpenClaim := { program := "ytjalhnlhcdfncaagreatdoor", sum := "3d70e10defc6c81fd39baf0508f4fc5ea746e9ce7d6d906e9ba3ea2d24b7df38", func := "verdigris/verdigrislaw33.RobustFalls", spec := "robustFalls", inPlace := ["internal/abi.NoEscape"], unfollowed := true, recurses := true, named := ["internal/strconv.uint64pow10", "math/bits.deBruijn32tab", "math/bits.deBruijn64tab"], apart := false, laid := [("math/bits.deBruijn32tab", laid_math_bits_deBruijn32tab), ("math/bits.deBruijn64tab", laid_math_bits_deBruijn64tab), ("internal/strconv.uint64pow10", laid_internal_strconv_uint64pow10)], narrowed := true }
def RobustFallsUptoSaid : Prop := robustFallsUptoRow.holds Tryz.pinned (OpenSpec.upto robustFallsSpec)

/-- 'verdigrislaw33.RobustWhole', WHERE WHAT IT READS IS OF BULK AT MOST 1048576: true; the input reads as it did. -/
def robustWholeUptoRow : OpenClaim := { program := "ytjalhnlhcdfncaagreatdoor", sum := "3d70e10defc6c81fd39baf0508f4fc5ea746e9ce7d6d906e9ba3ea2d24b7df38", func := "verdigris/verdigrislaw33.RobustWhole", spec := "robustWhole", inPlace := ["internal/abi.NoEscape"], unfollowed := true, recurses := true, named := ["internal/strconv.uint64pow10", "math/bits.deBruijn32tab", "math/bits.deBruijn64tab"], apart := false, laid := [("math/bits.deBruijn32tab", laid_math_bits_deBruijn32tab), ("math/bits.deBruijn64tab", laid_math_bits_deBruijn64tab), ("internal/strconv.uint64pow10", laid_internal_strconv_uint64pow10)], narrowed := true }
def RobustWholeUptoSaid : Prop := robustWholeUptoRow.holds Tryz.pinned (OpenSpec.upto robustWholeSpec)

/-- 'verdigrislaw33.RobustKnown', WHERE WHAT IT READS IS OF BULK AT MOST 1048576: true; the input reads as it did. -/
def robustKnownUptoRow : OpenClaim := { program := "ytjalhnlhcdfncaagreatdoor", sum := "3d70e10defc6c81fd39baf0508f4fc5ea746e9ce7d6d906e9ba3ea2d24b7df38", func := "verdigris/verdigrislaw33.RobustKnown", spec := "robustKnown", inPlace := ["internal/abi.NoEscape"], unfollowed := true, recurses := true, named := ["internal/strconv.uint64pow10", "math/bits.deBruijn32tab", "math/bits.deBruijn64tab"], apart := false, laid := [("math/bits.deBruijn32tab", laid_math_bits_deBruijn32tab), ("math/bits.deBruijn64tab", laid_math_bits_deBruijn64tab), ("internal/strconv.uint64pow10", laid_internal_strconv_uint64pow10)], narrowed := true }
def RobustKnownUptoSaid : Prop := robustKnownUptoRow.holds Tryz.pinned (OpenSpec.upto robustKnownSpec)

/-- 'verdigrislaw33.RobustFinds', WHERE WHAT IT READS IS OF BULK AT MOST 1048576: true; the input reads as it did. -/
def robustFindsUptoRow : OpenClaim := { program := "ytjalhnlhcdfncaagreatdoor", sum := "3d70e10defc6c81fd39baf0508f4fc5ea746e9ce7d6d906e9ba3ea2d24b7df38", func := "verdigris/verdigrislaw33.RobustFinds", spec := "robustFinds", inPlace := ["internal/abi.NoEscape"], unfollowed := true, recurses := true, named := ["internal/strconv.uint64pow10", "math/bits.deBruijn32tab", "math/bits.deBruijn64tab"], apart := false, laid := [("math/bits.deBruijn32tab", laid_math_bits_deBruijn32tab), ("math/bits.deBruijn64tab", laid_math_bits_deBruijn64tab), ("internal/strconv.uint64pow10", laid_internal_strconv_uint64pow10)], narrowed := true }
def RobustFindsUptoSaid : Prop := robustFindsUptoRow.holds Tryz.pinned (OpenSpec.upto robustFindsSpec)

/-- 'verdigrislaw33.RobustSorts', WHERE WHAT IT READS IS OF BULK AT MOST 1048576: true; the input reads as it did. -/
def robustSortsUptoRow : OpenClaim := { program := "ytjalhnlhcdfncaagreatdoor", sum := "3d70e10defc6c81fd39baf0508f4fc5ea746e9ce7d6d906e9ba3ea2d24b7df38", func := "verdigris/verdigrislaw33.RobustSorts", spec := "robustSorts", inPlace := ["internal/abi.NoEscape"], unfollowed := true, recurses := true, named := ["internal/strconv.uint64pow10", "math/bits.deBruijn32tab", "math/bits.deBruijn64tab"], apart := false, laid := [("math/bits.deBruijn32tab", laid_math_bits_deBruijn32tab), ("math/bits.deBruijn64tab", laid_math_bits_deBruijn64tab), ("internal/strconv.uint64pow10", laid_internal_strconv_uint64pow10)], narrowed := true }
def RobustSortsUptoSaid : Prop := robustSortsUptoRow.holds Tryz.pinned (OpenSpec.upto robustSortsSpec)

end Rows
end Go.Proofs.YtjalhnlhcdfncaaGreatDoor
