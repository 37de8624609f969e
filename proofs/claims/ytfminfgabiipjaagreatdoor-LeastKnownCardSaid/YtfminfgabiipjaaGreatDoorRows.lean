/-
  NARROWER THAN 'FOR EVERY INPUT', by the rows' own cells (each row's printed sentence says how): LeastSolves: laid · LeastFits: laid · LeastBest: laid · LeastKnown: laid · LeastWeights: laid · LeastRanks: laid · LeastExact: laid.
  DERIVED. THE GIVEN ROWS OF THIS SEAT. 7 by the template 'for every input the law returns true; each argument reads behind the call as it read before'; 0 by the template 'total and deterministic' (their statements: YtfminfgabiipjaaGreatDoorTotals.lean).
  GIVEN WITH THE SEED: the statements are not yours to turn. If you find one false, say at which input.
  Laid BY PROGRAM, IN A SANDBOX (cutbox-rows.mjs): the forced cells as the released guide's own fill.sh prints them over the translation a6fddb55a9b357ab… (all of the seat's roots in one cut). By AI agents, Wed Nov 11 2026. No macro, syntax, notation, axiom, sorry.
-/
import Derived.Test.YtfminfgabiipjaaGreatDoorChecked
import GoSem.Claim
import GoSem.ClaimJoined
import GoSem.ClaimMapViews
import Derived.JoinedTies
import Derived.KernelRfl
namespace Go.Proofs.YtfminfgabiipjaaGreatDoor
/- THE CELL 'sum', in the pinned program and in every row, IS THE sha256 OF THE DUMP (.gsa) THAT YtfminfgabiipjaaGreatDoorProg.lean LOADS. Nothing in Lean hashes anything: it is a label: what it is worth is what the hold of that sum in a sandbox is worth. -/
noncomputable def Tryz.pinned : Pinned := { name := "ytfminfgabiipjaagreatdoor", sum := "a6fddb55a9b357abea580a2cbf1c4248cd113db7f5c03115b0b4638d86ba8307", checked := Tryz.checked }
namespace Rows
def none {H : Type} : Left H := { results := [], args := [] }

/- WHAT THE LISTED PACKAGE-LEVEL VARIABLES READ AS WHEN THE CALL BEGINS. Each datum BY PROGRAM (the guide's laid-datum.mjs) off the statement by which the dump's own 'gosem.cut.vars' lays the variable. In a bare row this is a premise. The card (YtfminfgabiipjaaGreatDoorCards.lean) ties it to the program's text. -/
def laid_math_bits_deBruijn32tab {H : Type} : DataW H := .agg [.lit (.int .u8 0), .lit (.int .u8 1), .lit (.int .u8 28), .lit (.int .u8 2), .lit (.int .u8 29), .lit (.int .u8 14), .lit (.int .u8 24), .lit (.int .u8 3), .lit (.int .u8 30), .lit (.int .u8 22), .lit (.int .u8 20), .lit (.int .u8 15), .lit (.int .u8 25), .lit (.int .u8 17), .lit (.int .u8 4), .lit (.int .u8 8), .lit (.int .u8 31), .lit (.int .u8 27), .lit (.int .u8 13), .lit (.int .u8 23), .lit (.int .u8 21), .lit (.int .u8 19), .lit (.int .u8 16), .lit (.int .u8 7), .lit (.int .u8 26), .lit (.int .u8 12), .lit (.int .u8 18), .lit (.int .u8 6), .lit (.int .u8 11), .lit (.int .u8 5), .lit (.int .u8 10), .lit (.int .u8 9)]
def laid_math_bits_deBruijn64tab {H : Type} : DataW H := .agg [.lit (.int .u8 0), .lit (.int .u8 1), .lit (.int .u8 56), .lit (.int .u8 2), .lit (.int .u8 57), .lit (.int .u8 49), .lit (.int .u8 28), .lit (.int .u8 3), .lit (.int .u8 61), .lit (.int .u8 58), .lit (.int .u8 42), .lit (.int .u8 50), .lit (.int .u8 38), .lit (.int .u8 29), .lit (.int .u8 17), .lit (.int .u8 4), .lit (.int .u8 62), .lit (.int .u8 47), .lit (.int .u8 59), .lit (.int .u8 36), .lit (.int .u8 45), .lit (.int .u8 43), .lit (.int .u8 51), .lit (.int .u8 22), .lit (.int .u8 53), .lit (.int .u8 39), .lit (.int .u8 33), .lit (.int .u8 30), .lit (.int .u8 24), .lit (.int .u8 18), .lit (.int .u8 12), .lit (.int .u8 5), .lit (.int .u8 63), .lit (.int .u8 55), .lit (.int .u8 48), .lit (.int .u8 27), .lit (.int .u8 60), .lit (.int .u8 41), .lit (.int .u8 37), .lit (.int .u8 16), .lit (.int .u8 46), .lit (.int .u8 35), .lit (.int .u8 44), .lit (.int .u8 21), .lit (.int .u8 52), .lit (.int .u8 32), .lit (.int .u8 23), .lit (.int .u8 11), .lit (.int .u8 54), .lit (.int .u8 26), .lit (.int .u8 40), .lit (.int .u8 15), .lit (.int .u8 34), .lit (.int .u8 20), .lit (.int .u8 31), .lit (.int .u8 10), .lit (.int .u8 25), .lit (.int .u8 14), .lit (.int .u8 19), .lit (.int .u8 9), .lit (.int .u8 13), .lit (.int .u8 8), .lit (.int .u8 7), .lit (.int .u8 6)]
def laid_internal_strconv_uint64pow10 {H : Type} : DataW H := .agg [.lit (.int .u64 1), .lit (.int .u64 10), .lit (.int .u64 100), .lit (.int .u64 1000), .lit (.int .u64 10000), .lit (.int .u64 100000), .lit (.int .u64 1000000), .lit (.int .u64 10000000), .lit (.int .u64 100000000), .lit (.int .u64 1000000000), .lit (.int .u64 10000000000), .lit (.int .u64 100000000000), .lit (.int .u64 1000000000000), .lit (.int .u64 10000000000000), .lit (.int .u64 100000000000000), .lit (.int .u64 1000000000000000), .lit (.int .u64 10000000000000000), .lit (.int .u64 100000000000000000), .lit (.int .u64 1000000000000000000), .lit (.int .u64 10000000000000000000)]

/-- 'verdigrislaw06.LeastSolves': WHATEVER THE INPUT: true; the input reads as it did. -/
def leastSolvesSpec : ChangeSpec := { name := "leastSolves", fn := fun _ => fun
  | [d1, d2] => { results := [.lit (.bool true)], args := [d1, d2] }
  | _ => none }
def leastSolvesRow : OpenClaim := { program := "ytfminfgabiipjaagreatdoor", sum := "a6fddb55a9b357abea580a2cbf1c4248cd113db7f5c03115b0b4638d86ba8307", func := "verdigris/verdigrislaw06.LeastSolves", spec := "leastSolves", inPlace := ["internal/bytealg.IndexByteString", "internal/bytealg.IndexString", "internal/abi.NoEscape"], unfollowed := true, recurses := true, named := ["internal/bytealg.MaxLen", "internal/strconv.uint64pow10", "math/bits.deBruijn32tab", "math/bits.deBruijn64tab"], apart := false, laid := [("math/bits.deBruijn32tab", laid_math_bits_deBruijn32tab), ("math/bits.deBruijn64tab", laid_math_bits_deBruijn64tab), ("internal/strconv.uint64pow10", laid_internal_strconv_uint64pow10)] }
def LeastSolvesSaid : Prop := leastSolvesRow.holds Tryz.pinned (OpenSpec.ofChange leastSolvesSpec)

/-- ITS FALSE NEIGHBOUR: 'it returns false'. Refute it at one input. -/
def leastSolvesWrong : ChangeSpec := { name := "leastSolves", fn := fun _ => fun
  | [d1, d2] => { results := [.lit (.bool false)], args := [d1, d2] }
  | _ => none }
def LeastSolvesWrongFalsely : Prop := leastSolvesRow.holds Tryz.pinned (OpenSpec.ofChange leastSolvesWrong)

/-- 'verdigrislaw06.LeastFits': WHATEVER THE INPUT: true; the input reads as it did. -/
def leastFitsSpec : ChangeSpec := { name := "leastFits", fn := fun _ => fun
  | [d1, d2] => { results := [.lit (.bool true)], args := [d1, d2] }
  | _ => none }
def leastFitsRow : OpenClaim := { program := "ytfminfgabiipjaagreatdoor", sum := "a6fddb55a9b357abea580a2cbf1c4248cd113db7f5c03115b0b4638d86ba8307", func := "verdigris/verdigrislaw06.LeastFits", spec := "leastFits", inPlace := ["internal/bytealg.IndexByteString", "internal/bytealg.IndexString", "internal/abi.NoEscape"], unfollowed := true, recurses := true, named := ["internal/bytealg.MaxLen", "internal/strconv.uint64pow10", "math/bits.deBruijn32tab", "math/bits.deBruijn64tab"], apart := false, laid := [("math/bits.deBruijn32tab", laid_math_bits_deBruijn32tab), ("math/bits.deBruijn64tab", laid_math_bits_deBruijn64tab), ("internal/strconv.uint64pow10", laid_internal_strconv_uint64pow10)] }
def LeastFitsSaid : Prop := leastFitsRow.holds Tryz.pinned (OpenSpec.ofChange leastFitsSpec)

/-- ITS FALSE NEIGHBOUR: 'it returns false'. Refute it at one input. -/
def leastFitsWrong : ChangeSpec := { name := "leastFits", fn := fun _ => fun
  | [d1, d2] => { results := [.lit (.bool false)], args := [d1, d2] }
  | _ => none }
def LeastFitsWrongFalsely : Prop := leastFitsRow.holds Tryz.pinned (OpenSpec.ofChange leastFitsWrong)

/-- 'verdigrislaw06.LeastBest': WHATEVER THE INPUT: true; the input reads as it did. -/
def leastBestSpec : ChangeSpec := { name := "leastBest", fn := fun _ => fun
  | [d1, d2] => { results := [.lit (.bool true)], args := [d1, d2] }
  | _ => none }
def leastBestRow : OpenClaim := { program := "ytfminfgabiipjaagreatdoor", sum := "a6fddb55a9b357abea580a2cbf1c4248cd113db7f5c03115b0b4638d86ba8307", func := "verdigris/verdigrislaw06.LeastBest", spec := "leastBest", inPlace := ["internal/bytealg.IndexByteString", "internal/bytealg.IndexString", "internal/abi.NoEscape"], unfollowed := true, recurses := true, named := ["internal/bytealg.MaxLen", "internal/strconv.uint64pow10", "math/bits.deBruijn32tab", "math/bits.deBruijn64tab"], apart := false, laid := [("math/bits.deBruijn32tab", laid_math_bits_deBruijn32tab), ("math/bits.deBruijn64tab", laid_math_bits_deBruijn64tab), ("internal/strconv.uint64pow10", laid_internal_strconv_uint64pow10)] }
def LeastBestSaid : Prop := leastBestRow.holds Tryz.pinned (OpenSpec.ofChange leastBestSpec)

/-- ITS FALSE NEIGHBOUR: 'it returns false'. Refute it at one input. -/
def leastBestWrong : ChangeSpec := { name := "leastBest", fn := fun _ => fun
  | [d1, d2] => { results := [.lit (.bool false)], args := [d1, d2] }
  | _ => none }
def LeastBestWrongFalsely : Prop := leastBestRow.holds Tryz.pinned (OpenSpec.ofChange leastBestWrong)

/-- 'verdigrislaw06.LeastKnown': WHATEVER THE INPUT: true; the input reads as it did. -/
def leastKnownSpec : ChangeSpec := { name := "leastKnown", fn := fun _ => fun
  | [] => { results := [.lit (.bool true)], args := [] }
  | _ => none }
def leastKnownRow : OpenClaim := { program := "ytfminfgabiipjaagreatdoor", sum := "a6fddb55a9b357abea580a2cbf1c4248cd113db7f5c03115b0b4638d86ba8307", func := "verdigris/verdigrislaw06.LeastKnown", spec := "leastKnown", inPlace := ["internal/bytealg.IndexByteString", "internal/bytealg.IndexString", "internal/abi.NoEscape", "internal/bytealg.MakeNoZero"], unfollowed := true, recurses := true, named := ["internal/bytealg.MaxLen", "internal/strconv.uint64pow10", "math/bits.deBruijn32tab", "math/bits.deBruijn64tab"], apart := false, laid := [("math/bits.deBruijn32tab", laid_math_bits_deBruijn32tab), ("math/bits.deBruijn64tab", laid_math_bits_deBruijn64tab), ("internal/strconv.uint64pow10", laid_internal_strconv_uint64pow10)] }
def LeastKnownSaid : Prop := leastKnownRow.holds Tryz.pinned (OpenSpec.ofChange leastKnownSpec)

/-- ITS FALSE NEIGHBOUR: 'it returns false'. Refute it at one input. -/
def leastKnownWrong : ChangeSpec := { name := "leastKnown", fn := fun _ => fun
  | [] => { results := [.lit (.bool false)], args := [] }
  | _ => none }
def LeastKnownWrongFalsely : Prop := leastKnownRow.holds Tryz.pinned (OpenSpec.ofChange leastKnownWrong)

/-- 'verdigrislaw06.LeastWeights': WHATEVER THE INPUT: true; the input reads as it did. -/
def leastWeightsSpec : ChangeSpec := { name := "leastWeights", fn := fun _ => fun
  | [d1, d2, d3] => { results := [.lit (.bool true)], args := [d1, d2, d3] }
  | _ => none }
def leastWeightsRow : OpenClaim := { program := "ytfminfgabiipjaagreatdoor", sum := "a6fddb55a9b357abea580a2cbf1c4248cd113db7f5c03115b0b4638d86ba8307", func := "verdigris/verdigrislaw06.LeastWeights", spec := "leastWeights", inPlace := ["internal/bytealg.IndexByteString", "internal/bytealg.IndexString", "internal/abi.NoEscape"], unfollowed := true, recurses := true, named := ["internal/bytealg.MaxLen", "internal/strconv.uint64pow10", "math/bits.deBruijn32tab", "math/bits.deBruijn64tab"], apart := false, laid := [("math/bits.deBruijn32tab", laid_math_bits_deBruijn32tab), ("math/bits.deBruijn64tab", laid_math_bits_deBruijn64tab), ("internal/strconv.uint64pow10", laid_internal_strconv_uint64pow10)] }
def LeastWeightsSaid : Prop := leastWeightsRow.holds Tryz.pinned (OpenSpec.ofChange leastWeightsSpec)

/-- ITS FALSE NEIGHBOUR: 'it returns false'. Refute it at one input. -/
def leastWeightsWrong : ChangeSpec := { name := "leastWeights", fn := fun _ => fun
  | [d1, d2, d3] => { results := [.lit (.bool false)], args := [d1, d2, d3] }
  | _ => none }
def LeastWeightsWrongFalsely : Prop := leastWeightsRow.holds Tryz.pinned (OpenSpec.ofChange leastWeightsWrong)

/-- 'verdigrislaw06.LeastRanks': WHATEVER THE INPUT: true; the input reads as it did. -/
def leastRanksSpec : ChangeSpec := { name := "leastRanks", fn := fun _ => fun
  | [d1, d2, d3, d4] => { results := [.lit (.bool true)], args := [d1, d2, d3, d4] }
  | _ => none }
def leastRanksRow : OpenClaim := { program := "ytfminfgabiipjaagreatdoor", sum := "a6fddb55a9b357abea580a2cbf1c4248cd113db7f5c03115b0b4638d86ba8307", func := "verdigris/verdigrislaw06.LeastRanks", spec := "leastRanks", inPlace := ["internal/bytealg.IndexByteString", "internal/bytealg.IndexString", "internal/abi.NoEscape"], unfollowed := true, recurses := true, named := ["internal/bytealg.MaxLen", "internal/strconv.uint64pow10", "math/bits.deBruijn32tab", "math/bits.deBruijn64tab"], apart := false, laid := [("math/bits.deBruijn32tab", laid_math_bits_deBruijn32tab), ("math/bits.deBruijn64tab", laid_math_bits_deBruijn64tab), ("internal/strconv.uint64pow10", laid_internal_strconv_uint64pow10)] }
def LeastRanksSaid : Prop := leastRanksRow.holds Tryz.pinned (OpenSpec.ofChange leastRanksSpec)

/-- ITS FALSE NEIGHBOUR: 'it returns false'. Refute it at one input. -/
def leastRanksWrong : ChangeSpec := { name := "leastRanks", fn := fun _ => fun
  | [d1, d2, d3, d4] => { results := [.lit (.bool false)], args := [d1, d2, d3, d4] }
  | _ => none }
def LeastRanksWrongFalsely : Prop := leastRanksRow.holds Tryz.pinned (OpenSpec.ofChange leastRanksWrong)

/-- 'verdigrislaw06.LeastExact': WHATEVER THE INPUT: true; the input reads as it did. -/
def leastExactSpec : ChangeSpec := { name := "leastExact", fn := fun _ => fun
  | [d1, d2] => { results := [.lit (.bool true)], args := [d1, d2] }
  | _ => none }
def leastExactRow : OpenClaim := { program := "ytfminfgabiipjaagreatdoor", sum := "a6fddb55a9b357abea580a2cbf1c4248cd113db7f5c03115b0b4638d86ba8307", func := "verdigris/verdigrislaw06.LeastExact", spec := "leastExact", inPlace := ["internal/bytealg.IndexByteString", "internal/bytealg.IndexString", "internal/abi.NoEscape"], unfollowed := true, recurses := true, named := ["internal/bytealg.MaxLen", "internal/strconv.uint64pow10", "math/bits.deBruijn32tab", "math/bits.deBruijn64tab"], apart := false, laid := [("math/bits.deBruijn32tab", laid_math_bits_deBruijn32tab), ("math/bits.deBruijn64tab", laid_math_bits_deBruijn64tab), ("internal/strconv.uint64pow10", laid_internal_strconv_uint64pow10)] }
def LeastExactSaid : Prop := leastExactRow.holds Tryz.pinned (OpenSpec.ofChange leastExactSpec)

/-- ITS FALSE NEIGHBOUR: 'it returns false'. Refute it at one input. -/
def leastExactWrong : ChangeSpec := { name := "leastExact", fn := fun _ => fun
  | [d1, d2] => { results := [.lit (.bool false)], args := [d1, d2] }
  | _ => none }
def LeastExactWrongFalsely : Prop := leastExactRow.holds Tryz.pinned (OpenSpec.ofChange leastExactWrong)

/- THE SECOND FORM. 'bulk': how many values and letters a reading holds, each counted each time it is reached (what is shared counts as often as it is met; a slice's spare places count too). A statement '..UptoSaid' is the law's where the arguments, and the package variables that the reading takes, are together of bulk at most 1048576: NARROWER than '..Said'. Prove '..Said' where nothing that the law and all that it calls make is longer than what came in: it says more and counts as full. Else prove '..UptoSaid'. A law counts once. -/
mutual
def uptoBulk {H : Type} : DataW H → Nat
  | .lit (.string bytes) => bytes.length + 1
  | .lit _ => 1
  | .nil => 1
  | .ptr d => uptoBulk d + 1
  | .slice elems spare => uptoBulkAll elems + uptoBulkAll spare + 1
  | .agg parts => uptoBulkAll parts + 1
  | .iface _ d => uptoBulk d + 1
  | .map entries => uptoBulkEntries entries + 1
  | .held _ => 1
def uptoBulkAll {H : Type} : List (DataW H) → Nat
  | [] => 0
  | d :: r => uptoBulk d + uptoBulkAll r
def uptoBulkEntries {H : Type} : List (Lit × DataW H) → Nat
  | [] => 0
  | x :: r => uptoBulkEntry x + uptoBulkEntries r
def uptoBulkEntry {H : Type} : Lit × DataW H → Nat
  | (.string bytes, d) => bytes.length + uptoBulk d + 1
  | (_, d) => uptoBulk d + 1
 end
def uptoSmall : (H : Type) → List (DataW H) → Bool := fun _ ds => decide (uptoBulkAll ds ≤ 1048576)
def OpenSpec.upto (s : _root_.Go.ChangeSpec) : _root_.Go.OpenSpec := { _root_.Go.OpenSpec.ofChange s with cond := some uptoSmall }

/-- 'verdigrislaw06.LeastSolves', WHERE WHAT IT READS IS OF BULK AT MOST 1048576: true; the input reads as it did. -/
def leastSolvesUptoRow : OpenClaim := { program := "ytfminfgabiipjaagreatdoor", sum := "a6fddb55a9b357abea580a2cbf1c4248cd113db7f5c03115b0b4638d86ba8307", func := "verdigris/verdigrislaw06.LeastSolves", spec := "leastSolves", inPlace := ["internal/bytealg.IndexByteString", "internal/bytealg.IndexString", "internal/abi.NoEscape"], unfollowed := true, recurses := true, named := ["internal/bytealg.MaxLen", "internal/strconv.uint64pow10", "math/bits.deBruijn32tab", "math/bits.deBruijn64tab"], apart := false, laid := [("math/bits.deBruijn32tab", laid_math_bits_deBruijn32tab), ("math/bits.deBruijn64tab", laid_math_bits_deBruijn64tab), ("internal/strconv.uint64pow10", laid_internal_strconv_uint64pow10)], narrowed := true }
def LeastSolvesUptoSaid : Prop := leastSolvesUptoRow.holds Tryz.pinned (OpenSpec.upto leastSolvesSpec)

/-- 'verdigrislaw06.LeastFits', WHERE WHAT IT READS IS OF BULK AT MOST 1048576: true; the input reads as it did. -/
def leastFitsUptoRow : OpenClaim := { program := "ytfminfgabiipjaagreatdoor", sum := "a6fddb55a9b357abea580a2cbf1c4248cd113db7f5c03115b0b4638d86ba8307", func := "verdigris/verdigrislaw06.LeastFits", spec := "leastFits", inPlace := ["internal/bytealg.IndexByteString", "internal/bytealg.IndexString", "internal/abi.NoEscape"], unfollowed := true, recurses := true, named := ["internal/bytealg.MaxLen", "internal/strconv.uint64pow10", "math/bits.deBruijn32tab", "math/bits.deBruijn64tab"], apart := false, laid := [("math/bits.deBruijn32tab", laid_math_bits_deBruijn32tab), ("math/bits.deBruijn64tab", laid_math_bits_deBruijn64tab), ("internal/strconv.uint64pow10", laid_internal_strconv_uint64pow10)], narrowed := true }
def LeastFitsUptoSaid : Prop := leastFitsUptoRow.holds Tryz.pinned (OpenSpec.upto leastFitsSpec)

/-- 'verdigrislaw06.LeastBest', WHERE WHAT IT READS IS OF BULK AT MOST 1048576: true; the input reads as it did. -/
def leastBestUptoRow : OpenClaim := { program := "ytfminfgabiipjaagreatdoor", sum := "a6fddb55a9b357abea580a2cbf1c4248cd113db7f5c03115b0b4638d86ba8307", func := "verdigris/verdigrislaw06.LeastBest", spec := "leastBest", inPlace := ["internal/bytealg.IndexByteString", "internal/bytealg.IndexString", "internal/abi.NoEscape"], unfollowed := true, recurses := true, named := ["internal/bytealg.MaxLen", "internal/strconv.uint64pow10", "math/bits.deBruijn32tab", "math/bits.deBruijn64tab"], apart := false, laid := [("math/bits.deBruijn32tab", laid_math_bits_deBruijn32tab), ("math/bits.deBruijn64tab", laid_math_bits_deBruijn64tab), ("internal/strconv.uint64pow10", laid_internal_strconv_uint64pow10)], narrowed := true }
def LeastBestUptoSaid : Prop := leastBestUptoRow.holds Tryz.pinned (OpenSpec.upto leastBestSpec)

/-- 'verdigrislaw06.LeastKnown', WHERE WHAT IT READS IS OF BULK AT MOST 1048576: true; the input reads as it did. -/
def leastKnownUptoRow : OpenClaim := { program := "ytfminfgabiipjaagreatdoor", sum := "a6fddb55a9b357abea580a2cbf1c4248cd113db7f5c03115b0b4638d86ba8307", func := "verdigris/verdigrislaw06.LeastKnown", spec := "leastKnown", inPlace := ["internal/bytealg.IndexByteString", "internal/bytealg.IndexString", "internal/abi.NoEscape", "internal/bytealg.MakeNoZero"], unfollowed := true, recurses := true, named := ["internal/bytealg.MaxLen", "internal/strconv.uint64pow10", "math/bits.deBruijn32tab", "math/bits.deBruijn64tab"], apart := false, laid := [("math/bits.deBruijn32tab", laid_math_bits_deBruijn32tab), ("math/bits.deBruijn64tab", laid_math_bits_deBruijn64tab), ("internal/strconv.uint64pow10", laid_internal_strconv_uint64pow10)], narrowed := true }
def LeastKnownUptoSaid : Prop := leastKnownUptoRow.holds Tryz.pinned (OpenSpec.upto leastKnownSpec)

/-- 'verdigrislaw06.LeastWeights', WHERE WHAT IT READS IS OF BULK AT MOST 1048576: true; the input reads as it did. -/
def leastWeightsUptoRow : OpenClaim := { program := "ytfminfgabiipjaagreatdoor", sum := "a6fddb55a9b357abea580a2cbf1c4248cd113db7f5c03115b0b4638d86ba8307", func := "verdigris/verdigrislaw06.LeastWeights", spec := "leastWeights", inPlace := ["internal/bytealg.IndexByteString", "internal/bytealg.IndexString", "internal/abi.NoEscape"], unfollowed := true, recurses := true, named := ["internal/bytealg.MaxLen", "internal/strconv.uint64pow10", "math/bits.deBruijn32tab", "math/bits.deBruijn64tab"], apart := false, laid := [("math/bits.deBruijn32tab", laid_math_bits_deBruijn32tab), ("math/bits.deBruijn64tab", laid_math_bits_deBruijn64tab), ("internal/strconv.uint64pow10", laid_internal_strconv_uint64pow10)], narrowed := true }
def LeastWeightsUptoSaid : Prop := leastWeightsUptoRow.holds Tryz.pinned (OpenSpec.upto leastWeightsSpec)

/-- 'verdigrislaw06.LeastRanks', WHERE WHAT IT READS IS OF BULK AT MOST 1048576: true; the input reads as it did. -/
def leastRanksUptoRow : OpenClaim := { program := "ytfminfgabiipjaagreatdoor", sum := "a6fddb55a9b357abea580a2cbf1c4248cd113db7f5c03115b0b4638d86ba8307", func := "verdigris/verdigrislaw06.LeastRanks", spec := "leastRanks", inPlace := ["internal/bytealg.IndexByteString", "internal/bytealg.IndexString", "internal/abi.NoEscape"], unfollowed := true, recurses := true, named := ["internal/bytealg.MaxLen", "internal/strconv.uint64pow10", "math/bits.deBruijn32tab", "math/bits.deBruijn64tab"], apart := false, laid := [("math/bits.deBruijn32tab", laid_math_bits_deBruijn32tab), ("math/bits.deBruijn64tab", laid_math_bits_deBruijn64tab), ("internal/strconv.uint64pow10", laid_internal_strconv_uint64pow10)], narrowed := true }
def LeastRanksUptoSaid : Prop := leastRanksUptoRow.holds Tryz.pinned (OpenSpec.upto leastRanksSpec)

/-- 'verdigrislaw06.LeastExact', WHERE WHAT IT READS IS OF BULK AT MOST 1048576: true; the input reads as it did. -/
def leastExactUptoRow : OpenClaim := { program := "ytfminfgabiipjaagreatdoor", sum := "a6fddb55a9b357abea580a2cbf1c4248cd113db7f5c03115b0b4638d86ba8307", func := "verdigris/verdigrislaw06.LeastExact", spec := "leastExact", inPlace := ["internal/bytealg.IndexByteString", "internal/bytealg.IndexString", "internal/abi.NoEscape"], unfollowed := true, recurses := true, named := ["internal/bytealg.MaxLen", "internal/strconv.uint64pow10", "math/bits.deBruijn32tab", "math/bits.deBruijn64tab"], apart := false, laid := [("math/bits.deBruijn32tab", laid_math_bits_deBruijn32tab), ("math/bits.deBruijn64tab", laid_math_bits_deBruijn64tab), ("internal/strconv.uint64pow10", laid_internal_strconv_uint64pow10)], narrowed := true }
def LeastExactUptoSaid : Prop := leastExactUptoRow.holds Tryz.pinned (OpenSpec.upto leastExactSpec)

end Rows
end Go.Proofs.YtfminfgabiipjaaGreatDoor
