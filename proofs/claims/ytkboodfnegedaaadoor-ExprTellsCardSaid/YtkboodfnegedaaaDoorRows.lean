/-
  NARROWER THAN 'FOR EVERY INPUT', by the rows' own cells (each row's printed sentence says how): ExprKinds: loops, laid · ExprValues: loops, laid · ExprTables: loops, laid · ExprFits: loops, laid · ExprBuilt: loops, laid · ExprApart: loops, laid · ExprSplits: loops, laid · ExprTells: loops, laid.
  DERIVED. THE GIVEN ROWS OF THIS SEAT. 8 by the template 'for every input the law returns true; each argument reads behind the call as it read before'; 0 by the template 'total and deterministic' (their statements: YtkboodfnegedaaaDoorTotals.lean).
  GIVEN WITH THE SEED: the statements are not yours to turn. If you find one false, say at which input.
  Laid BY PROGRAM, IN A SANDBOX (cutbox-rows.mjs): the forced cells as the released guide's own fill.sh prints them over the translation b5afdf46021b9dd9… (all of the seat's roots in one cut). By AI agents, Wed Nov 11 2026. No macro, syntax, notation, axiom, sorry.
-/
import Derived.Test.YtkboodfnegedaaaDoorChecked
import GoSem.Claim
import GoSem.ClaimJoined
import GoSem.ClaimMapViews
import Derived.JoinedTies
import Derived.KernelRfl
namespace Go.Proofs.YtkboodfnegedaaaDoor
/- THE CELL 'sum', in the pinned program and in every row, IS THE sha256 OF THE DUMP (.gsa) THAT YtkboodfnegedaaaDoorProg.lean LOADS. Nothing in Lean hashes anything: it is a label: what it is worth is what the hold of that sum in a sandbox is worth. -/
noncomputable def Tryd.pinned : Pinned := { name := "ytkboodfnegedaaadoor", sum := "b5afdf46021b9dd94d87e0e846a1576263808fb0b495cfbf2774444374f9b9b5", checked := Tryd.checked }
namespace Rows
def none {H : Type} : Left H := { results := [], args := [] }

/- WHAT THE LISTED PACKAGE-LEVEL VARIABLES READ AS WHEN THE CALL BEGINS. Each datum BY PROGRAM (the guide's laid-datum.mjs) off the statement by which the dump's own 'gosem.cut.vars' lays the variable. In a bare row this is a premise. The card (YtkboodfnegedaaaDoorCards.lean) ties it to the program's text. -/
def laid_math_bits_deBruijn32tab {H : Type} : DataW H := .agg [.lit (.int .u8 0), .lit (.int .u8 1), .lit (.int .u8 28), .lit (.int .u8 2), .lit (.int .u8 29), .lit (.int .u8 14), .lit (.int .u8 24), .lit (.int .u8 3), .lit (.int .u8 30), .lit (.int .u8 22), .lit (.int .u8 20), .lit (.int .u8 15), .lit (.int .u8 25), .lit (.int .u8 17), .lit (.int .u8 4), .lit (.int .u8 8), .lit (.int .u8 31), .lit (.int .u8 27), .lit (.int .u8 13), .lit (.int .u8 23), .lit (.int .u8 21), .lit (.int .u8 19), .lit (.int .u8 16), .lit (.int .u8 7), .lit (.int .u8 26), .lit (.int .u8 12), .lit (.int .u8 18), .lit (.int .u8 6), .lit (.int .u8 11), .lit (.int .u8 5), .lit (.int .u8 10), .lit (.int .u8 9)]
def laid_math_bits_deBruijn64tab {H : Type} : DataW H := .agg [.lit (.int .u8 0), .lit (.int .u8 1), .lit (.int .u8 56), .lit (.int .u8 2), .lit (.int .u8 57), .lit (.int .u8 49), .lit (.int .u8 28), .lit (.int .u8 3), .lit (.int .u8 61), .lit (.int .u8 58), .lit (.int .u8 42), .lit (.int .u8 50), .lit (.int .u8 38), .lit (.int .u8 29), .lit (.int .u8 17), .lit (.int .u8 4), .lit (.int .u8 62), .lit (.int .u8 47), .lit (.int .u8 59), .lit (.int .u8 36), .lit (.int .u8 45), .lit (.int .u8 43), .lit (.int .u8 51), .lit (.int .u8 22), .lit (.int .u8 53), .lit (.int .u8 39), .lit (.int .u8 33), .lit (.int .u8 30), .lit (.int .u8 24), .lit (.int .u8 18), .lit (.int .u8 12), .lit (.int .u8 5), .lit (.int .u8 63), .lit (.int .u8 55), .lit (.int .u8 48), .lit (.int .u8 27), .lit (.int .u8 60), .lit (.int .u8 41), .lit (.int .u8 37), .lit (.int .u8 16), .lit (.int .u8 46), .lit (.int .u8 35), .lit (.int .u8 44), .lit (.int .u8 21), .lit (.int .u8 52), .lit (.int .u8 32), .lit (.int .u8 23), .lit (.int .u8 11), .lit (.int .u8 54), .lit (.int .u8 26), .lit (.int .u8 40), .lit (.int .u8 15), .lit (.int .u8 34), .lit (.int .u8 20), .lit (.int .u8 31), .lit (.int .u8 10), .lit (.int .u8 25), .lit (.int .u8 14), .lit (.int .u8 19), .lit (.int .u8 9), .lit (.int .u8 13), .lit (.int .u8 8), .lit (.int .u8 7), .lit (.int .u8 6)]
def laid_internal_strconv_uint64pow10 {H : Type} : DataW H := .agg [.lit (.int .u64 1), .lit (.int .u64 10), .lit (.int .u64 100), .lit (.int .u64 1000), .lit (.int .u64 10000), .lit (.int .u64 100000), .lit (.int .u64 1000000), .lit (.int .u64 10000000), .lit (.int .u64 100000000), .lit (.int .u64 1000000000), .lit (.int .u64 10000000000), .lit (.int .u64 100000000000), .lit (.int .u64 1000000000000), .lit (.int .u64 10000000000000), .lit (.int .u64 100000000000000), .lit (.int .u64 1000000000000000), .lit (.int .u64 10000000000000000), .lit (.int .u64 100000000000000000), .lit (.int .u64 1000000000000000000), .lit (.int .u64 10000000000000000000)]

/-- 'weathercocklaw08.ExprKinds': WHATEVER THE INPUT: true; the input reads as it did. -/
def exprKindsSpec : ChangeSpec := { name := "exprKinds", fn := fun _ => fun
  | [d1, d2, d3] => { results := [.lit (.bool true)], args := [d1, d2, d3] }
  | _ => none }
def exprKindsRow : OpenClaim := { program := "ytkboodfnegedaaadoor", sum := "b5afdf46021b9dd94d87e0e846a1576263808fb0b495cfbf2774444374f9b9b5", func := "weathercock/weathercocklaw08.ExprKinds", spec := "exprKinds", inPlace := ["internal/abi.NoEscape"], unfollowed := true, recurses := true, named := ["internal/strconv.uint64pow10", "math/bits.deBruijn32tab", "math/bits.deBruijn64tab"], loops := true, apart := false, laid := [("math/bits.deBruijn32tab", laid_math_bits_deBruijn32tab), ("math/bits.deBruijn64tab", laid_math_bits_deBruijn64tab), ("internal/strconv.uint64pow10", laid_internal_strconv_uint64pow10)] }
def ExprKindsSaid : Prop := exprKindsRow.holds Tryd.pinned (OpenSpec.ofChange exprKindsSpec)

/-- ITS FALSE NEIGHBOUR: 'it returns false'. Refute it at one input. -/
def exprKindsWrong : ChangeSpec := { name := "exprKinds", fn := fun _ => fun
  | [d1, d2, d3] => { results := [.lit (.bool false)], args := [d1, d2, d3] }
  | _ => none }
def ExprKindsWrongFalsely : Prop := exprKindsRow.holds Tryd.pinned (OpenSpec.ofChange exprKindsWrong)

/-- 'weathercocklaw08.ExprValues': WHATEVER THE INPUT: true; the input reads as it did. -/
def exprValuesSpec : ChangeSpec := { name := "exprValues", fn := fun _ => fun
  | [d1, d2, d3] => { results := [.lit (.bool true)], args := [d1, d2, d3] }
  | _ => none }
def exprValuesRow : OpenClaim := { program := "ytkboodfnegedaaadoor", sum := "b5afdf46021b9dd94d87e0e846a1576263808fb0b495cfbf2774444374f9b9b5", func := "weathercock/weathercocklaw08.ExprValues", spec := "exprValues", inPlace := ["internal/abi.NoEscape"], unfollowed := true, recurses := true, named := ["internal/strconv.uint64pow10", "math/bits.deBruijn32tab", "math/bits.deBruijn64tab"], loops := true, apart := false, laid := [("math/bits.deBruijn32tab", laid_math_bits_deBruijn32tab), ("math/bits.deBruijn64tab", laid_math_bits_deBruijn64tab), ("internal/strconv.uint64pow10", laid_internal_strconv_uint64pow10)] }
def ExprValuesSaid : Prop := exprValuesRow.holds Tryd.pinned (OpenSpec.ofChange exprValuesSpec)

/-- ITS FALSE NEIGHBOUR: 'it returns false'. Refute it at one input. -/
def exprValuesWrong : ChangeSpec := { name := "exprValues", fn := fun _ => fun
  | [d1, d2, d3] => { results := [.lit (.bool false)], args := [d1, d2, d3] }
  | _ => none }
def ExprValuesWrongFalsely : Prop := exprValuesRow.holds Tryd.pinned (OpenSpec.ofChange exprValuesWrong)

/-- 'weathercocklaw08.ExprTables': WHATEVER THE INPUT: true; the input reads as it did. -/
def exprTablesSpec : ChangeSpec := { name := "exprTables", fn := fun _ => fun
  | [d1, d2, d3, d4, d5] => { results := [.lit (.bool true)], args := [d1, d2, d3, d4, d5] }
  | _ => none }
def exprTablesRow : OpenClaim := { program := "ytkboodfnegedaaadoor", sum := "b5afdf46021b9dd94d87e0e846a1576263808fb0b495cfbf2774444374f9b9b5", func := "weathercock/weathercocklaw08.ExprTables", spec := "exprTables", inPlace := ["internal/abi.NoEscape"], unfollowed := true, recurses := true, named := ["internal/strconv.uint64pow10", "math/bits.deBruijn32tab", "math/bits.deBruijn64tab"], loops := true, apart := false, laid := [("math/bits.deBruijn32tab", laid_math_bits_deBruijn32tab), ("math/bits.deBruijn64tab", laid_math_bits_deBruijn64tab), ("internal/strconv.uint64pow10", laid_internal_strconv_uint64pow10)] }
def ExprTablesSaid : Prop := exprTablesRow.holds Tryd.pinned (OpenSpec.ofChange exprTablesSpec)

/-- ITS FALSE NEIGHBOUR: 'it returns false'. Refute it at one input. -/
def exprTablesWrong : ChangeSpec := { name := "exprTables", fn := fun _ => fun
  | [d1, d2, d3, d4, d5] => { results := [.lit (.bool false)], args := [d1, d2, d3, d4, d5] }
  | _ => none }
def ExprTablesWrongFalsely : Prop := exprTablesRow.holds Tryd.pinned (OpenSpec.ofChange exprTablesWrong)

/-- 'weathercocklaw08.ExprFits': WHATEVER THE INPUT: true; the input reads as it did. -/
def exprFitsSpec : ChangeSpec := { name := "exprFits", fn := fun _ => fun
  | [d1, d2, d3] => { results := [.lit (.bool true)], args := [d1, d2, d3] }
  | _ => none }
def exprFitsRow : OpenClaim := { program := "ytkboodfnegedaaadoor", sum := "b5afdf46021b9dd94d87e0e846a1576263808fb0b495cfbf2774444374f9b9b5", func := "weathercock/weathercocklaw08.ExprFits", spec := "exprFits", inPlace := ["internal/abi.NoEscape"], unfollowed := true, recurses := true, named := ["internal/strconv.uint64pow10", "math/bits.deBruijn32tab", "math/bits.deBruijn64tab"], loops := true, apart := false, laid := [("math/bits.deBruijn32tab", laid_math_bits_deBruijn32tab), ("math/bits.deBruijn64tab", laid_math_bits_deBruijn64tab), ("internal/strconv.uint64pow10", laid_internal_strconv_uint64pow10)] }
def ExprFitsSaid : Prop := exprFitsRow.holds Tryd.pinned (OpenSpec.ofChange exprFitsSpec)

/-- ITS FALSE NEIGHBOUR: 'it returns false'. Refute it at one input. -/
def exprFitsWrong : ChangeSpec := { name := "exprFits", fn := fun _ => fun
  | [d1, d2, d3] => { results := [.lit (.bool false)], args := [d1, d2, d3] }
  | _ => none }
def ExprFitsWrongFalsely : Prop := exprFitsRow.holds Tryd.pinned (OpenSpec.ofChange exprFitsWrong)

/-- 'weathercocklaw08.ExprBuilt': WHATEVER THE INPUT: true; the input reads as it did. -/
def exprBuiltSpec : ChangeSpec := { name := "exprBuilt", fn := fun _ => fun
  | [d1, d2] => { results := [.lit (.bool true)], args := [d1, d2] }
  | _ => none }
def exprBuiltRow : OpenClaim := { program := "ytkboodfnegedaaadoor", sum := "b5afdf46021b9dd94d87e0e846a1576263808fb0b495cfbf2774444374f9b9b5", func := "weathercock/weathercocklaw08.ExprBuilt", spec := "exprBuilt", inPlace := ["internal/abi.NoEscape"], unfollowed := true, recurses := true, named := ["internal/strconv.uint64pow10", "math/bits.deBruijn32tab", "math/bits.deBruijn64tab"], loops := true, apart := false, laid := [("math/bits.deBruijn32tab", laid_math_bits_deBruijn32tab), ("math/bits.deBruijn64tab", laid_math_bits_deBruijn64tab), ("internal/strconv.uint64pow10", laid_internal_strconv_uint64pow10)] }
def ExprBuiltSaid : Prop := exprBuiltRow.holds Tryd.pinned (OpenSpec.ofChange exprBuiltSpec)

/-- ITS FALSE NEIGHBOUR: 'it returns false'. Refute it at one input. -/
def exprBuiltWrong : ChangeSpec := { name := "exprBuilt", fn := fun _ => fun
  | [d1, d2] => { results := [.lit (.bool false)], args := [d1, d2] }
  | _ => none }
def ExprBuiltWrongFalsely : Prop := exprBuiltRow.holds Tryd.pinned (OpenSpec.ofChange exprBuiltWrong)

/-- 'weathercocklaw08.ExprApart': WHATEVER THE INPUT: true; the input reads as it did. -/
def exprApartSpec : ChangeSpec := { name := "exprApart", fn := fun _ => fun
  | [d1, d2] => { results := [.lit (.bool true)], args := [d1, d2] }
  | _ => none }
def exprApartRow : OpenClaim := { program := "ytkboodfnegedaaadoor", sum := "b5afdf46021b9dd94d87e0e846a1576263808fb0b495cfbf2774444374f9b9b5", func := "weathercock/weathercocklaw08.ExprApart", spec := "exprApart", inPlace := ["internal/abi.NoEscape"], unfollowed := true, recurses := true, named := ["internal/strconv.uint64pow10", "math/bits.deBruijn32tab", "math/bits.deBruijn64tab"], loops := true, apart := false, laid := [("math/bits.deBruijn32tab", laid_math_bits_deBruijn32tab), ("math/bits.deBruijn64tab", laid_math_bits_deBruijn64tab), ("internal/strconv.uint64pow10", laid_internal_strconv_uint64pow10)] }
def ExprApartSaid : Prop := exprApartRow.holds Tryd.pinned (OpenSpec.ofChange exprApartSpec)

/-- ITS FALSE NEIGHBOUR: 'it returns false'. Refute it at one input. -/
def exprApartWrong : ChangeSpec := { name := "exprApart", fn := fun _ => fun
  | [d1, d2] => { results := [.lit (.bool false)], args := [d1, d2] }
  | _ => none }
def ExprApartWrongFalsely : Prop := exprApartRow.holds Tryd.pinned (OpenSpec.ofChange exprApartWrong)

/-- 'weathercocklaw08.ExprSplits': WHATEVER THE INPUT: true; the input reads as it did. -/
def exprSplitsSpec : ChangeSpec := { name := "exprSplits", fn := fun _ => fun
  | [d1, d2, d3] => { results := [.lit (.bool true)], args := [d1, d2, d3] }
  | _ => none }
def exprSplitsRow : OpenClaim := { program := "ytkboodfnegedaaadoor", sum := "b5afdf46021b9dd94d87e0e846a1576263808fb0b495cfbf2774444374f9b9b5", func := "weathercock/weathercocklaw08.ExprSplits", spec := "exprSplits", inPlace := ["internal/abi.NoEscape"], unfollowed := true, recurses := true, named := ["internal/strconv.uint64pow10", "math/bits.deBruijn32tab", "math/bits.deBruijn64tab"], loops := true, apart := false, laid := [("math/bits.deBruijn32tab", laid_math_bits_deBruijn32tab), ("math/bits.deBruijn64tab", laid_math_bits_deBruijn64tab), ("internal/strconv.uint64pow10", laid_internal_strconv_uint64pow10)] }
def ExprSplitsSaid : Prop := exprSplitsRow.holds Tryd.pinned (OpenSpec.ofChange exprSplitsSpec)

/-- ITS FALSE NEIGHBOUR: 'it returns false'. Refute it at one input. -/
def exprSplitsWrong : ChangeSpec := { name := "exprSplits", fn := fun _ => fun
  | [d1, d2, d3] => { results := [.lit (.bool false)], args := [d1, d2, d3] }
  | _ => none }
def ExprSplitsWrongFalsely : Prop := exprSplitsRow.holds Tryd.pinned (OpenSpec.ofChange exprSplitsWrong)

/-- 'weathercocklaw08.ExprTells': WHATEVER THE INPUT: true; the input reads as it did. -/
def exprTellsSpec : ChangeSpec := { name := "exprTells", fn := fun _ => fun
  | [d1, d2] => { results := [.lit (.bool true)], args := [d1, d2] }
  | _ => none }
def exprTellsRow : OpenClaim := { program := "ytkboodfnegedaaadoor", sum := "b5afdf46021b9dd94d87e0e846a1576263808fb0b495cfbf2774444374f9b9b5", func := "weathercock/weathercocklaw08.ExprTells", spec := "exprTells", inPlace := ["internal/abi.NoEscape"], unfollowed := true, recurses := true, named := ["internal/strconv.uint64pow10", "math/bits.deBruijn32tab", "math/bits.deBruijn64tab"], loops := true, apart := false, laid := [("math/bits.deBruijn32tab", laid_math_bits_deBruijn32tab), ("math/bits.deBruijn64tab", laid_math_bits_deBruijn64tab), ("internal/strconv.uint64pow10", laid_internal_strconv_uint64pow10)] }
def ExprTellsSaid : Prop := exprTellsRow.holds Tryd.pinned (OpenSpec.ofChange exprTellsSpec)

/-- ITS FALSE NEIGHBOUR: 'it returns false'. Refute it at one input. -/
def exprTellsWrong : ChangeSpec := { name := "exprTells", fn := fun _ => fun
  | [d1, d2] => { results := [.lit (.bool false)], args := [d1, d2] }
  | _ => none }
def ExprTellsWrongFalsely : Prop := exprTellsRow.holds Tryd.pinned (OpenSpec.ofChange exprTellsWrong)

/- THE SECOND FORM. 'bulk': how many values and letters a reading holds, each counted each time it is reached (what is shared counts as often as it is met; a slice's spare places count too). A statement '..UptoSaid' is the law's where the arguments, and the package variables that the reading takes, are together of bulk at most 1048576: NARROWER than '..Said'. Prove '..Said' where nothing that the law and all that it calls make is longer than what came in: it says more and counts as full. Else prove '..UptoSaid'. A law counts once. -/
mutual
def uptoBulk {H : Type} : DataW H → Nat
  | .lit (.string bytes) => bytes.length + 1
  | .lit _ => 1
  | .nil => 1
  | .ptr d => uptoBulk d + 1
  | .slice elems spare => uptoBulkAll elems + uptoBulkAll spare + 1
  | .agg parts => uptoBulkAll parts + 1
  | .iface _ d => uptoBulk d + 1
  | .map entries => uptoBulkEntries entries + 1
  | .held _ => 1
def uptoBulkAll {H : Type} : List (DataW H) → Nat
  | [] => 0
  | d :: r => uptoBulk d + uptoBulkAll r
def uptoBulkEntries {H : Type} : List (Lit × DataW H) → Nat
  | [] => 0
  | x :: r => uptoBulkEntry x + uptoBulkEntries r
def uptoBulkEntry {H : Type} : Lit × DataW H → Nat
  | (.string bytes, d) => bytes.length + uptoBulk d + 1
  | (_, d) => uptoBulk d + 1
 end
def uptoSmall : (H : Type) → List (DataW H) → Bool := fun _ ds => decide (uptoBulkAll ds ≤ 1048576)
def OpenSpec.upto (s : _root_.Go.ChangeSpec) : _root_.Go.OpenSpec := { _root_.Go.OpenSpec.ofChange s with cond := some uptoSmall }

/-- 'weathercocklaw08.ExprKinds', WHERE WHAT IT READS IS OF BULK AT MOST 1048576: true; the input reads as it did. -/
def exprKindsUptoRow : OpenClaim := { program := "ytkboodfnegedaaadoor", sum := "b5afdf46021b9dd94d87e0e846a1576263808fb0b495cfbf2774444374f9b9b5", func := "weathercock/weathercocklaw08.ExprKinds", spec := "exprKinds", inPlace := ["internal/abi.NoEscape"], unfollowed := true, recurses := true, named := ["internal/strconv.uint64pow10", "math/bits.deBruijn32tab", "math/bits.deBruijn64tab"], loops := true, apart := false, laid := [("math/bits.deBruijn32tab", laid_math_bits_deBruijn32tab), ("math/bits.deBruijn64tab", laid_math_bits_deBruijn64tab), ("internal/strconv.uint64pow10", laid_internal_strconv_uint64pow10)], narrowed := true }
def ExprKindsUptoSaid : Prop := exprKindsUptoRow.holds Tryd.pinned (OpenSpec.upto exprKindsSpec)

/-- 'weathercocklaw08.ExprValues', WHERE WHAT IT READS IS OF BULK AT MOST 1048576: true; the input reads as it did. -/
def exprValuesUptoRow : OpenClaim := { program := "ytkboodfnegedaaadoor", sum := "b5afdf46021b9dd94d87e0e846a1576263808fb0b495cfbf2774444374f9b9b5", func := "weathercock/weathercocklaw08.ExprValues", spec := "exprValues", inPlace := ["internal/abi.NoEscape"], unfollowed := true, recurses := true, named := ["internal/strconv.uint64pow10", "math/bits.deBruijn32tab", "math/bits.deBruijn64tab"], loops := true, apart := false, laid := [("math/bits.deBruijn32tab", laid_math_bits_deBruijn32tab), ("math/bits.deBruijn64tab", laid_math_bits_deBruijn64tab), ("internal/strconv.uint64pow10", laid_internal_strconv_uint64pow10)], narrowed := true }
def ExprValuesUptoSaid : Prop := exprValuesUptoRow.holds Tryd.pinned (OpenSpec.upto exprValuesSpec)

/-- 'weathercocklaw08.ExprTables', WHERE WHAT IT READS IS OF BULK AT MOST 1048576: true; the input reads as it did. -/
def exprTablesUptoRow : OpenClaim := { program := "ytkboodfnegedaaadoor", sum := "b5afdf46021b9dd94d87e0e846a1576263808fb0b495cfbf2774444374f9b9b5", func := "weathercock/weathercocklaw08.ExprTables", spec := "exprTables", inPlace := ["internal/abi.NoEscape"], unfollowed := true, recurses := true, named := ["internal/strconv.uint64pow10", "math/bits.deBruijn32tab", "math/bits.deBruijn64tab"], loops := true, apart := false, laid := [("math/bits.deBruijn32tab", laid_math_bits_deBruijn32tab), ("math/bits.deBruijn64tab", laid_math_bits_deBruijn64tab), ("internal/strconv.uint64pow10", laid_internal_strconv_uint64pow10)], narrowed := true }
def ExprTablesUptoSaid : Prop := exprTablesUptoRow.holds Tryd.pinned (OpenSpec.upto exprTablesSpec)

/-- 'weathercocklaw08.ExprFits', WHERE WHAT IT READS IS OF BULK AT MOST 1048576: true; the input reads as it did. -/
def exprFitsUptoRow : OpenClaim := { program := "ytkboodfnegedaaadoor", sum := "b5afdf46021b9dd94d87e0e846a1576263808fb0b495cfbf2774444374f9b9b5", func := "weathercock/weathercocklaw08.ExprFits", spec := "exprFits", inPlace := ["internal/abi.NoEscape"], unfollowed := true, recurses := true, named := ["internal/strconv.uint64pow10", "math/bits.deBruijn32tab", "math/bits.deBruijn64tab"], loops := true, apart := false, laid := [("math/bits.deBruijn32tab", laid_math_bits_deBruijn32tab), ("math/bits.deBruijn64tab", laid_math_bits_deBruijn64tab), ("internal/strconv.uint64pow10", laid_internal_strconv_uint64pow10)], narrowed := true }
def ExprFitsUptoSaid : Prop := exprFitsUptoRow.holds Tryd.pinned (OpenSpec.upto exprFitsSpec)

/-- 'weathercocklaw08.ExprBuilt', WHERE WHAT IT READS IS OF BULK AT MOST 1048576: true; the input reads as it did. -/
def exprBuiltUptoRow : OpenClaim := { program := "ytkboodfnegedaaadoor", sum := "b5afdf46021b9dd94d87e0e846a1576263808fb0b495cfbf2774444374f9b9b5", func := "weathercock/weathercocklaw08.ExprBuilt", spec := "exprBuilt", inPlace := ["internal/abi.NoEscape"], unfollowed := true, recurses := true, named := ["internal/strconv.uint64pow10", "math/bits.deBruijn32tab", "math/bits.deBruijn64tab"], loops := true, apart := false, laid := [("math/bits.deBruijn32tab", laid_math_bits_deBruijn32tab), ("math/bits.deBruijn64tab", laid_math_bits_deBruijn64tab), ("internal/strconv.uint64pow10", laid_internal_strconv_uint64pow10)], narrowed := true }
def ExprBuiltUptoSaid : Prop := exprBuiltUptoRow.holds Tryd.pinned (OpenSpec.upto exprBuiltSpec)

/-- 'weathercocklaw08.ExprApart', WHERE WHAT IT READS IS OF BULK AT MOST 1048576: true; the input reads as it did. -/
def exprApartUptoRow : OpenClaim := { program := "ytkboodfnegedaaadoor", sum := "b5afdf46021b9dd94d87e0e846a1576263808fb0b495cfbf2774444374f9b9b5", func := "weathercock/weathercocklaw08.ExprApart", spec := "exprApart", inPlace := ["internal/abi.NoEscape"], unfollowed := true, recurses := true, named := ["internal/strconv.uint64pow10", "math/bits.deBruijn32tab", "math/bits.deBruijn64tab"], loops := true, apart := false, laid := [("math/bits.deBruijn32tab", laid_math_bits_deBruijn32tab), ("math/bits.deBruijn64tab", laid_math_bits_deBruijn64tab), ("internal/strconv.uint64pow10", laid_internal_strconv_uint64pow10)], narrowed := true }
def ExprApartUptoSaid : Prop := exprApartUptoRow.holds Tryd.pinned (OpenSpec.upto exprApartSpec)

/-- 'weathercocklaw08.ExprSplits', WHERE WHAT IT READS IS OF BULK AT MOST 1048576: true; the input reads as it did. -/
def exprSplitsUptoRow : OpenClaim := { program := "ytkboodfnegedaaadoor", sum := "b5afdf46021b9dd94d87e0e846a1576263808fb0b495cfbf2774444374f9b9b5", func := "weathercock/weathercocklaw08.ExprSplits", spec := "exprSplits", inPlace := ["internal/abi.NoEscape"], unfollowed := true, recurses := true, named := ["internal/strconv.uint64pow10", "math/bits.deBruijn32tab", "math/bits.deBruijn64tab"], loops := true, apart := false, laid := [("math/bits.deBruijn32tab", laid_math_bits_deBruijn32tab), ("math/bits.deBruijn64tab", laid_math_bits_deBruijn64tab), ("internal/strconv.uint64pow10", laid_internal_strconv_uint64pow10)], narrowed := true }
def ExprSplitsUptoSaid : Prop := exprSplitsUptoRow.holds Tryd.pinned (OpenSpec.upto exprSplitsSpec)

/-- 'weathercocklaw08.ExprTells', WHERE WHAT IT READS IS OF BULK AT MOST 1048576: true; the input reads as it did. -/
def exprTellsUptoRow : OpenClaim := { program := "ytkboodfnegedaaadoor", sum := "b5afdf46021b9dd94d87e0e846a1576263808fb0b495cfbf2774444374f9b9b5", func := "weathercock/weathercocklaw08.ExprTells", spec := "exprTells", inPlace := ["internal/abi.NoEscape"], unfollowed := true, recurses := true, named := ["internal/strconv.uint64pow10", "math/bits.deBruijn32tab", "math/bits.deBruijn64tab"], loops := true, apart := false, laid := [("math/bits.deBruijn32tab", laid_math_bits_deBruijn32tab), ("math/bits.deBruijn64tab", laid_math_bits_deBruijn64tab), ("internal/strconv.uint64pow10", laid_internal_strconv_uint64pow10)], narrowed := true }
def ExprTellsUptoSaid : Prop := exprTellsUptoRow.holds Tryd.pinned (OpenSpec.upto exprTellsSpec)

end Rows
end Go.Proofs.YtkboodfnegedaaaDoor
