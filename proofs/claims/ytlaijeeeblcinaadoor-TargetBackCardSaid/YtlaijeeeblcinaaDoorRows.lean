/-
  NARROWER THAN 'FOR EVERY INPUT', by the rows' own cells (each row's printed sentence says how): TargetEncodes: laid · TargetDecodes: laid · TargetReads: laid · TargetPrints: laid · TargetBack: laid · TargetCanon: laid.
  DERIVED. THE GIVEN ROWS OF THIS SEAT. 6 by the template 'for every input the law returns true; each argument reads behind the call as it read before'; 0 by the template 'total and deterministic' (their statements: YtlaijeeeblcinaaDoorTotals.lean).
  GIVEN WITH THE SEED: the statements are not yours to turn. If you find one false, say at which input.
  Laid BY PROGRAM, IN A SANDBOX (cutbox-rows.mjs): the forced cells as the released guide's own fill.sh prints them over the translation 25bcdd43fd70711d… (all of the seat's roots in one cut). By AI agents, Wed Nov 11 2026. No macro, syntax, notation, axiom, sorry.
-/
import Derived.Test.YtlaijeeeblcinaaDoorChecked
import GoSem.Claim
import GoSem.ClaimJoined
import GoSem.ClaimMapViews
import Derived.JoinedTies
import Derived.KernelRfl
namespace Go.Proofs.YtlaijeeeblcinaaDoor
/- THE CELL 'sum', in the pinned program and in every row, IS THE sha256 OF THE DUMP (.gsa) THAT YtlaijeeeblcinaaDoorProg.lean LOADS. Nothing in Lean hashes anything: it is a label: what it is worth is what the hold of that sum in a sandbox is worth. -/
noncomputable def Tryd.pinned : Pinned := { name := "ytlaijeeeblcinaadoor", sum := "25bcdd43fd70711d2c79a19770d1e656b1b2828526f5104e6d9c22ef72742337", checked := Tryd.checked }
namespace Rows
def none {H : Type} : Left H := { results := [], args := [] }

/- WHAT THE LISTED PACKAGE-LEVEL VARIABLES READ AS WHEN THE CALL BEGINS. Each datum BY PROGRAM (the guide's laid-datum.mjs) off the statement by which the dump's own 'gosem.cut.vars' lays the variable. In a bare row this is a premise. The card (YtlaijeeeblcinaaDoorCards.lean) ties it to the program's text. -/
def laid_math_bits_deBruijn32tab {H : Type} : DataW H := .agg [.lit (.int .u8 0), .lit (.int .u8 1), .lit (.int .u8 28), .lit (.int .u8 2), .lit (.int .u8 29), .lit (.int .u8 14), .lit (.int .u8 24), .lit (.int .u8 3), .lit (.int .u8 30), .lit (.int .u8 22), .lit (.int .u8 20), .lit (.int .u8 15), .lit (.int .u8 25), .lit (.int .u8 17), .lit (.int .u8 4), .lit (.int .u8 8), .lit (.int .u8 31), .lit (.int .u8 27), .lit (.int .u8 13), .lit (.int .u8 23), .lit (.int .u8 21), .lit (.int .u8 19), .lit (.int .u8 16), .lit (.int .u8 7), .lit (.int .u8 26), .lit (.int .u8 12), .lit (.int .u8 18), .lit (.int .u8 6), .lit (.int .u8 11), .lit (.int .u8 5), .lit (.int .u8 10), .lit (.int .u8 9)]
def laid_math_bits_deBruijn64tab {H : Type} : DataW H := .agg [.lit (.int .u8 0), .lit (.int .u8 1), .lit (.int .u8 56), .lit (.int .u8 2), .lit (.int .u8 57), .lit (.int .u8 49), .lit (.int .u8 28), .lit (.int .u8 3), .lit (.int .u8 61), .lit (.int .u8 58), .lit (.int .u8 42), .lit (.int .u8 50), .lit (.int .u8 38), .lit (.int .u8 29), .lit (.int .u8 17), .lit (.int .u8 4), .lit (.int .u8 62), .lit (.int .u8 47), .lit (.int .u8 59), .lit (.int .u8 36), .lit (.int .u8 45), .lit (.int .u8 43), .lit (.int .u8 51), .lit (.int .u8 22), .lit (.int .u8 53), .lit (.int .u8 39), .lit (.int .u8 33), .lit (.int .u8 30), .lit (.int .u8 24), .lit (.int .u8 18), .lit (.int .u8 12), .lit (.int .u8 5), .lit (.int .u8 63), .lit (.int .u8 55), .lit (.int .u8 48), .lit (.int .u8 27), .lit (.int .u8 60), .lit (.int .u8 41), .lit (.int .u8 37), .lit (.int .u8 16), .lit (.int .u8 46), .lit (.int .u8 35), .lit (.int .u8 44), .lit (.int .u8 21), .lit (.int .u8 52), .lit (.int .u8 32), .lit (.int .u8 23), .lit (.int .u8 11), .lit (.int .u8 54), .lit (.int .u8 26), .lit (.int .u8 40), .lit (.int .u8 15), .lit (.int .u8 34), .lit (.int .u8 20), .lit (.int .u8 31), .lit (.int .u8 10), .lit (.int .u8 25), .lit (.int .u8 14), .lit (.int .u8 19), .lit (.int .u8 9), .lit (.int .u8 13), .lit (.int .u8 8), .lit (.int .u8 7), .lit (.int .u8 6)]
def laid_internal_strconv_uint64pow10 {H : Type} : DataW H := .agg [.lit (.int .u64 1), .lit (.int .u64 10), .lit (.int .u64 100), .lit (.int .u64 1000), .lit (.int .u64 10000), .lit (.int .u64 100000), .lit (.int .u64 1000000), .lit (.int .u64 10000000), .lit (.int .u64 100000000), .lit (.int .u64 1000000000), .lit (.int .u64 10000000000), .lit (.int .u64 100000000000), .lit (.int .u64 1000000000000), .lit (.int .u64 10000000000000), .lit (.int .u64 100000000000000), .lit (.int .u64 1000000000000000), .lit (.int .u64 10000000000000000), .lit (.int .u64 100000000000000000), .lit (.int .u64 1000000000000000000), .lit (.int .u64 10000000000000000000)]
def laid_strconv_ErrRange {H : Type} : DataW H := .iface "*errors.errorString" (.ptr (.agg [.lit (.string [118, 97, 108, 117, 101, 32, 111, 117, 116, 32, 111, 102, 32, 114, 97, 110, 103, 101])]))
def laid_strconv_ErrSyntax {H : Type} : DataW H := .iface "*errors.errorString" (.ptr (.agg [.lit (.string [105, 110, 118, 97, 108, 105, 100, 32, 115, 121, 110, 116, 97, 120])]))
def laid_cupel_target_table {H : Type} : DataW H := .agg [.agg [.lit (.int .i64 1), .lit (.string [109, 111, 118, 101]), .lit (.bool true), .lit (.bool true), .lit (.bool false), .lit (.int .i64 0)], .agg [.lit (.int .i64 2), .lit (.string [115, 101, 116]), .lit (.bool true), .lit (.bool false), .lit (.bool false), .lit (.int .i64 1)], .agg [.lit (.int .i64 3), .lit (.string [119, 105, 100, 101]), .lit (.bool true), .lit (.bool false), .lit (.bool false), .lit (.int .i64 2)], .agg [.lit (.int .i64 4), .lit (.string [108, 111, 97, 100]), .lit (.bool true), .lit (.bool true), .lit (.bool false), .lit (.int .i64 1)], .agg [.lit (.int .i64 5), .lit (.string [115, 116, 111, 114, 101]), .lit (.bool false), .lit (.bool true), .lit (.bool true), .lit (.int .i64 1)], .agg [.lit (.int .i64 6), .lit (.string [106, 117, 109, 112]), .lit (.bool false), .lit (.bool false), .lit (.bool false), .lit (.int .i64 3)], .agg [.lit (.int .i64 7), .lit (.string [122, 101, 114, 111]), .lit (.bool false), .lit (.bool true), .lit (.bool false), .lit (.int .i64 3)], .agg [.lit (.int .i64 8), .lit (.string [99, 104, 101, 99, 107]), .lit (.bool false), .lit (.bool true), .lit (.bool true), .lit (.int .i64 0)], .agg [.lit (.int .i64 9), .lit (.string [99, 104, 101, 99, 107, 105]), .lit (.bool false), .lit (.bool true), .lit (.bool false), .lit (.int .i64 1)], .agg [.lit (.int .i64 10), .lit (.string [112, 114, 105, 110, 116]), .lit (.bool false), .lit (.bool true), .lit (.bool false), .lit (.int .i64 0)], .agg [.lit (.int .i64 11), .lit (.string [99, 97, 108, 108]), .lit (.bool false), .lit (.bool false), .lit (.bool false), .lit (.int .i64 3)], .agg [.lit (.int .i64 12), .lit (.string [114, 101, 116, 117, 114, 110]), .lit (.bool false), .lit (.bool false), .lit (.bool false), .lit (.int .i64 0)], .agg [.lit (.int .i64 13), .lit (.string [116, 114, 97, 112]), .lit (.bool false), .lit (.bool false), .lit (.bool false), .lit (.int .i64 0)], .agg [.lit (.int .i64 14), .lit (.string [104, 97, 108, 116]), .lit (.bool false), .lit (.bool false), .lit (.bool false), .lit (.int .i64 0)]]
def laid_cupel_target_binary {H : Type} : DataW H := .agg [.lit (.string [97, 100, 100]), .lit (.string [115, 117, 98]), .lit (.string [109, 117, 108]), .lit (.string [100, 105, 118]), .lit (.string [114, 101, 109]), .lit (.string [97, 110, 100]), .lit (.string [111, 114]), .lit (.string [120, 111, 114]), .lit (.string [115, 104, 108]), .lit (.string [115, 104, 114]), .lit (.string [101, 113]), .lit (.string [110, 101]), .lit (.string [108, 116]), .lit (.string [108, 101])]

/-- 'cupellaw20.TargetEncodes': WHATEVER THE INPUT: true; the input reads as it did. -/
def targetEncodesSpec : ChangeSpec := { name := "targetEncodes", fn := fun _ => fun
  | [d] => { results := [.lit (.bool true)], args := [d] }
  | _ => none }
def targetEncodesRow : OpenClaim := { program := "ytlaijeeeblcinaadoor", sum := "25bcdd43fd70711d2c79a19770d1e656b1b2828526f5104e6d9c22ef72742337", func := "cupel/cupellaw20.TargetEncodes", spec := "targetEncodes", inPlace := ["internal/bytealg.IndexByteString"], unfollowed := true, recurses := true, named := ["cupel/target.table", "cupel/target.binary", "strconv.ErrSyntax", "strconv.ErrRange", "internal/strconv.uint64pow10", "math/bits.deBruijn32tab", "math/bits.deBruijn64tab"], apart := false, laid := [("math/bits.deBruijn32tab", laid_math_bits_deBruijn32tab), ("math/bits.deBruijn64tab", laid_math_bits_deBruijn64tab), ("internal/strconv.uint64pow10", laid_internal_strconv_uint64pow10), ("strconv.ErrRange", laid_strconv_ErrRange), ("strconv.ErrSyntax", laid_strconv_ErrSyntax), ("cupel/target.table", laid_cupel_target_table), ("cupel/target.binary", laid_cupel_target_binary)] }
def TargetEncodesSaid : Prop := targetEncodesRow.holds Tryd.pinned (OpenSpec.ofChange targetEncodesSpec)

/-- ITS FALSE NEIGHBOUR: 'it returns false'. Refute it at one input. -/
def targetEncodesWrong : ChangeSpec := { name := "targetEncodes", fn := fun _ => fun
  | [d] => { results := [.lit (.bool false)], args := [d] }
  | _ => none }
def TargetEncodesWrongFalsely : Prop := targetEncodesRow.holds Tryd.pinned (OpenSpec.ofChange targetEncodesWrong)

/-- 'cupellaw20.TargetDecodes': WHATEVER THE INPUT: true; the input reads as it did. -/
def targetDecodesSpec : ChangeSpec := { name := "targetDecodes", fn := fun _ => fun
  | [d1, d2] => { results := [.lit (.bool true)], args := [d1, d2] }
  | _ => none }
def targetDecodesRow : OpenClaim := { program := "ytlaijeeeblcinaadoor", sum := "25bcdd43fd70711d2c79a19770d1e656b1b2828526f5104e6d9c22ef72742337", func := "cupel/cupellaw20.TargetDecodes", spec := "targetDecodes", inPlace := ["internal/bytealg.IndexByteString"], unfollowed := true, recurses := true, named := ["cupel/target.table", "cupel/target.binary", "strconv.ErrSyntax", "strconv.ErrRange", "internal/strconv.uint64pow10", "math/bits.deBruijn32tab", "math/bits.deBruijn64tab"], apart := false, laid := [("math/bits.deBruijn32tab", laid_math_bits_deBruijn32tab), ("math/bits.deBruijn64tab", laid_math_bits_deBruijn64tab), ("internal/strconv.uint64pow10", laid_internal_strconv_uint64pow10), ("strconv.ErrRange", laid_strconv_ErrRange), ("strconv.ErrSyntax", laid_strconv_ErrSyntax), ("cupel/target.table", laid_cupel_target_table), ("cupel/target.binary", laid_cupel_target_binary)] }
def TargetDecodesSaid : Prop := targetDecodesRow.holds Tryd.pinned (OpenSpec.ofChange targetDecodesSpec)

/-- ITS FALSE NEIGHBOUR: 'it returns false'. Refute it at one input. -/
def targetDecodesWrong : ChangeSpec := { name := "targetDecodes", fn := fun _ => fun
  | [d1, d2] => { results := [.lit (.bool false)], args := [d1, d2] }
  | _ => none }
def TargetDecodesWrongFalsely : Prop := targetDecodesRow.holds Tryd.pinned (OpenSpec.ofChange targetDecodesWrong)

/-- 'cupellaw20.TargetReads': WHATEVER THE INPUT: true; the input reads as it did. -/
def targetReadsSpec : ChangeSpec := { name := "targetReads", fn := fun _ => fun
  | [d] => { results := [.lit (.bool true)], args := [d] }
  | _ => none }
def targetReadsRow : OpenClaim := { program := "ytlaijeeeblcinaadoor", sum := "25bcdd43fd70711d2c79a19770d1e656b1b2828526f5104e6d9c22ef72742337", func := "cupel/cupellaw20.TargetReads", spec := "targetReads", inPlace := ["internal/bytealg.IndexByteString"], unfollowed := true, recurses := true, named := ["cupel/target.table", "cupel/target.binary", "strconv.ErrSyntax", "strconv.ErrRange", "internal/strconv.uint64pow10", "math/bits.deBruijn32tab", "math/bits.deBruijn64tab"], apart := false, laid := [("math/bits.deBruijn32tab", laid_math_bits_deBruijn32tab), ("math/bits.deBruijn64tab", laid_math_bits_deBruijn64tab), ("internal/strconv.uint64pow10", laid_internal_strconv_uint64pow10), ("strconv.ErrRange", laid_strconv_ErrRange), ("strconv.ErrSyntax", laid_strconv_ErrSyntax), ("cupel/target.table", laid_cupel_target_table), ("cupel/target.binary", laid_cupel_target_binary)] }
def TargetReadsSaid : Prop := targetReadsRow.holds Tryd.pinned (OpenSpec.ofChange targetReadsSpec)

/-- ITS FALSE NEIGHBOUR: 'it returns false'. Refute it at one input. -/
def targetReadsWrong : ChangeSpec := { name := "targetReads", fn := fun _ => fun
  | [d] => { results := [.lit (.bool false)], args := [d] }
  | _ => none }
def TargetReadsWrongFalsely : Prop := targetReadsRow.holds Tryd.pinned (OpenSpec.ofChange targetReadsWrong)

/-- 'cupellaw20.TargetPrints': WHATEVER THE INPUT: true; the input reads as it did. -/
def targetPrintsSpec : ChangeSpec := { name := "targetPrints", fn := fun _ => fun
  | [d] => { results := [.lit (.bool true)], args := [d] }
  | _ => none }
def targetPrintsRow : OpenClaim := { program := "ytlaijeeeblcinaadoor", sum := "25bcdd43fd70711d2c79a19770d1e656b1b2828526f5104e6d9c22ef72742337", func := "cupel/cupellaw20.TargetPrints", spec := "targetPrints", inPlace := ["internal/bytealg.IndexByteString", "internal/abi.NoEscape", "internal/bytealg.MakeNoZero"], unfollowed := true, recurses := true, named := ["cupel/target.table", "cupel/target.binary", "strconv.ErrSyntax", "strconv.ErrRange", "internal/strconv.uint64pow10", "math/bits.deBruijn32tab", "math/bits.deBruijn64tab"], apart := false, laid := [("math/bits.deBruijn32tab", laid_math_bits_deBruijn32tab), ("math/bits.deBruijn64tab", laid_math_bits_deBruijn64tab), ("internal/strconv.uint64pow10", laid_internal_strconv_uint64pow10), ("strconv.ErrRange", laid_strconv_ErrRange), ("strconv.ErrSyntax", laid_strconv_ErrSyntax), ("cupel/target.table", laid_cupel_target_table), ("cupel/target.binary", laid_cupel_target_binary)] }
def TargetPrintsSaid : Prop := targetPrintsRow.holds Tryd.pinned (OpenSpec.ofChange targetPrintsSpec)

/-- ITS FALSE NEIGHBOUR: 'it returns false'. Refute it at one input. -/
def targetPrintsWrong : ChangeSpec := { name := "targetPrints", fn := fun _ => fun
  | [d] => { results := [.lit (.bool false)], args := [d] }
  | _ => none }
def TargetPrintsWrongFalsely : Prop := targetPrintsRow.holds Tryd.pinned (OpenSpec.ofChange targetPrintsWrong)

/-- 'cupellaw20.TargetBack': WHATEVER THE INPUT: true; the input reads as it did. -/
def targetBackSpec : ChangeSpec := { name := "targetBack", fn := fun _ => fun
  | [d1, d2] => { results := [.lit (.bool true)], args := [d1, d2] }
  | _ => none }
def targetBackRow : OpenClaim := { program := "ytlaijeeeblcinaadoor", sum := "25bcdd43fd70711d2c79a19770d1e656b1b2828526f5104e6d9c22ef72742337", func := "cupel/cupellaw20.TargetBack", spec := "targetBack", inPlace := ["internal/bytealg.IndexByteString", "internal/abi.NoEscape", "internal/bytealg.MakeNoZero"], unfollowed := true, recurses := true, named := ["cupel/target.table", "cupel/target.binary", "strconv.ErrSyntax", "strconv.ErrRange", "internal/strconv.uint64pow10", "math/bits.deBruijn32tab", "math/bits.deBruijn64tab"], apart := false, laid := [("math/bits.deBruijn32tab", laid_math_bits_deBruijn32tab), ("math/bits.deBruijn64tab", laid_math_bits_deBruijn64tab), ("internal/strconv.uint64pow10", laid_internal_strconv_uint64pow10), ("strconv.ErrRange", laid_strconv_ErrRange), ("strconv.ErrSyntax", laid_strconv_ErrSyntax), ("cupel/target.table", laid_cupel_target_table), ("cupel/target.binary", laid_cupel_target_binary)] }
def TargetBackSaid : Prop := targetBackRow.holds Tryd.pinned (OpenSpec.ofChange targetBackSpec)

/-- ITS FALSE NEIGHBOUR: 'it returns false'. Refute it at one input. -/
def targetBackWrong : ChangeSpec := { name := "targetBack", fn := fun _ => fun
  | [d1, d2] => { results := [.lit (.bool false)], args := [d1, d2] }
  | _ => none }
def TargetBackWrongFalsely : Prop := targetBackRow.holds Tryd.pinned (OpenSpec.ofChange targetBackWrong)

/-- 'cupellaw20.TargetCanon': WHATEVER THE INPUT: true; the input reads as it did. -/
def targetCanonSpec : ChangeSpec := { name := "targetCanon", fn := fun _ => fun
  | [d] => { results := [.lit (.bool true)], args := [d] }
  | _ => none }
def targetCanonRow : OpenClaim := { program := "ytlaijeeeblcinaadoor", sum := "25bcdd43fd70711d2c79a19770d1e656b1b2828526f5104e6d9c22ef72742337", func := "cupel/cupellaw20.TargetCanon", spec := "targetCanon", inPlace := ["internal/bytealg.IndexByteString", "internal/abi.NoEscape", "internal/bytealg.MakeNoZero"], unfollowed := true, recurses := true, named := ["cupel/target.table", "cupel/target.binary", "strconv.ErrSyntax", "strconv.ErrRange", "internal/strconv.uint64pow10", "math/bits.deBruijn32tab", "math/bits.deBruijn64tab"], apart := false, laid := [("math/bits.deBruijn32tab", laid_math_bits_deBruijn32tab), ("math/bits.deBruijn64tab", laid_math_bits_deBruijn64tab), ("internal/strconv.uint64pow10", laid_internal_strconv_uint64pow10), ("strconv.ErrRange", laid_strconv_ErrRange), ("strconv.ErrSyntax", laid_strconv_ErrSyntax), ("cupel/target.table", laid_cupel_target_table), ("cupel/target.binary", laid_cupel_target_binary)] }
def TargetCanonSaid : Prop := targetCanonRow.holds Tryd.pinned (OpenSpec.ofChange targetCanonSpec)

/-- ITS FALSE NEIGHBOUR: 'it returns false'. Refute it at one input. -/
def targetCanonWrong : ChangeSpec := { name := "targetCanon", fn := fun _ => fun
  | [d] => { results := [.lit (.bool false)], args := [d] }
  | _ => none }
def TargetCanonWrongFalsely : Prop := targetCanonRow.holds Tryd.pinned (OpenSpec.ofChange targetCanonWrong)

/- THE SECOND FORM. 'bulk': how many values and letters a reading holds, each counted each time it is reached (what is shared counts as often as it is met; a slice's spare places count too). A statement '..UptoSaid' is the law's where the arguments, and the package variables that the reading takes, are together of bulk at most 1048576: NARROWER than '..Said'. Prove '..Said' where nothing that the law and all that it calls make is longer than what came in: it says more and counts as full. Else prove '..UptoSaid'. A law counts once. -/
mutual
def uptoBulk {H : Type} : DataW H → Nat
  | .lit (.string bytes) => bytes.length + 1
  | .lit _ => 1
  | .nil => 1
  | .ptr d => uptoBulk d + 1
  | .slice elems spare => uptoBulkAll elems + uptoBulkAll spare + 1
  | .agg parts => uptoBulkAll parts + 1
  | .iface _ d => uptoBulk d + 1
  | .map entries => uptoBulkEntries entries + 1
  | .held _ => 1
def uptoBulkAll {H : Type} : List (DataW H) → Nat
  | [] => 0
  | d :: r => uptoBulk d + uptoBulkAll r
def uptoBulkEntries {H : Type} : List (Lit × DataW H) → Nat
  | [] => 0
  | x :: r => uptoBulkEntry x + uptoBulkEntries r
def uptoBulkEntry {H : Type} : Lit × DataW H → Nat
  | (.string bytes, d) => bytes.length + uptoBulk d + 1
  | (_, d) => uptoBulk d + 1
 end
def uptoSmall : (H : Type) → List (DataW H) → Bool := fun _ ds => decide (uptoBulkAll ds ≤ 1048576)
def OpenSpec.upto (s : _root_.Go.ChangeSpec) : _root_.Go.OpenSpec := { _root_.Go.OpenSpec.ofChange s with cond := some uptoSmall }

/-- 'cupellaw20.TargetEncodes', WHERE WHAT IT READS IS OF BULK AT MOST 1048576: true; the input reads as it did. -/
def targetEncodesUptoRow : OpenClaim := { program := "ytlaijeeeblcinaadoor", sum := "25bcdd43fd70711d2c79a19770d1e656b1b2828526f5104e6d9c22ef72742337", func := "cupel/cupellaw20.TargetEncodes", spec := "targetEncodes", inPlace := ["internal/bytealg.IndexByteString"], unfollowed := true, recurses := true, named := ["cupel/target.table", "cupel/target.binary", "strconv.ErrSyntax", "strconv.ErrRange", "internal/strconv.uint64pow10", "math/bits.deBruijn32tab", "math/bits.deBruijn64tab"], apart := false, laid := [("math/bits.deBruijn32tab", laid_math_bits_deBruijn32tab), ("math/bits.deBruijn64tab", laid_math_bits_deBruijn64tab), ("internal/strconv.uint64pow10", laid_internal_strconv_uint64pow10), ("strconv.ErrRange", laid_strconv_ErrRange), ("strconv.ErrSyntax", laid_strconv_ErrSyntax), ("cupel/target.table", laid_cupel_target_table), ("cupel/target.binary", laid_cupel_target_binary)], narrowed := true }
def TargetEncodesUptoSaid : Prop := targetEncodesUptoRow.holds Tryd.pinned (OpenSpec.upto targetEncodesSpec)

/-- 'cupellaw20.TargetDecodes', WHERE WHAT IT READS IS OF BULK AT MOST 1048576: true; the input reads as it did. -/
def targetDecodesUptoRow : OpenClaim := { program := "ytlaijeeeblcinaadoor", sum := "25bcdd43fd70711d2c79a19770d1e656b1b2828526f5104e6d9c22ef72742337", func := "cupel/cupellaw20.TargetDecodes", spec := "targetDecodes", inPlace := ["internal/bytealg.IndexByteString"], unfollowed := true, recurses := true, named := ["cupel/target.table", "cupel/target.binary", "strconv.ErrSyntax", "strconv.ErrRange", "internal/strconv.uint64pow10", "math/bits.deBruijn32tab", "math/bits.deBruijn64tab"], apart := false, laid := [("math/bits.deBruijn32tab", laid_math_bits_deBruijn32tab), ("math/bits.deBruijn64tab", laid_math_bits_deBruijn64tab), ("internal/strconv.uint64pow10", laid_internal_strconv_uint64pow10), ("strconv.ErrRange", laid_strconv_ErrRange), ("strconv.ErrSyntax", laid_strconv_ErrSyntax), ("cupel/target.table", laid_cupel_target_table), ("cupel/target.binary", laid_cupel_target_binary)], narrowed := true }
def TargetDecodesUptoSaid : Prop := targetDecodesUptoRow.holds Tryd.pinned (OpenSpec.upto targetDecodesSpec)

/-- 'cupellaw20.TargetReads', WHERE WHAT IT READS IS OF BULK AT MOST 1048576: true; the input reads as it did. -/
def targetReadsUptoRow : OpenClaim := { program := "ytlaijeeeblcinaadoor", sum := "25bcdd43fd70711d2c79a19770d1e656b1b2828526f5104e6d9c22ef72742337", func := "cupel/cupellaw20.TargetReads", spec := "targetReads", inPlace := ["internal/bytealg.IndexByteString"], unfollowed := true, recurses := true, named := ["cupel/target.table", "cupel/target.binary", "strconv.ErrSyntax", "strconv.ErrRange", "internal/strconv.uint64pow10", "math/bits.deBruijn32tab", "math/bits.deBruijn64tab"], apart := false, laid := [("math/bits.deBruijn32tab", laid_math_bits_deBruijn32tab), ("math/bits.deBruijn64tab", laid_math_bits_deBruijn64tab), ("internal/strconv.uint64pow10", laid_internal_strconv_uint64pow10), ("strconv.ErrRange", laid_strconv_ErrRange), ("strconv.ErrSyntax", laid_strconv_ErrSyntax), ("cupel/target.table", laid_cupel_target_table), ("cupel/target.binary", laid_cupel_target_binary)], narrowed := true }
def TargetReadsUptoSaid : Prop := targetReadsUptoRow.holds Tryd.pinned (OpenSpec.upto targetReadsSpec)

/-- 'cupellaw20.TargetPrints', WHERE WHAT IT READS IS OF BULK AT MOST 1048576: true; the input reads as it did. -/
def targetPrintsUptoRow : OpenClaim := { program := "ytlaijeeeblcinaadoor", sum := "25bcdd43fd70711d2c79a19770d1e656b1b2828526f5104e6d9c22ef72742337", func := "cupel/cupellaw20.TargetPrints", spec := "targetPrints", inPlace := ["internal/bytealg.IndexByteString", "internal/abi.NoEscape", "internal/bytealg.MakeNoZero"], unfollowed := true, recurses := true, named := ["cupel/target.table", "cupel/target.binary", "strconv.ErrSyntax", "strconv.ErrRange", "internal/strconv.uint64pow10", "math/bits.deBruijn32tab", "math/bits.deBruijn64tab"], apart := false, laid := [("math/bits.deBruijn32tab", laid_math_bits_deBruijn32tab), ("math/bits.deBruijn64tab", laid_math_bits_deBruijn64tab), ("internal/strconv.uint64pow10", laid_internal_strconv_uint64pow10), ("strconv.ErrRange", laid_strconv_ErrRange), ("strconv.ErrSyntax", laid_strconv_ErrSyntax), ("cupel/target.table", laid_cupel_target_table), ("cupel/target.binary", laid_cupel_target_binary)], narrowed := true }
def TargetPrintsUptoSaid : Prop := targetPrintsUptoRow.holds Tryd.pinned (OpenSpec.upto targetPrintsSpec)

/-- 'cupellaw20.TargetBack', WHERE WHAT IT READS IS OF BULK AT MOST 1048576: true; the input reads as it did. -/
def targetBackUptoRow : OpenClaim := { program := "ytlaijeeeblcinaadoor", sum := "25bcdd43fd70711d2c79a19770d1e656b1b2828526f5104e6d9c22ef72742337", func := "cupel/cupellaw20.TargetBack", spec := "targetBack", inPlace := ["internal/bytealg.IndexByteString", "internal/abi.NoEscape", "internal/bytealg.MakeNoZero"], unfollowed := true, recurses := true, named := ["cupel/target.table", "cupel/target.binary", "strconv.ErrSyntax", "strconv.ErrRange", "internal/strconv.uint64pow10", "math/bits.deBruijn32tab", "math/bits.deBruijn64tab"], apart := false, laid := [("math/bits.deBruijn32tab", laid_math_bits_deBruijn32tab), ("math/bits.deBruijn64tab", laid_math_bits_deBruijn64tab), ("internal/strconv.uint64pow10", laid_internal_strconv_uint64pow10), ("strconv.ErrRange", laid_strconv_ErrRange), ("strconv.ErrSyntax", laid_strconv_ErrSyntax), ("cupel/target.table", laid_cupel_target_table), ("cupel/target.binary", laid_cupel_target_binary)], narrowed := true }
def TargetBackUptoSaid : Prop := targetBackUptoRow.holds Tryd.pinned (OpenSpec.upto targetBackSpec)

/-- 'cupellaw20.TargetCanon', WHERE WHAT IT READS IS OF BULK AT MOST 1048576: true; the input reads as it did. -/
def targetCanonUptoRow : OpenClaim := { program := "ytlaijeeeblcinaadoor", sum := "25bcdd43fd70711d2c79a19770d1e656b1b2828526f5104e6d9c22ef72742337", func := "cupel/cupellaw20.TargetCanon", spec := "targetCanon", inPlace := ["internal/bytealg.IndexByteString", "internal/abi.NoEscape", "internal/bytealg.MakeNoZero"], unfollowed := true, recurses := true, named := ["cupel/target.table", "cupel/target.binary", "strconv.ErrSyntax", "strconv.ErrRange", "internal/strconv.uint64pow10", "math/bits.deBruijn32tab", "math/bits.deBruijn64tab"], apart := false, laid := [("math/bits.deBruijn32tab", laid_math_bits_deBruijn32tab), ("math/bits.deBruijn64tab", laid_math_bits_deBruijn64tab), ("internal/strconv.uint64pow10", laid_internal_strconv_uint64pow10), ("strconv.ErrRange", laid_strconv_ErrRange), ("strconv.ErrSyntax", laid_strconv_ErrSyntax), ("cupel/target.table", laid_cupel_target_table), ("cupel/target.binary", laid_cupel_target_binary)], narrowed := true }
def TargetCanonUptoSaid : Prop := targetCanonUptoRow.holds Tryd.pinned (OpenSpec.upto targetCanonSpec)

end Rows
end Go.Proofs.YtlaijeeeblcinaaDoor
