/- cupelref20's table: which operation has which word, registers and number: simple, operations and find: what they answer, and the contracts of their calls. -/
import Derived.Test.YtlaijeeeblcinaaDoorProg
import Derived.Test.YtlaijeeeblcinaaDoorWAll
import Derived.WalkKit
import Derived.Handy
import Derived.Laws.Tables
import Derived.Deep.WholeRow
set_option linter.all false
set_option linter.unusedVariables false
set_option maxRecDepth 100000
namespace Go.Proofs.YtlaijeeeblcinaaDoor.A
open Go.RowKit Go.Proofs.YtlaijeeeblcinaaDoorW.PrintWords
def simpleCells : Array Value := #[.int .i64 1, .string ⟨#[109, 111, 118, 101]⟩, .bool true, .bool true, .bool false, .int .i64 0, .int .i64 2, .string ⟨#[115, 101, 116]⟩, .bool true, .bool false, .bool false, .int .i64 1, .int .i64 3, .string ⟨#[119, 105, 100, 101]⟩, .bool true, .bool false, .bool false, .int .i64 2, .int .i64 4, .string ⟨#[108, 111, 97, 100]⟩, .bool true, .bool true, .bool false, .int .i64 1, .int .i64 5, .string ⟨#[115, 116, 111, 114, 101]⟩, .bool false, .bool true, .bool true, .int .i64 1, .int .i64 6, .string ⟨#[106, 117, 109, 112]⟩, .bool false, .bool false, .bool false, .int .i64 3, .int .i64 11, .string ⟨#[99, 97, 108, 108]⟩, .bool false, .bool false, .bool false, .int .i64 3, .int .i64 7, .string ⟨#[122, 101, 114, 111]⟩, .bool false, .bool true, .bool false, .int .i64 3, .int .i64 8, .string ⟨#[99, 104, 101, 99, 107]⟩, .bool false, .bool true, .bool true, .int .i64 0, .int .i64 9, .string ⟨#[99, 104, 101, 99, 107, 105]⟩, .bool false, .bool true, .bool false, .int .i64 1, .int .i64 10, .string ⟨#[112, 114, 105, 110, 116]⟩, .bool false, .bool true, .bool false, .int .i64 0, .int .i64 12, .string ⟨#[114, 101, 116, 117, 114, 110]⟩, .bool false, .bool false, .bool false, .int .i64 0, .int .i64 13, .string ⟨#[116, 114, 97, 112]⟩, .bool false, .bool false, .bool false, .int .i64 0, .int .i64 14, .string ⟨#[104, 97, 108, 116]⟩, .bool false, .bool false, .bool false, .int .i64 0]
def operationsCells : Array Value := #[.string ⟨#[97, 100, 100]⟩, .string ⟨#[115, 117, 98]⟩, .string ⟨#[109, 117, 108]⟩, .string ⟨#[100, 105, 118]⟩, .string ⟨#[114, 101, 109]⟩, .string ⟨#[97, 110, 100]⟩, .string ⟨#[111, 114]⟩, .string ⟨#[120, 111, 114]⟩, .string ⟨#[115, 104, 108]⟩, .string ⟨#[115, 104, 114]⟩, .string ⟨#[101, 113]⟩, .string ⟨#[110, 101]⟩, .string ⟨#[108, 116]⟩, .string ⟨#[108, 101]⟩]
abbrev Row20 := Int × ByteArray × Bool × Bool × Bool × Int
def simpleRows : List Row20 := [(1, ⟨#[109, 111, 118, 101]⟩, true, true, false, 0), (2, ⟨#[115, 101, 116]⟩, true, false, false, 1), (3, ⟨#[119, 105, 100, 101]⟩, true, false, false, 2), (4, ⟨#[108, 111, 97, 100]⟩, true, true, false, 1), (5, ⟨#[115, 116, 111, 114, 101]⟩, false, true, true, 1), (6, ⟨#[106, 117, 109, 112]⟩, false, false, false, 3), (11, ⟨#[99, 97, 108, 108]⟩, false, false, false, 3), (7, ⟨#[122, 101, 114, 111]⟩, false, true, false, 3), (8, ⟨#[99, 104, 101, 99, 107]⟩, false, true, true, 0), (9, ⟨#[99, 104, 101, 99, 107, 105]⟩, false, true, false, 1), (10, ⟨#[112, 114, 105, 110, 116]⟩, false, true, false, 0), (12, ⟨#[114, 101, 116, 117, 114, 110]⟩, false, false, false, 0), (13, ⟨#[116, 114, 97, 112]⟩, false, false, false, 0), (14, ⟨#[104, 97, 108, 116]⟩, false, false, false, 0)]
def opWords : List ByteArray := [⟨#[97, 100, 100]⟩, ⟨#[115, 117, 98]⟩, ⟨#[109, 117, 108]⟩, ⟨#[100, 105, 118]⟩, ⟨#[114, 101, 109]⟩, ⟨#[97, 110, 100]⟩, ⟨#[111, 114]⟩, ⟨#[120, 111, 114]⟩, ⟨#[115, 104, 108]⟩, ⟨#[115, 104, 114]⟩, ⟨#[101, 113]⟩, ⟨#[110, 101]⟩, ⟨#[108, 116]⟩, ⟨#[108, 101]⟩]
def cupelref20_find.f (op : Int) : Option (Int × ByteArray × Bool × Bool × Bool × Int × Bool) :=
 if 16 ≤ op ∧ op ≤ 29 then some (op, opWords.getD (op - 16).toNat ByteArray.empty, true, true, true, 0, true)
 else if 36 ≤ op ∧ op ≤ 49 then some (op, opWords.getD (op - 36).toNat ByteArray.empty ++ ⟨#[105]⟩, true, true, false, 1, true)
 else match simpleRows.find? (fun r => r.1 == op) with
  | some (a, s, d, x, y, i) => some (a, s, d, x, y, i, true)
  | none => some (0, ByteArray.empty, false, false, false, 0, false)
section
variable {P : Program}
end
theorem simpleCells_size : simpleCells.size = 84 := by kernel_rfl
set_option maxHeartbeats 4000000
end Go.Proofs.YtlaijeeeblcinaaDoor.A
