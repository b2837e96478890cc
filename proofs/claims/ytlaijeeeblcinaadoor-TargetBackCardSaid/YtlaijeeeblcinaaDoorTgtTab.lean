/- target's two tables, which lie in variables of the package: what the blocks hold, and what is read of them. -/
import Derived.Test.YtlaijeeeblcinaaDoorRefTab
import Derived.Laws.Rows
set_option linter.all false
set_option linter.unusedVariables false
set_option maxRecDepth 100000
namespace Go.Proofs.YtlaijeeeblcinaaDoor.A
open Go.RowKit Go.Proofs.YtlaijeeeblcinaaDoorW.PrintWords
def tableCells : Array Value := #[.int .i64 1, .string ⟨#[109, 111, 118, 101]⟩, .bool true, .bool true, .bool false, .int .i64 0, .int .i64 2, .string ⟨#[115, 101, 116]⟩, .bool true, .bool false, .bool false, .int .i64 1, .int .i64 3, .string ⟨#[119, 105, 100, 101]⟩, .bool true, .bool false, .bool false, .int .i64 2, .int .i64 4, .string ⟨#[108, 111, 97, 100]⟩, .bool true, .bool true, .bool false, .int .i64 1, .int .i64 5, .string ⟨#[115, 116, 111, 114, 101]⟩, .bool false, .bool true, .bool true, .int .i64 1, .int .i64 6, .string ⟨#[106, 117, 109, 112]⟩, .bool false, .bool false, .bool false, .int .i64 3, .int .i64 7, .string ⟨#[122, 101, 114, 111]⟩, .bool false, .bool true, .bool false, .int .i64 3, .int .i64 8, .string ⟨#[99, 104, 101, 99, 107]⟩, .bool false, .bool true, .bool true, .int .i64 0, .int .i64 9, .string ⟨#[99, 104, 101, 99, 107, 105]⟩, .bool false, .bool true, .bool false, .int .i64 1, .int .i64 10, .string ⟨#[112, 114, 105, 110, 116]⟩, .bool false, .bool true, .bool false, .int .i64 0, .int .i64 11, .string ⟨#[99, 97, 108, 108]⟩, .bool false, .bool false, .bool false, .int .i64 3, .int .i64 12, .string ⟨#[114, 101, 116, 117, 114, 110]⟩, .bool false, .bool false, .bool false, .int .i64 0, .int .i64 13, .string ⟨#[116, 114, 97, 112]⟩, .bool false, .bool false, .bool false, .int .i64 0, .int .i64 14, .string ⟨#[104, 97, 108, 116]⟩, .bool false, .bool false, .bool false, .int .i64 0]
/-- the two variables hold their tables -/
def Tab (w : World) : Prop := (∃ fr, w.heap[0]? = some (.cells tableCells 97 fr)) ∧ ∃ fr, w.heap[1]? = some (.cells operationsCells 98 fr)
theorem Tab.below {w w1 : World} (h : Tab w) (hb : Below w.heap.size w w1) : Tab w1 := by
 obtain ⟨⟨a, ha⟩, b, hb'⟩ := h
 exact ⟨⟨a, blk_below ha hb⟩, b, blk_below hb' hb⟩
theorem info124 : (Tryd.prog.info? 97).map (·.size) = some tableCells.size := by kernel_rfl
theorem info116' : (Tryd.prog.info? 98).map (·.size) = some operationsCells.size := by kernel_rfl
/-- the rows by their place: the operation is the place and one -/
def trow : List Row20 := [(1, ⟨#[109, 111, 118, 101]⟩, true, true, false, 0), (2, ⟨#[115, 101, 116]⟩, true, false, false, 1), (3, ⟨#[119, 105, 100, 101]⟩, true, false, false, 2), (4, ⟨#[108, 111, 97, 100]⟩, true, true, false, 1), (5, ⟨#[115, 116, 111, 114, 101]⟩, false, true, true, 1), (6, ⟨#[106, 117, 109, 112]⟩, false, false, false, 3), (7, ⟨#[122, 101, 114, 111]⟩, false, true, false, 3), (8, ⟨#[99, 104, 101, 99, 107]⟩, false, true, true, 0), (9, ⟨#[99, 104, 101, 99, 107, 105]⟩, false, true, false, 1), (10, ⟨#[112, 114, 105, 110, 116]⟩, false, true, false, 0), (11, ⟨#[99, 97, 108, 108]⟩, false, false, false, 3), (12, ⟨#[114, 101, 116, 117, 114, 110]⟩, false, false, false, 0), (13, ⟨#[116, 114, 97, 112]⟩, false, false, false, 0), (14, ⟨#[104, 97, 108, 116]⟩, false, false, false, 0)]
def trowAt (i : Nat) : Row20 := trow.getD i (0, ByteArray.empty, false, false, false, 0)
def opAt (i : Nat) : ByteArray := opWords.getD i ByteArray.empty
theorem tab_0 (W : World) : (Instr.index 97 (.agg tableCells) (.int .i64 0)).run Tryd.prog W = .ok (.agg #[.int .i64 1, .string ⟨#[109, 111, 118, 101]⟩, .bool true, .bool true, .bool false, .int .i64 0]) W := by kernel_rfl
theorem tab_1 (W : World) : (Instr.index 97 (.agg tableCells) (.int .i64 1)).run Tryd.prog W = .ok (.agg #[.int .i64 2, .string ⟨#[115, 101, 116]⟩, .bool true, .bool false, .bool false, .int .i64 1]) W := by kernel_rfl
theorem tab_2 (W : World) : (Instr.index 97 (.agg tableCells) (.int .i64 2)).run Tryd.prog W = .ok (.agg #[.int .i64 3, .string ⟨#[119, 105, 100, 101]⟩, .bool true, .bool false, .bool false, .int .i64 2]) W := by kernel_rfl
theorem tab_3 (W : World) : (Instr.index 97 (.agg tableCells) (.int .i64 3)).run Tryd.prog W = .ok (.agg #[.int .i64 4, .string ⟨#[108, 111, 97, 100]⟩, .bool true, .bool true, .bool false, .int .i64 1]) W := by kernel_rfl
theorem tab_4 (W : World) : (Instr.index 97 (.agg tableCells) (.int .i64 4)).run Tryd.prog W = .ok (.agg #[.int .i64 5, .string ⟨#[115, 116, 111, 114, 101]⟩, .bool false, .bool true, .bool true, .int .i64 1]) W := by kernel_rfl
theorem tab_5 (W : World) : (Instr.index 97 (.agg tableCells) (.int .i64 5)).run Tryd.prog W = .ok (.agg #[.int .i64 6, .string ⟨#[106, 117, 109, 112]⟩, .bool false, .bool false, .bool false, .int .i64 3]) W := by kernel_rfl
theorem tab_6 (W : World) : (Instr.index 97 (.agg tableCells) (.int .i64 6)).run Tryd.prog W = .ok (.agg #[.int .i64 7, .string ⟨#[122, 101, 114, 111]⟩, .bool false, .bool true, .bool false, .int .i64 3]) W := by kernel_rfl
theorem tab_7 (W : World) : (Instr.index 97 (.agg tableCells) (.int .i64 7)).run Tryd.prog W = .ok (.agg #[.int .i64 8, .string ⟨#[99, 104, 101, 99, 107]⟩, .bool false, .bool true, .bool true, .int .i64 0]) W := by kernel_rfl
theorem tab_8 (W : World) : (Instr.index 97 (.agg tableCells) (.int .i64 8)).run Tryd.prog W = .ok (.agg #[.int .i64 9, .string ⟨#[99, 104, 101, 99, 107, 105]⟩, .bool false, .bool true, .bool false, .int .i64 1]) W := by kernel_rfl
theorem tab_9 (W : World) : (Instr.index 97 (.agg tableCells) (.int .i64 9)).run Tryd.prog W = .ok (.agg #[.int .i64 10, .string ⟨#[112, 114, 105, 110, 116]⟩, .bool false, .bool true, .bool false, .int .i64 0]) W := by kernel_rfl
theorem tab_10 (W : World) : (Instr.index 97 (.agg tableCells) (.int .i64 10)).run Tryd.prog W = .ok (.agg #[.int .i64 11, .string ⟨#[99, 97, 108, 108]⟩, .bool false, .bool false, .bool false, .int .i64 3]) W := by kernel_rfl
theorem tab_11 (W : World) : (Instr.index 97 (.agg tableCells) (.int .i64 11)).run Tryd.prog W = .ok (.agg #[.int .i64 12, .string ⟨#[114, 101, 116, 117, 114, 110]⟩, .bool false, .bool false, .bool false, .int .i64 0]) W := by kernel_rfl
theorem tab_12 (W : World) : (Instr.index 97 (.agg tableCells) (.int .i64 12)).run Tryd.prog W = .ok (.agg #[.int .i64 13, .string ⟨#[116, 114, 97, 112]⟩, .bool false, .bool false, .bool false, .int .i64 0]) W := by kernel_rfl
theorem tab_13 (W : World) : (Instr.index 97 (.agg tableCells) (.int .i64 13)).run Tryd.prog W = .ok (.agg #[.int .i64 14, .string ⟨#[104, 97, 108, 116]⟩, .bool false, .bool false, .bool false, .int .i64 0]) W := by kernel_rfl
theorem bin_0 (W : World) : (Instr.index 98 (.agg operationsCells) (.int .i64 0)).run Tryd.prog W = .ok (.string ⟨#[97, 100, 100]⟩) W := by kernel_rfl
theorem bin_1 (W : World) : (Instr.index 98 (.agg operationsCells) (.int .i64 1)).run Tryd.prog W = .ok (.string ⟨#[115, 117, 98]⟩) W := by kernel_rfl
theorem bin_2 (W : World) : (Instr.index 98 (.agg operationsCells) (.int .i64 2)).run Tryd.prog W = .ok (.string ⟨#[109, 117, 108]⟩) W := by kernel_rfl
theorem bin_3 (W : World) : (Instr.index 98 (.agg operationsCells) (.int .i64 3)).run Tryd.prog W = .ok (.string ⟨#[100, 105, 118]⟩) W := by kernel_rfl
theorem bin_4 (W : World) : (Instr.index 98 (.agg operationsCells) (.int .i64 4)).run Tryd.prog W = .ok (.string ⟨#[114, 101, 109]⟩) W := by kernel_rfl
theorem bin_5 (W : World) : (Instr.index 98 (.agg operationsCells) (.int .i64 5)).run Tryd.prog W = .ok (.string ⟨#[97, 110, 100]⟩) W := by kernel_rfl
theorem bin_6 (W : World) : (Instr.index 98 (.agg operationsCells) (.int .i64 6)).run Tryd.prog W = .ok (.string ⟨#[111, 114]⟩) W := by kernel_rfl
theorem bin_7 (W : World) : (Instr.index 98 (.agg operationsCells) (.int .i64 7)).run Tryd.prog W = .ok (.string ⟨#[120, 111, 114]⟩) W := by kernel_rfl
theorem bin_8 (W : World) : (Instr.index 98 (.agg operationsCells) (.int .i64 8)).run Tryd.prog W = .ok (.string ⟨#[115, 104, 108]⟩) W := by kernel_rfl
theorem bin_9 (W : World) : (Instr.index 98 (.agg operationsCells) (.int .i64 9)).run Tryd.prog W = .ok (.string ⟨#[115, 104, 114]⟩) W := by kernel_rfl
theorem bin_10 (W : World) : (Instr.index 98 (.agg operationsCells) (.int .i64 10)).run Tryd.prog W = .ok (.string ⟨#[101, 113]⟩) W := by kernel_rfl
theorem bin_11 (W : World) : (Instr.index 98 (.agg operationsCells) (.int .i64 11)).run Tryd.prog W = .ok (.string ⟨#[110, 101]⟩) W := by kernel_rfl
theorem bin_12 (W : World) : (Instr.index 98 (.agg operationsCells) (.int .i64 12)).run Tryd.prog W = .ok (.string ⟨#[108, 116]⟩) W := by kernel_rfl
theorem bin_13 (W : World) : (Instr.index 98 (.agg operationsCells) (.int .i64 13)).run Tryd.prog W = .ok (.string ⟨#[108, 101]⟩) W := by kernel_rfl
theorem tab_at (i : Nat) (h : i < 14) (W : World) : (Instr.index 97 (.agg tableCells) (.int .i64 (i : Int))).run Tryd.prog W = .ok (.agg #[.int .i64 ((i : Int) + 1), .string (trowAt i).2.1, .bool (trowAt i).2.2.1, .bool (trowAt i).2.2.2.1, .bool (trowAt i).2.2.2.2.1, .int .i64 (trowAt i).2.2.2.2.2]) W := by
 match i, h with
 | 0, _ => exact tab_0 W
 | 1, _ => exact tab_1 W
 | 2, _ => exact tab_2 W
 | 3, _ => exact tab_3 W
 | 4, _ => exact tab_4 W
 | 5, _ => exact tab_5 W
 | 6, _ => exact tab_6 W
 | 7, _ => exact tab_7 W
 | 8, _ => exact tab_8 W
 | 9, _ => exact tab_9 W
 | 10, _ => exact tab_10 W
 | 11, _ => exact tab_11 W
 | 12, _ => exact tab_12 W
 | 13, _ => exact tab_13 W
theorem bin_at (i : Nat) (h : i < 14) (W : World) : (Instr.index 98 (.agg operationsCells) (.int .i64 (i : Int))).run Tryd.prog W = .ok (.string (opAt i)) W := by
 match i, h with
 | 0, _ => exact bin_0 W
 | 1, _ => exact bin_1 W
 | 2, _ => exact bin_2 W
 | 3, _ => exact bin_3 W
 | 4, _ => exact bin_4 W
 | 5, _ => exact bin_5 W
 | 6, _ => exact bin_6 W
 | 7, _ => exact bin_7 W
 | 8, _ => exact bin_8 W
 | 9, _ => exact bin_9 W
 | 10, _ => exact bin_10 W
 | 11, _ => exact bin_11 W
 | 12, _ => exact bin_12 W
 | 13, _ => exact bin_13 W
theorem find_tab (i : Nat) (h : i < 14) : cupelref20_find.f ((i : Int) + 1) = some ((i : Int) + 1, (trowAt i).2.1, (trowAt i).2.2.1, (trowAt i).2.2.2.1, (trowAt i).2.2.2.2.1, (trowAt i).2.2.2.2.2, true) := by
 match i, h with
 | 0, _ => rfl
 | 1, _ => rfl
 | 2, _ => rfl
 | 3, _ => rfl
 | 4, _ => rfl
 | 5, _ => rfl
 | 6, _ => rfl
 | 7, _ => rfl
 | 8, _ => rfl
 | 9, _ => rfl
 | 10, _ => rfl
 | 11, _ => rfl
 | 12, _ => rfl
 | 13, _ => rfl
theorem find_bin (i : Nat) (h : i < 14) : cupelref20_find.f (16 + (i : Int)) = some (16 + (i : Int), opAt i, true, true, true, 0, true) := by
 match i, h with
 | 0, _ => rfl
 | 1, _ => rfl
 | 2, _ => rfl
 | 3, _ => rfl
 | 4, _ => rfl
 | 5, _ => rfl
 | 6, _ => rfl
 | 7, _ => rfl
 | 8, _ => rfl
 | 9, _ => rfl
 | 10, _ => rfl
 | 11, _ => rfl
 | 12, _ => rfl
 | 13, _ => rfl
theorem find_bini (i : Nat) (h : i < 14) : cupelref20_find.f (36 + (i : Int)) = some (36 + (i : Int), opAt i ++ ⟨#[105]⟩, true, true, false, 1, true) := by
 match i, h with
 | 0, _ => rfl
 | 1, _ => rfl
 | 2, _ => rfl
 | 3, _ => rfl
 | 4, _ => rfl
 | 5, _ => rfl
 | 6, _ => rfl
 | 7, _ => rfl
 | 8, _ => rfl
 | 9, _ => rfl
 | 10, _ => rfl
 | 11, _ => rfl
 | 12, _ => rfl
 | 13, _ => rfl
theorem find_no (a : Int) (h1 : ∀ i : Nat, i < 14 → (i : Int) + 1 ≠ a) (h2 : ∀ i : Nat, i < 14 → a ≠ 16 + (i : Int) ∧ a ≠ 36 + (i : Int)) : cupelref20_find.f a = some (0, ByteArray.empty, false, false, false, 0, false) := by
 have g1 : ¬ (16 ≤ a ∧ a ≤ 29) := fun ⟨x, y⟩ => (h2 (a - 16).toNat (by omega)).1 (by omega)
 have g2 : ¬ (36 ≤ a ∧ a ≤ 49) := fun ⟨x, y⟩ => (h2 (a - 36).toNat (by omega)).2 (by omega)
 have g3 : ¬ (1 ≤ a ∧ a ≤ 14) := fun ⟨x, y⟩ => h1 (a - 1).toNat (by omega) (by omega)
 have : simpleRows.find? (fun r => r.1 == a) = none := by
  simp [simpleRows]; omega
 simp only [cupelref20_find.f, g1, g2, if_false, this]
theorem opAt_size (i : Nat) (h : i < 14) : (opAt i).size ≤ 9 := by
 match i, h with
 | 0, _ => decide
 | 1, _ => decide
 | 2, _ => decide
 | 3, _ => decide
 | 4, _ => decide
 | 5, _ => decide
 | 6, _ => decide
 | 7, _ => decide
 | 8, _ => decide
 | 9, _ => decide
 | 10, _ => decide
 | 11, _ => decide
 | 12, _ => decide
 | 13, _ => decide
end Go.Proofs.YtlaijeeeblcinaaDoor.A
