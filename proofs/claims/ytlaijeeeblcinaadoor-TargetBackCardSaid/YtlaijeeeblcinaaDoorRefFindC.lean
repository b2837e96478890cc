/- cupelref20.find: the contract of its calls, operation by operation. -/
import Derived.Test.YtlaijeeeblcinaaDoorRefTab
set_option linter.all false
set_option linter.unusedVariables false
set_option maxRecDepth 100000
namespace Go.Proofs.YtlaijeeeblcinaaDoor.A
open Go.RowKit Go.Proofs.YtlaijeeeblcinaaDoorW.PrintWords
theorem sc0 (h : 0 < simpleCells.size) : simpleCells[0]'h = .int .i64 1 := by kernel_rfl
theorem sc1 (h : 1 < simpleCells.size) : simpleCells[1]'h = .string ⟨#[109, 111, 118, 101]⟩ := by kernel_rfl
theorem sc2 (h : 2 < simpleCells.size) : simpleCells[2]'h = .bool true := by kernel_rfl
theorem sc3 (h : 3 < simpleCells.size) : simpleCells[3]'h = .bool true := by kernel_rfl
theorem sc4 (h : 4 < simpleCells.size) : simpleCells[4]'h = .bool false := by kernel_rfl
theorem sc5 (h : 5 < simpleCells.size) : simpleCells[5]'h = .int .i64 0 := by kernel_rfl
theorem sc6 (h : 6 < simpleCells.size) : simpleCells[6]'h = .int .i64 2 := by kernel_rfl
theorem sc7 (h : 7 < simpleCells.size) : simpleCells[7]'h = .string ⟨#[115, 101, 116]⟩ := by kernel_rfl
theorem sc8 (h : 8 < simpleCells.size) : simpleCells[8]'h = .bool true := by kernel_rfl
theorem sc9 (h : 9 < simpleCells.size) : simpleCells[9]'h = .bool false := by kernel_rfl
theorem sc10 (h : 10 < simpleCells.size) : simpleCells[10]'h = .bool false := by kernel_rfl
theorem sc11 (h : 11 < simpleCells.size) : simpleCells[11]'h = .int .i64 1 := by kernel_rfl
theorem sc12 (h : 12 < simpleCells.size) : simpleCells[12]'h = .int .i64 3 := by kernel_rfl
theorem sc13 (h : 13 < simpleCells.size) : simpleCells[13]'h = .string ⟨#[119, 105, 100, 101]⟩ := by kernel_rfl
theorem sc14 (h : 14 < simpleCells.size) : simpleCells[14]'h = .bool true := by kernel_rfl
theorem sc15 (h : 15 < simpleCells.size) : simpleCells[15]'h = .bool false := by kernel_rfl
theorem sc16 (h : 16 < simpleCells.size) : simpleCells[16]'h = .bool false := by kernel_rfl
theorem sc17 (h : 17 < simpleCells.size) : simpleCells[17]'h = .int .i64 2 := by kernel_rfl
theorem sc18 (h : 18 < simpleCells.size) : simpleCells[18]'h = .int .i64 4 := by kernel_rfl
theorem sc19 (h : 19 < simpleCells.size) : simpleCells[19]'h = .string ⟨#[108, 111, 97, 100]⟩ := by kernel_rfl
theorem sc20 (h : 20 < simpleCells.size) : simpleCells[20]'h = .bool true := by kernel_rfl
theorem sc21 (h : 21 < simpleCells.size) : simpleCells[21]'h = .bool true := by kernel_rfl
theorem sc22 (h : 22 < simpleCells.size) : simpleCells[22]'h = .bool false := by kernel_rfl
theorem sc23 (h : 23 < simpleCells.size) : simpleCells[23]'h = .int .i64 1 := by kernel_rfl
theorem sc24 (h : 24 < simpleCells.size) : simpleCells[24]'h = .int .i64 5 := by kernel_rfl
theorem sc25 (h : 25 < simpleCells.size) : simpleCells[25]'h = .string ⟨#[115, 116, 111, 114, 101]⟩ := by kernel_rfl
theorem sc26 (h : 26 < simpleCells.size) : simpleCells[26]'h = .bool false := by kernel_rfl
theorem sc27 (h : 27 < simpleCells.size) : simpleCells[27]'h = .bool true := by kernel_rfl
theorem sc28 (h : 28 < simpleCells.size) : simpleCells[28]'h = .bool true := by kernel_rfl
theorem sc29 (h : 29 < simpleCells.size) : simpleCells[29]'h = .int .i64 1 := by kernel_rfl
theorem sc30 (h : 30 < simpleCells.size) : simpleCells[30]'h = .int .i64 6 := by kernel_rfl
theorem sc31 (h : 31 < simpleCells.size) : simpleCells[31]'h = .string ⟨#[106, 117, 109, 112]⟩ := by kernel_rfl
theorem sc32 (h : 32 < simpleCells.size) : simpleCells[32]'h = .bool false := by kernel_rfl
theorem sc33 (h : 33 < simpleCells.size) : simpleCells[33]'h = .bool false := by kernel_rfl
theorem sc34 (h : 34 < simpleCells.size) : simpleCells[34]'h = .bool false := by kernel_rfl
theorem sc35 (h : 35 < simpleCells.size) : simpleCells[35]'h = .int .i64 3 := by kernel_rfl
theorem sc36 (h : 36 < simpleCells.size) : simpleCells[36]'h = .int .i64 11 := by kernel_rfl
theorem sc37 (h : 37 < simpleCells.size) : simpleCells[37]'h = .string ⟨#[99, 97, 108, 108]⟩ := by kernel_rfl
theorem sc38 (h : 38 < simpleCells.size) : simpleCells[38]'h = .bool false := by kernel_rfl
theorem sc39 (h : 39 < simpleCells.size) : simpleCells[39]'h = .bool false := by kernel_rfl
theorem sc40 (h : 40 < simpleCells.size) : simpleCells[40]'h = .bool false := by kernel_rfl
theorem sc41 (h : 41 < simpleCells.size) : simpleCells[41]'h = .int .i64 3 := by kernel_rfl
theorem sc42 (h : 42 < simpleCells.size) : simpleCells[42]'h = .int .i64 7 := by kernel_rfl
theorem sc43 (h : 43 < simpleCells.size) : simpleCells[43]'h = .string ⟨#[122, 101, 114, 111]⟩ := by kernel_rfl
theorem sc44 (h : 44 < simpleCells.size) : simpleCells[44]'h = .bool false := by kernel_rfl
theorem sc45 (h : 45 < simpleCells.size) : simpleCells[45]'h = .bool true := by kernel_rfl
theorem sc46 (h : 46 < simpleCells.size) : simpleCells[46]'h = .bool false := by kernel_rfl
theorem sc47 (h : 47 < simpleCells.size) : simpleCells[47]'h = .int .i64 3 := by kernel_rfl
theorem sc48 (h : 48 < simpleCells.size) : simpleCells[48]'h = .int .i64 8 := by kernel_rfl
theorem sc49 (h : 49 < simpleCells.size) : simpleCells[49]'h = .string ⟨#[99, 104, 101, 99, 107]⟩ := by kernel_rfl
theorem sc50 (h : 50 < simpleCells.size) : simpleCells[50]'h = .bool false := by kernel_rfl
theorem sc51 (h : 51 < simpleCells.size) : simpleCells[51]'h = .bool true := by kernel_rfl
theorem sc52 (h : 52 < simpleCells.size) : simpleCells[52]'h = .bool true := by kernel_rfl
theorem sc53 (h : 53 < simpleCells.size) : simpleCells[53]'h = .int .i64 0 := by kernel_rfl
theorem sc54 (h : 54 < simpleCells.size) : simpleCells[54]'h = .int .i64 9 := by kernel_rfl
theorem sc55 (h : 55 < simpleCells.size) : simpleCells[55]'h = .string ⟨#[99, 104, 101, 99, 107, 105]⟩ := by kernel_rfl
theorem sc56 (h : 56 < simpleCells.size) : simpleCells[56]'h = .bool false := by kernel_rfl
theorem sc57 (h : 57 < simpleCells.size) : simpleCells[57]'h = .bool true := by kernel_rfl
theorem sc58 (h : 58 < simpleCells.size) : simpleCells[58]'h = .bool false := by kernel_rfl
theorem sc59 (h : 59 < simpleCells.size) : simpleCells[59]'h = .int .i64 1 := by kernel_rfl
theorem sc60 (h : 60 < simpleCells.size) : simpleCells[60]'h = .int .i64 10 := by kernel_rfl
theorem sc61 (h : 61 < simpleCells.size) : simpleCells[61]'h = .string ⟨#[112, 114, 105, 110, 116]⟩ := by kernel_rfl
theorem sc62 (h : 62 < simpleCells.size) : simpleCells[62]'h = .bool false := by kernel_rfl
theorem sc63 (h : 63 < simpleCells.size) : simpleCells[63]'h = .bool true := by kernel_rfl
theorem sc64 (h : 64 < simpleCells.size) : simpleCells[64]'h = .bool false := by kernel_rfl
theorem sc65 (h : 65 < simpleCells.size) : simpleCells[65]'h = .int .i64 0 := by kernel_rfl
theorem sc66 (h : 66 < simpleCells.size) : simpleCells[66]'h = .int .i64 12 := by kernel_rfl
theorem sc67 (h : 67 < simpleCells.size) : simpleCells[67]'h = .string ⟨#[114, 101, 116, 117, 114, 110]⟩ := by kernel_rfl
theorem sc68 (h : 68 < simpleCells.size) : simpleCells[68]'h = .bool false := by kernel_rfl
theorem sc69 (h : 69 < simpleCells.size) : simpleCells[69]'h = .bool false := by kernel_rfl
theorem sc70 (h : 70 < simpleCells.size) : simpleCells[70]'h = .bool false := by kernel_rfl
theorem sc71 (h : 71 < simpleCells.size) : simpleCells[71]'h = .int .i64 0 := by kernel_rfl
theorem sc72 (h : 72 < simpleCells.size) : simpleCells[72]'h = .int .i64 13 := by kernel_rfl
theorem sc73 (h : 73 < simpleCells.size) : simpleCells[73]'h = .string ⟨#[116, 114, 97, 112]⟩ := by kernel_rfl
theorem sc74 (h : 74 < simpleCells.size) : simpleCells[74]'h = .bool false := by kernel_rfl
theorem sc75 (h : 75 < simpleCells.size) : simpleCells[75]'h = .bool false := by kernel_rfl
theorem sc76 (h : 76 < simpleCells.size) : simpleCells[76]'h = .bool false := by kernel_rfl
theorem sc77 (h : 77 < simpleCells.size) : simpleCells[77]'h = .int .i64 0 := by kernel_rfl
theorem sc78 (h : 78 < simpleCells.size) : simpleCells[78]'h = .int .i64 14 := by kernel_rfl
theorem sc79 (h : 79 < simpleCells.size) : simpleCells[79]'h = .string ⟨#[104, 97, 108, 116]⟩ := by kernel_rfl
theorem sc80 (h : 80 < simpleCells.size) : simpleCells[80]'h = .bool false := by kernel_rfl
theorem sc81 (h : 81 < simpleCells.size) : simpleCells[81]'h = .bool false := by kernel_rfl
theorem sc82 (h : 82 < simpleCells.size) : simpleCells[82]'h = .bool false := by kernel_rfl
theorem sc83 (h : 83 < simpleCells.size) : simpleCells[83]'h = .int .i64 0 := by kernel_rfl
set_option maxHeartbeats 4000000
attribute [local go_sem] simpleCells_size sc0 sc1 sc2 sc3 sc4 sc5 sc6 sc7 sc8 sc9 sc10 sc11 sc12 sc13 sc14 sc15 sc16 sc17 sc18 sc19 sc20 sc21 sc22 sc23 sc24 sc25 sc26 sc27 sc28 sc29 sc30 sc31 sc32 sc33 sc34 sc35 sc36 sc37 sc38 sc39 sc40 sc41 sc42 sc43 sc44 sc45 sc46 sc47 sc48 sc49 sc50 sc51 sc52 sc53 sc54 sc55 sc56 sc57 sc58 sc59 sc60 sc61 sc62 sc63 sc64 sc65 sc66 sc67 sc68 sc69 sc70 sc71 sc72 sc73 sc74 sc75 sc76 sc77 sc78 sc79 sc80 sc81 sc82 sc83
end Go.Proofs.YtlaijeeeblcinaaDoor.A
set_option linter.all false
set_option linter.unusedVariables false
set_option maxRecDepth 100000
namespace Go.Proofs.YtlaijeeeblcinaaDoor.A
open Go.RowKit Go.Proofs.YtlaijeeeblcinaaDoorW.PrintWords
end Go.Proofs.YtlaijeeeblcinaaDoor.A
