/- cupelref20.find: the contract of its calls, operation by operation. -/
import Derived.Test.YtlaijeeeblcinaaDoorRefTab
set_option linter.all false
set_option linter.unusedVariables false
set_option maxRecDepth 100000
namespace Go.Proofs.YtlaijeeeblcinaaDoor.A
open Go.RowKit Go.Proofs.YtlaijeeeblcinaaDoorW.PrintWords
theorem sc0 (h : 0 < simpleCells.size) : simpleCells[0]'h = .int .i64 1 := by kernel_rfl
theorem sc1 (h : 1 < simpleCells.size) : simpleCells[1]'h = .string ⟨#[109, 111, 118, 101]⟩ := by kernel_rfl
theorem sc2 (h : 2 < simpleCells.size) : simpleCells[2]'h = .bool true := by kernel_rfl
theorem sc3 (h : 3 < simpleCells.size) : simpleCells[3]'h = .bool true := by kernel_rfl
theorem sc4 (h : 4 < simpleCells.size) : simpleCells[4]'h = .bool false := by kernel_rfl
theorem sc5 (h : 5 < simpleCells.size) : simpleCells[5]'h = .int .i64 0 := by kernel_rfl
theorem sc6 (h : 6 < simpleCells.size) : simpleCells[6]'h = .int .i64 2 := by kernel_rfl
theorem sc7 (h : 7 < simpleCells.size) : simpleCells[7]'h = .string ⟨#[115, 101, 116]⟩ := by kernel_rfl
theorem sc8 (h : 8 < simpleCells.size) : simpleCells[8]'h = .bool true := by kernel_rfl
theorem sc9 (h : 9 < simpleCells.size) : simpleCells[9]'h = .bool false := by kernel_rfl
theorem sc10 (h : 10 < simpleCells.size) : simpleCells[10]'h = .bool false := by kernel_rfl
theorem sc11 (h : 11 < simpleCells.size) : simpleCells[11]'h = .int .i64 1 := by kernel_rfl
theorem sc12 (h : 12 < simpleCells.size) : simpleCells[12]'h = .int .i64 3 := by kernel_rfl
theorem sc13 (h : 13 < simpleCells.size) : simpleCells[13]'h = .string ⟨#[119, 105, 100, 101]⟩ := by kernel_rfl
theorem sc14 (h : 14 < simpleCells.size) : simpleCells[14]'h = .bool true := by kernel_rfl
theorem sc15 (h : 15 < simpleCells.size) : simpleCells[15]'h = .bool false := by kernel_rfl
theorem sc16 (h : 16 < simpleCells.size) : simpleCells[16]'h = .bool false := by kernel_rfl
theorem sc17 (h : 17 < simpleCells.size) : simpleCells[17]'h = .int .i64 2 := by kernel_rfl
theorem sc18 (h : 18 < simpleCells.size) : simpleCells[18]'h = .int .i64 4 := by kernel_rfl
theorem sc19 (h : 19 < simpleCells.size) : simpleCells[19]'h = .string ⟨#[108, 111, 97, 100]⟩ := by kernel_rfl
theorem sc20 (h : 20 < simpleCells.size) : simpleCells[20]'h = .bool true := by kernel_rfl
theorem sc21 (h : 21 < simpleCells.size) : simpleCells[21]'h = .bool true := by kernel_rfl
theorem sc22 (h : 22 < simpleCells.size) : simpleCells[22]'h = .bool false := by kernel_rfl
theorem sc23 (h : 23 < simpleCells.size) : simpleCells[23]'h = .int .i64 1 := by kernel_rfl
theorem sc24 (h : 24 < simpleCells.size) : simpleCells[24]'h = .int .i64 5 := by kernel_rfl
theorem sc25 (h : 25 < simpleCells.size) : simpleCells[25]'h = .string ⟨#[115, 116, 111, 114, 101]⟩ := by kernel_rfl
theorem sc26 (h : 26 < simpleCells.size) : simpleCells[26]'h = .bool false := by kernel_rfl
theorem sc27 (h : 27 < simpleCells.size) : simpleCells[27]'h = .bool true := by kernel_rfl
theorem sc28 (h : 28 < simpleCells.size) : simpleCells[28]'h = .bool true := by kernel_rfl
theorem sc29 (h : 29 < simpleCells.size) : simpleCells[29]'h = .int .i64 1 := by kernel_rfl
theorem sc30 (h : 30 < simpleCells.size) : simpleCells[30]'h = .int .i64 6 := by kernel_rfl
theorem sc31 (h : 31 < simpleCells.size) : simpleCells[31]'h = .string ⟨#[106, 117, 109, 112]⟩ := by kernel_rfl
theorem sc32 (h : 32 < simpleCells.size) : simpleCells[32]'h = .bool false := by kernel_rfl
theorem sc33 (h : 33 < simpleCells.size) : simpleCells[33]'h = .bool false := by kernel_rfl
theorem sc34 (h : 34 < simpleCells.size) : simpleCells[34]'h = .bool false := by kernel_rfl
theorem sc35 (h : 35 < simpleCells.size) : simpleCells[35]'h = .int .i64 3 := by kernel_rfl
theorem sc36 (h : 36 < simpleCells.size) : simpleCells[36]'h = .int .i64 11 := by kernel_rfl
theorem sc37 (h : 37 < simpleCells.size) : simpleCells[37]'h = .string ⟨#[99, 97, 108, 108]⟩ := by kernel_rfl
theorem sc38 (h : 38 < simpleCells.size) : simpleCells[38]'h = .bool false := by kernel_rfl
theorem sc39 (h : 39 < simpleCells.size) : simpleCells[39]'h = .bool false := by kernel_rfl
theorem sc40 (h : 40 < simpleCells.size) : simpleCells[40]'h = .bool false := by kernel_rfl
theorem sc41 (h : 41 < simpleCells.size) : simpleCells[41]'h = .int .i64 3 := by kernel_rfl
theorem sc42 (h : 42 < simpleCells.size) : simpleCells[42]'h = .int .i64 7 := by kernel_rfl
theorem sc43 (h : 43 < simpleCells.size) : simpleCells[43]'h = .string ⟨#[122, 101, 114, 111]⟩ := by kernel_rfl
theorem sc44 (h : 44 < simpleCells.size) : simpleCells[44]'h = .bool false := by kernel_rfl
theorem sc45 (h : 45 < simpleCells.size) : simpleCells[45]'h = .bool true := by kernel_rfl
theorem sc46 (h : 46 < simpleCells.size) : simpleCells[46]'h = .bool false := by kernel_rfl
theorem sc47 (h : 47 < simpleCells.size) : simpleCells[47]'h = .int .i64 3 := by kernel_rfl
theorem sc48 (h : 48 < simpleCells.size) : simpleCells[48]'h = .int .i64 8 := by kernel_rfl
theorem sc49 (h : 49 < simpleCells.size) : simpleCells[49]'h = .string ⟨#[99, 104, 101, 99, 107]⟩ := by kernel_rfl
theorem sc50 (h : 50 < simpleCells.size) : simpleCells[50]'h = .bool false := by kernel_rfl
theorem sc51 (h : 51 < simpleCells.size) : simpleCells[51]'h = .bool true := by kernel_rfl
theorem sc52 (h : 52 < simpleCells.size) : simpleCells[52]'h = .bool true := by kernel_rfl
theorem sc53 (h : 53 < simpleCells.size) : simpleCells[53]'h = .int .i64 0 := by kernel_rfl
theorem sc54 (h : 54 < simpleCells.size) : simpleCells[54]'h = .int .i64 9 := by kernel_rfl
theorem sc55 (h : 55 < simpleCells.size) : simpleCells[55]'h = .string ⟨#[99, 104, 101, 99, 107, 105]⟩ := by kernel_rfl
theorem sc56 (h : 56 < simpleCells.size) : simpleCells[56]'h = .bool false := by kernel_rfl
theorem sc57 (h : 57 < simpleCells.size) : simpleCells[57]'h = .bool true := by kernel_rfl
theorem sc58 (h : 58 < simpleCells.size) : simpleCells[58]'h = .bool false := by kernel_rfl
theorem sc59 (h : 59 < simpleCells.size) : simpleCells[59]'h = .int .i64 1 := by kernel_rfl
theorem sc60 (h : 60 < simpleCells.size) : simpleCells[60]'h = .int .i64 10 := by kernel_rfl
theorem sc61 (h : 61 < simpleCells.size) : simpleCells[61]'h = .string ⟨#[112, 114, 105, 110, 116]⟩ := by kernel_rfl
theorem sc62 (h : 62 < simpleCells.size) : simpleCells[62]'h = .bool false := by kernel_rfl
theorem sc63 (h : 63 < simpleCells.size) : simpleCells[63]'h = .bool true := by kernel_rfl
theorem sc64 (h : 64 < simpleCells.size) : simpleCells[64]'h = .bool false := by kernel_rfl
theorem sc65 (h : 65 < simpleCells.size) : simpleCells[65]'h = .int .i64 0 := by kernel_rfl
theorem sc66 (h : 66 < simpleCells.size) : simpleCells[66]'h = .int .i64 12 := by kernel_rfl
theorem sc67 (h : 67 < simpleCells.size) : simpleCells[67]'h = .string ⟨#[114, 101, 116, 117, 114, 110]⟩ := by kernel_rfl
theorem sc68 (h : 68 < simpleCells.size) : simpleCells[68]'h = .bool false := by kernel_rfl
theorem sc69 (h : 69 < simpleCells.size) : simpleCells[69]'h = .bool false := by kernel_rfl
theorem sc70 (h : 70 < simpleCells.size) : simpleCells[70]'h = .bool false := by kernel_rfl
theorem sc71 (h : 71 < simpleCells.size) : simpleCells[71]'h = .int .i64 0 := by kernel_rfl
theorem sc72 (h : 72 < simpleCells.size) : simpleCells[72]'h = .int .i64 13 := by kernel_rfl
theorem sc73 (h : 73 < simpleCells.size) : simpleCells[73]'h = .string ⟨#[116, 114, 97, 112]⟩ := by kernel_rfl
theorem sc74 (h : 74 < simpleCells.size) : simpleCells[74]'h = .bool false := by kernel_rfl
theorem sc75 (h : 75 < simpleCells.size) : simpleCells[75]'h = .bool false := by kernel_rfl
theorem sc76 (h : 76 < simpleCells.size) : simpleCells[76]'h = .bool false := by kernel_rfl
theorem sc77 (h : 77 < simpleCells.size) : simpleCells[77]'h = .int .i64 0 := by kernel_rfl
theorem sc78 (h : 78 < simpleCells.size) : simpleCells[78]'h = .int .i64 14 := by kernel_rfl
theorem sc79 (h : 79 < simpleCells.size) : simpleCells[79]'h = .string ⟨#[104, 97, 108, 116]⟩ := by kernel_rfl
theorem sc80 (h : 80 < simpleCells.size) : simpleCells[80]'h = .bool false := by kernel_rfl
theorem sc81 (h : 81 < simpleCells.size) : simpleCells[81]'h = .bool false := by kernel_rfl
theorem sc82 (h : 82 < simpleCells.size) : simpleCells[82]'h = .bool false := by kernel_rfl
theorem sc83 (h : 83 < simpleCells.size) : simpleCells[83]'h = .int .i64 0 := by kernel_rfl
theorem heap_a2 (w : World) (a b : Obj) : ((w.alloc a).alloc b).heap[w.heap.size]? = some a := by
 have h : (w.alloc a).heap.size = w.heap.size + 1 := by simp
 show ((w.alloc a).heap.push b)[w.heap.size]? = some a
 rw [Array.getElem?_push_lt (by omega), ← Array.getElem?_eq_getElem]
 exact heap_alloc_last w a
theorem heap_a3 (w : World) (a b c : Obj) : (((w.alloc a).alloc b).alloc c).heap[w.heap.size]? = some a := by
 have h : ((w.alloc a).alloc b).heap.size = w.heap.size + 1 + 1 := by simp
 show (((w.alloc a).alloc b).heap.push c)[w.heap.size]? = some a
 rw [Array.getElem?_push_lt (by omega), ← Array.getElem?_eq_getElem]
 exact heap_a2 w a b
set_option maxHeartbeats 4000000
theorem store_simple (w : World) : (storeCells ⟨w.heap.size + 1 + 1, 0, none⟩ simpleCells.toList).run Tryd.prog (((w.alloc (.cells #[.int .i64 0, .string ⟨#[]⟩, .bool false, .bool false, .bool false, .int .i64 0] 56)).alloc (.cells simpleCells 100)).alloc (.cells Tryd.zeroCells100 100)) = .ok () (((w.alloc (.cells #[.int .i64 0, .string ⟨#[]⟩, .bool false, .bool false, .bool false, .int .i64 0] 56)).alloc (.cells simpleCells 100)).alloc (.cells simpleCells 100)) := by
 have h := run_storeCells_new (P := Tryd.prog) ((w.alloc (.cells #[.int .i64 0, .string ⟨#[]⟩, .bool false, .bool false, .bool false, .int .i64 0] 56)).alloc (.cells simpleCells 100)) 100 Tryd.zeroCells100 simpleCells info118 (by rw [simpleCells_size, zero118_size]) simple_one
 have e : ((w.alloc (.cells #[.int .i64 0, .string ⟨#[]⟩, .bool false, .bool false, .bool false, .int .i64 0] 56)).alloc (.cells simpleCells 100)).heap.size = w.heap.size + 1 + 1 := by simp
 rw [e] at h
 exact h
attribute [local go_sem] simpleCells_size sc0 sc1 sc2 sc3 sc4 sc5 sc6 sc7 sc8 sc9 sc10 sc11 sc12 sc13 sc14 sc15 sc16 sc17 sc18 sc19 sc20 sc21 sc22 sc23 sc24 sc25 sc26 sc27 sc28 sc29 sc30 sc31 sc32 sc33 sc34 sc35 sc36 sc37 sc38 sc39 sc40 sc41 sc42 sc43 sc44 sc45 sc46 sc47 sc48 sc49 sc50 sc51 sc52 sc53 sc54 sc55 sc56 sc57 sc58 sc59 sc60 sc61 sc62 sc63 sc64 sc65 sc66 sc67 sc68 sc69 sc70 sc71 sc72 sc73 sc74 sc75 sc76 sc77 sc78 sc79 sc80 sc81 sc82 sc83
theorem find_16 (w : World) : Calls Tryd.prog 27 #[.int .i64 16] w fun e w' => e = .returned (.tuple #[.agg #[.int .i64 16, .string ⟨#[97, 100, 100]⟩, .bool true, .bool true, .bool true, .int .i64 0], .bool true]) ∧ Below w.heap.size w w' := by
 have hix : ∀ W, (Instr.index 98 (.agg operationsCells) (.int .i64 0)).run Tryd.prog W = .ok (.string ⟨#[97, 100, 100]⟩) W := fun _ => by kernel_rfl
 go_enter Tryd.func27, Tryd.ntmps27
 go_wp2_with (first | (go_at_call 55; refine (operations_calls _).mono ?_; rintro e w' ⟨rfl, rfl⟩))
 exact bodyPost_ret (results_ct (fn := Tryd.f27) rfl _ _ w.heap.size 56 #[.int .i64 16, .string ⟨#[97, 100, 100]⟩, .bool true, .bool true, .bool true, .int .i64 0] (0, 0) _ rfl (heap_a2 w _ _) Tryd.underlying56 rfl (by kernel_rfl)) rfl ⟨rfl, ((Below.refl _ _).alloc (Nat.le_refl _) _).alloc (by simp) _⟩
theorem find_17 (w : World) : Calls Tryd.prog 27 #[.int .i64 17] w fun e w' => e = .returned (.tuple #[.agg #[.int .i64 17, .string ⟨#[115, 117, 98]⟩, .bool true, .bool true, .bool true, .int .i64 0], .bool true]) ∧ Below w.heap.size w w' := by
 have hix : ∀ W, (Instr.index 98 (.agg operationsCells) (.int .i64 1)).run Tryd.prog W = .ok (.string ⟨#[115, 117, 98]⟩) W := fun _ => by kernel_rfl
 go_enter Tryd.func27, Tryd.ntmps27
 go_wp2_with (first | (go_at_call 55; refine (operations_calls _).mono ?_; rintro e w' ⟨rfl, rfl⟩))
 exact bodyPost_ret (results_ct (fn := Tryd.f27) rfl _ _ w.heap.size 56 #[.int .i64 17, .string ⟨#[115, 117, 98]⟩, .bool true, .bool true, .bool true, .int .i64 0] (0, 0) _ rfl (heap_a2 w _ _) Tryd.underlying56 rfl (by kernel_rfl)) rfl ⟨rfl, ((Below.refl _ _).alloc (Nat.le_refl _) _).alloc (by simp) _⟩
theorem find_18 (w : World) : Calls Tryd.prog 27 #[.int .i64 18] w fun e w' => e = .returned (.tuple #[.agg #[.int .i64 18, .string ⟨#[109, 117, 108]⟩, .bool true, .bool true, .bool true, .int .i64 0], .bool true]) ∧ Below w.heap.size w w' := by
 have hix : ∀ W, (Instr.index 98 (.agg operationsCells) (.int .i64 2)).run Tryd.prog W = .ok (.string ⟨#[109, 117, 108]⟩) W := fun _ => by kernel_rfl
 go_enter Tryd.func27, Tryd.ntmps27
 go_wp2_with (first | (go_at_call 55; refine (operations_calls _).mono ?_; rintro e w' ⟨rfl, rfl⟩))
 exact bodyPost_ret (results_ct (fn := Tryd.f27) rfl _ _ w.heap.size 56 #[.int .i64 18, .string ⟨#[109, 117, 108]⟩, .bool true, .bool true, .bool true, .int .i64 0] (0, 0) _ rfl (heap_a2 w _ _) Tryd.underlying56 rfl (by kernel_rfl)) rfl ⟨rfl, ((Below.refl _ _).alloc (Nat.le_refl _) _).alloc (by simp) _⟩
theorem find_19 (w : World) : Calls Tryd.prog 27 #[.int .i64 19] w fun e w' => e = .returned (.tuple #[.agg #[.int .i64 19, .string ⟨#[100, 105, 118]⟩, .bool true, .bool true, .bool true, .int .i64 0], .bool true]) ∧ Below w.heap.size w w' := by
 have hix : ∀ W, (Instr.index 98 (.agg operationsCells) (.int .i64 3)).run Tryd.prog W = .ok (.string ⟨#[100, 105, 118]⟩) W := fun _ => by kernel_rfl
 go_enter Tryd.func27, Tryd.ntmps27
 go_wp2_with (first | (go_at_call 55; refine (operations_calls _).mono ?_; rintro e w' ⟨rfl, rfl⟩))
 exact bodyPost_ret (results_ct (fn := Tryd.f27) rfl _ _ w.heap.size 56 #[.int .i64 19, .string ⟨#[100, 105, 118]⟩, .bool true, .bool true, .bool true, .int .i64 0] (0, 0) _ rfl (heap_a2 w _ _) Tryd.underlying56 rfl (by kernel_rfl)) rfl ⟨rfl, ((Below.refl _ _).alloc (Nat.le_refl _) _).alloc (by simp) _⟩
theorem find_20 (w : World) : Calls Tryd.prog 27 #[.int .i64 20] w fun e w' => e = .returned (.tuple #[.agg #[.int .i64 20, .string ⟨#[114, 101, 109]⟩, .bool true, .bool true, .bool true, .int .i64 0], .bool true]) ∧ Below w.heap.size w w' := by
 have hix : ∀ W, (Instr.index 98 (.agg operationsCells) (.int .i64 4)).run Tryd.prog W = .ok (.string ⟨#[114, 101, 109]⟩) W := fun _ => by kernel_rfl
 go_enter Tryd.func27, Tryd.ntmps27
 go_wp2_with (first | (go_at_call 55; refine (operations_calls _).mono ?_; rintro e w' ⟨rfl, rfl⟩))
 exact bodyPost_ret (results_ct (fn := Tryd.f27) rfl _ _ w.heap.size 56 #[.int .i64 20, .string ⟨#[114, 101, 109]⟩, .bool true, .bool true, .bool true, .int .i64 0] (0, 0) _ rfl (heap_a2 w _ _) Tryd.underlying56 rfl (by kernel_rfl)) rfl ⟨rfl, ((Below.refl _ _).alloc (Nat.le_refl _) _).alloc (by simp) _⟩
theorem find_21 (w : World) : Calls Tryd.prog 27 #[.int .i64 21] w fun e w' => e = .returned (.tuple #[.agg #[.int .i64 21, .string ⟨#[97, 110, 100]⟩, .bool true, .bool true, .bool true, .int .i64 0], .bool true]) ∧ Below w.heap.size w w' := by
 have hix : ∀ W, (Instr.index 98 (.agg operationsCells) (.int .i64 5)).run Tryd.prog W = .ok (.string ⟨#[97, 110, 100]⟩) W := fun _ => by kernel_rfl
 go_enter Tryd.func27, Tryd.ntmps27
 go_wp2_with (first | (go_at_call 55; refine (operations_calls _).mono ?_; rintro e w' ⟨rfl, rfl⟩))
 exact bodyPost_ret (results_ct (fn := Tryd.f27) rfl _ _ w.heap.size 56 #[.int .i64 21, .string ⟨#[97, 110, 100]⟩, .bool true, .bool true, .bool true, .int .i64 0] (0, 0) _ rfl (heap_a2 w _ _) Tryd.underlying56 rfl (by kernel_rfl)) rfl ⟨rfl, ((Below.refl _ _).alloc (Nat.le_refl _) _).alloc (by simp) _⟩
theorem find_22 (w : World) : Calls Tryd.prog 27 #[.int .i64 22] w fun e w' => e = .returned (.tuple #[.agg #[.int .i64 22, .string ⟨#[111, 114]⟩, .bool true, .bool true, .bool true, .int .i64 0], .bool true]) ∧ Below w.heap.size w w' := by
 have hix : ∀ W, (Instr.index 98 (.agg operationsCells) (.int .i64 6)).run Tryd.prog W = .ok (.string ⟨#[111, 114]⟩) W := fun _ => by kernel_rfl
 go_enter Tryd.func27, Tryd.ntmps27
 go_wp2_with (first | (go_at_call 55; refine (operations_calls _).mono ?_; rintro e w' ⟨rfl, rfl⟩))
 exact bodyPost_ret (results_ct (fn := Tryd.f27) rfl _ _ w.heap.size 56 #[.int .i64 22, .string ⟨#[111, 114]⟩, .bool true, .bool true, .bool true, .int .i64 0] (0, 0) _ rfl (heap_a2 w _ _) Tryd.underlying56 rfl (by kernel_rfl)) rfl ⟨rfl, ((Below.refl _ _).alloc (Nat.le_refl _) _).alloc (by simp) _⟩
theorem find_23 (w : World) : Calls Tryd.prog 27 #[.int .i64 23] w fun e w' => e = .returned (.tuple #[.agg #[.int .i64 23, .string ⟨#[120, 111, 114]⟩, .bool true, .bool true, .bool true, .int .i64 0], .bool true]) ∧ Below w.heap.size w w' := by
 have hix : ∀ W, (Instr.index 98 (.agg operationsCells) (.int .i64 7)).run Tryd.prog W = .ok (.string ⟨#[120, 111, 114]⟩) W := fun _ => by kernel_rfl
 go_enter Tryd.func27, Tryd.ntmps27
 go_wp2_with (first | (go_at_call 55; refine (operations_calls _).mono ?_; rintro e w' ⟨rfl, rfl⟩))
 exact bodyPost_ret (results_ct (fn := Tryd.f27) rfl _ _ w.heap.size 56 #[.int .i64 23, .string ⟨#[120, 111, 114]⟩, .bool true, .bool true, .bool true, .int .i64 0] (0, 0) _ rfl (heap_a2 w _ _) Tryd.underlying56 rfl (by kernel_rfl)) rfl ⟨rfl, ((Below.refl _ _).alloc (Nat.le_refl _) _).alloc (by simp) _⟩
theorem find_24 (w : World) : Calls Tryd.prog 27 #[.int .i64 24] w fun e w' => e = .returned (.tuple #[.agg #[.int .i64 24, .string ⟨#[115, 104, 108]⟩, .bool true, .bool true, .bool true, .int .i64 0], .bool true]) ∧ Below w.heap.size w w' := by
 have hix : ∀ W, (Instr.index 98 (.agg operationsCells) (.int .i64 8)).run Tryd.prog W = .ok (.string ⟨#[115, 104, 108]⟩) W := fun _ => by kernel_rfl
 go_enter Tryd.func27, Tryd.ntmps27
 go_wp2_with (first | (go_at_call 55; refine (operations_calls _).mono ?_; rintro e w' ⟨rfl, rfl⟩))
 exact bodyPost_ret (results_ct (fn := Tryd.f27) rfl _ _ w.heap.size 56 #[.int .i64 24, .string ⟨#[115, 104, 108]⟩, .bool true, .bool true, .bool true, .int .i64 0] (0, 0) _ rfl (heap_a2 w _ _) Tryd.underlying56 rfl (by kernel_rfl)) rfl ⟨rfl, ((Below.refl _ _).alloc (Nat.le_refl _) _).alloc (by simp) _⟩
theorem find_25 (w : World) : Calls Tryd.prog 27 #[.int .i64 25] w fun e w' => e = .returned (.tuple #[.agg #[.int .i64 25, .string ⟨#[115, 104, 114]⟩, .bool true, .bool true, .bool true, .int .i64 0], .bool true]) ∧ Below w.heap.size w w' := by
 have hix : ∀ W, (Instr.index 98 (.agg operationsCells) (.int .i64 9)).run Tryd.prog W = .ok (.string ⟨#[115, 104, 114]⟩) W := fun _ => by kernel_rfl
 go_enter Tryd.func27, Tryd.ntmps27
 go_wp2_with (first | (go_at_call 55; refine (operations_calls _).mono ?_; rintro e w' ⟨rfl, rfl⟩))
 exact bodyPost_ret (results_ct (fn := Tryd.f27) rfl _ _ w.heap.size 56 #[.int .i64 25, .string ⟨#[115, 104, 114]⟩, .bool true, .bool true, .bool true, .int .i64 0] (0, 0) _ rfl (heap_a2 w _ _) Tryd.underlying56 rfl (by kernel_rfl)) rfl ⟨rfl, ((Below.refl _ _).alloc (Nat.le_refl _) _).alloc (by simp) _⟩
theorem find_26 (w : World) : Calls Tryd.prog 27 #[.int .i64 26] w fun e w' => e = .returned (.tuple #[.agg #[.int .i64 26, .string ⟨#[101, 113]⟩, .bool true, .bool true, .bool true, .int .i64 0], .bool true]) ∧ Below w.heap.size w w' := by
 have hix : ∀ W, (Instr.index 98 (.agg operationsCells) (.int .i64 10)).run Tryd.prog W = .ok (.string ⟨#[101, 113]⟩) W := fun _ => by kernel_rfl
 go_enter Tryd.func27, Tryd.ntmps27
 go_wp2_with (first | (go_at_call 55; refine (operations_calls _).mono ?_; rintro e w' ⟨rfl, rfl⟩))
 exact bodyPost_ret (results_ct (fn := Tryd.f27) rfl _ _ w.heap.size 56 #[.int .i64 26, .string ⟨#[101, 113]⟩, .bool true, .bool true, .bool true, .int .i64 0] (0, 0) _ rfl (heap_a2 w _ _) Tryd.underlying56 rfl (by kernel_rfl)) rfl ⟨rfl, ((Below.refl _ _).alloc (Nat.le_refl _) _).alloc (by simp) _⟩
theorem find_27 (w : World) : Calls Tryd.prog 27 #[.int .i64 27] w fun e w' => e = .returned (.tuple #[.agg #[.int .i64 27, .string ⟨#[110, 101]⟩, .bool true, .bool true, .bool true, .int .i64 0], .bool true]) ∧ Below w.heap.size w w' := by
 have hix : ∀ W, (Instr.index 98 (.agg operationsCells) (.int .i64 11)).run Tryd.prog W = .ok (.string ⟨#[110, 101]⟩) W := fun _ => by kernel_rfl
 go_enter Tryd.func27, Tryd.ntmps27
 go_wp2_with (first | (go_at_call 55; refine (operations_calls _).mono ?_; rintro e w' ⟨rfl, rfl⟩))
 exact bodyPost_ret (results_ct (fn := Tryd.f27) rfl _ _ w.heap.size 56 #[.int .i64 27, .string ⟨#[110, 101]⟩, .bool true, .bool true, .bool true, .int .i64 0] (0, 0) _ rfl (heap_a2 w _ _) Tryd.underlying56 rfl (by kernel_rfl)) rfl ⟨rfl, ((Below.refl _ _).alloc (Nat.le_refl _) _).alloc (by simp) _⟩
theorem find_28 (w : World) : Calls Tryd.prog 27 #[.int .i64 28] w fun e w' => e = .returned (.tuple #[.agg #[.int .i64 28, .string ⟨#[108, 116]⟩, .bool true, .bool true, .bool true, .int .i64 0], .bool true]) ∧ Below w.heap.size w w' := by
 have hix : ∀ W, (Instr.index 98 (.agg operationsCells) (.int .i64 12)).run Tryd.prog W = .ok (.string ⟨#[108, 116]⟩) W := fun _ => by kernel_rfl
 go_enter Tryd.func27, Tryd.ntmps27
 go_wp2_with (first | (go_at_call 55; refine (operations_calls _).mono ?_; rintro e w' ⟨rfl, rfl⟩))
 exact bodyPost_ret (results_ct (fn := Tryd.f27) rfl _ _ w.heap.size 56 #[.int .i64 28, .string ⟨#[108, 116]⟩, .bool true, .bool true, .bool true, .int .i64 0] (0, 0) _ rfl (heap_a2 w _ _) Tryd.underlying56 rfl (by kernel_rfl)) rfl ⟨rfl, ((Below.refl _ _).alloc (Nat.le_refl _) _).alloc (by simp) _⟩
theorem find_29 (w : World) : Calls Tryd.prog 27 #[.int .i64 29] w fun e w' => e = .returned (.tuple #[.agg #[.int .i64 29, .string ⟨#[108, 101]⟩, .bool true, .bool true, .bool true, .int .i64 0], .bool true]) ∧ Below w.heap.size w w' := by
 have hix : ∀ W, (Instr.index 98 (.agg operationsCells) (.int .i64 13)).run Tryd.prog W = .ok (.string ⟨#[108, 101]⟩) W := fun _ => by kernel_rfl
 go_enter Tryd.func27, Tryd.ntmps27
 go_wp2_with (first | (go_at_call 55; refine (operations_calls _).mono ?_; rintro e w' ⟨rfl, rfl⟩))
 exact bodyPost_ret (results_ct (fn := Tryd.f27) rfl _ _ w.heap.size 56 #[.int .i64 29, .string ⟨#[108, 101]⟩, .bool true, .bool true, .bool true, .int .i64 0] (0, 0) _ rfl (heap_a2 w _ _) Tryd.underlying56 rfl (by kernel_rfl)) rfl ⟨rfl, ((Below.refl _ _).alloc (Nat.le_refl _) _).alloc (by simp) _⟩
theorem find_36 (w : World) : Calls Tryd.prog 27 #[.int .i64 36] w fun e w' => e = .returned (.tuple #[.agg #[.int .i64 36, .string ⟨#[97, 100, 100, 105]⟩, .bool true, .bool true, .bool false, .int .i64 1], .bool true]) ∧ Below w.heap.size w w' := by
 have hix : ∀ W, (Instr.index 98 (.agg operationsCells) (.int .i64 0)).run Tryd.prog W = .ok (.string ⟨#[97, 100, 100]⟩) W := fun _ => by kernel_rfl
 go_enter Tryd.func27, Tryd.ntmps27
 go_wp2_with (first | (go_at_call 55; refine (operations_calls _).mono ?_; rintro e w' ⟨rfl, rfl⟩))
 exact bodyPost_ret (results_ct (fn := Tryd.f27) rfl _ _ w.heap.size 56 #[.int .i64 36, .string ⟨#[97, 100, 100, 105]⟩, .bool true, .bool true, .bool false, .int .i64 1] (0, 0) _ rfl (heap_a2 w _ _) Tryd.underlying56 rfl (by kernel_rfl)) rfl ⟨rfl, ((Below.refl _ _).alloc (Nat.le_refl _) _).alloc (by simp) _⟩
theorem find_37 (w : World) : Calls Tryd.prog 27 #[.int .i64 37] w fun e w' => e = .returned (.tuple #[.agg #[.int .i64 37, .string ⟨#[115, 117, 98, 105]⟩, .bool true, .bool true, .bool false, .int .i64 1], .bool true]) ∧ Below w.heap.size w w' := by
 have hix : ∀ W, (Instr.index 98 (.agg operationsCells) (.int .i64 1)).run Tryd.prog W = .ok (.string ⟨#[115, 117, 98]⟩) W := fun _ => by kernel_rfl
 go_enter Tryd.func27, Tryd.ntmps27
 go_wp2_with (first | (go_at_call 55; refine (operations_calls _).mono ?_; rintro e w' ⟨rfl, rfl⟩))
 exact bodyPost_ret (results_ct (fn := Tryd.f27) rfl _ _ w.heap.size 56 #[.int .i64 37, .string ⟨#[115, 117, 98, 105]⟩, .bool true, .bool true, .bool false, .int .i64 1] (0, 0) _ rfl (heap_a2 w _ _) Tryd.underlying56 rfl (by kernel_rfl)) rfl ⟨rfl, ((Below.refl _ _).alloc (Nat.le_refl _) _).alloc (by simp) _⟩
theorem find_38 (w : World) : Calls Tryd.prog 27 #[.int .i64 38] w fun e w' => e = .returned (.tuple #[.agg #[.int .i64 38, .string ⟨#[109, 117, 108, 105]⟩, .bool true, .bool true, .bool false, .int .i64 1], .bool true]) ∧ Below w.heap.size w w' := by
 have hix : ∀ W, (Instr.index 98 (.agg operationsCells) (.int .i64 2)).run Tryd.prog W = .ok (.string ⟨#[109, 117, 108]⟩) W := fun _ => by kernel_rfl
 go_enter Tryd.func27, Tryd.ntmps27
 go_wp2_with (first | (go_at_call 55; refine (operations_calls _).mono ?_; rintro e w' ⟨rfl, rfl⟩))
 exact bodyPost_ret (results_ct (fn := Tryd.f27) rfl _ _ w.heap.size 56 #[.int .i64 38, .string ⟨#[109, 117, 108, 105]⟩, .bool true, .bool true, .bool false, .int .i64 1] (0, 0) _ rfl (heap_a2 w _ _) Tryd.underlying56 rfl (by kernel_rfl)) rfl ⟨rfl, ((Below.refl _ _).alloc (Nat.le_refl _) _).alloc (by simp) _⟩
theorem find_39 (w : World) : Calls Tryd.prog 27 #[.int .i64 39] w fun e w' => e = .returned (.tuple #[.agg #[.int .i64 39, .string ⟨#[100, 105, 118, 105]⟩, .bool true, .bool true, .bool false, .int .i64 1], .bool true]) ∧ Below w.heap.size w w' := by
 have hix : ∀ W, (Instr.index 98 (.agg operationsCells) (.int .i64 3)).run Tryd.prog W = .ok (.string ⟨#[100, 105, 118]⟩) W := fun _ => by kernel_rfl
 go_enter Tryd.func27, Tryd.ntmps27
 go_wp2_with (first | (go_at_call 55; refine (operations_calls _).mono ?_; rintro e w' ⟨rfl, rfl⟩))
 exact bodyPost_ret (results_ct (fn := Tryd.f27) rfl _ _ w.heap.size 56 #[.int .i64 39, .string ⟨#[100, 105, 118, 105]⟩, .bool true, .bool true, .bool false, .int .i64 1] (0, 0) _ rfl (heap_a2 w _ _) Tryd.underlying56 rfl (by kernel_rfl)) rfl ⟨rfl, ((Below.refl _ _).alloc (Nat.le_refl _) _).alloc (by simp) _⟩
theorem find_40 (w : World) : Calls Tryd.prog 27 #[.int .i64 40] w fun e w' => e = .returned (.tuple #[.agg #[.int .i64 40, .string ⟨#[114, 101, 109, 105]⟩, .bool true, .bool true, .bool false, .int .i64 1], .bool true]) ∧ Below w.heap.size w w' := by
 have hix : ∀ W, (Instr.index 98 (.agg operationsCells) (.int .i64 4)).run Tryd.prog W = .ok (.string ⟨#[114, 101, 109]⟩) W := fun _ => by kernel_rfl
 go_enter Tryd.func27, Tryd.ntmps27
 go_wp2_with (first | (go_at_call 55; refine (operations_calls _).mono ?_; rintro e w' ⟨rfl, rfl⟩))
 exact bodyPost_ret (results_ct (fn := Tryd.f27) rfl _ _ w.heap.size 56 #[.int .i64 40, .string ⟨#[114, 101, 109, 105]⟩, .bool true, .bool true, .bool false, .int .i64 1] (0, 0) _ rfl (heap_a2 w _ _) Tryd.underlying56 rfl (by kernel_rfl)) rfl ⟨rfl, ((Below.refl _ _).alloc (Nat.le_refl _) _).alloc (by simp) _⟩
theorem find_41 (w : World) : Calls Tryd.prog 27 #[.int .i64 41] w fun e w' => e = .returned (.tuple #[.agg #[.int .i64 41, .string ⟨#[97, 110, 100, 105]⟩, .bool true, .bool true, .bool false, .int .i64 1], .bool true]) ∧ Below w.heap.size w w' := by
 have hix : ∀ W, (Instr.index 98 (.agg operationsCells) (.int .i64 5)).run Tryd.prog W = .ok (.string ⟨#[97, 110, 100]⟩) W := fun _ => by kernel_rfl
 go_enter Tryd.func27, Tryd.ntmps27
 go_wp2_with (first | (go_at_call 55; refine (operations_calls _).mono ?_; rintro e w' ⟨rfl, rfl⟩))
 exact bodyPost_ret (results_ct (fn := Tryd.f27) rfl _ _ w.heap.size 56 #[.int .i64 41, .string ⟨#[97, 110, 100, 105]⟩, .bool true, .bool true, .bool false, .int .i64 1] (0, 0) _ rfl (heap_a2 w _ _) Tryd.underlying56 rfl (by kernel_rfl)) rfl ⟨rfl, ((Below.refl _ _).alloc (Nat.le_refl _) _).alloc (by simp) _⟩
theorem find_42 (w : World) : Calls Tryd.prog 27 #[.int .i64 42] w fun e w' => e = .returned (.tuple #[.agg #[.int .i64 42, .string ⟨#[111, 114, 105]⟩, .bool true, .bool true, .bool false, .int .i64 1], .bool true]) ∧ Below w.heap.size w w' := by
 have hix : ∀ W, (Instr.index 98 (.agg operationsCells) (.int .i64 6)).run Tryd.prog W = .ok (.string ⟨#[111, 114]⟩) W := fun _ => by kernel_rfl
 go_enter Tryd.func27, Tryd.ntmps27
 go_wp2_with (first | (go_at_call 55; refine (operations_calls _).mono ?_; rintro e w' ⟨rfl, rfl⟩))
 exact bodyPost_ret (results_ct (fn := Tryd.f27) rfl _ _ w.heap.size 56 #[.int .i64 42, .string ⟨#[111, 114, 105]⟩, .bool true, .bool true, .bool false, .int .i64 1] (0, 0) _ rfl (heap_a2 w _ _) Tryd.underlying56 rfl (by kernel_rfl)) rfl ⟨rfl, ((Below.refl _ _).alloc (Nat.le_refl _) _).alloc (by simp) _⟩
theorem find_43 (w : World) : Calls Tryd.prog 27 #[.int .i64 43] w fun e w' => e = .returned (.tuple #[.agg #[.int .i64 43, .string ⟨#[120, 111, 114, 105]⟩, .bool true, .bool true, .bool false, .int .i64 1], .bool true]) ∧ Below w.heap.size w w' := by
 have hix : ∀ W, (Instr.index 98 (.agg operationsCells) (.int .i64 7)).run Tryd.prog W = .ok (.string ⟨#[120, 111, 114]⟩) W := fun _ => by kernel_rfl
 go_enter Tryd.func27, Tryd.ntmps27
 go_wp2_with (first | (go_at_call 55; refine (operations_calls _).mono ?_; rintro e w' ⟨rfl, rfl⟩))
 exact bodyPost_ret (results_ct (fn := Tryd.f27) rfl _ _ w.heap.size 56 #[.int .i64 43, .string ⟨#[120, 111, 114, 105]⟩, .bool true, .bool true, .bool false, .int .i64 1] (0, 0) _ rfl (heap_a2 w _ _) Tryd.underlying56 rfl (by kernel_rfl)) rfl ⟨rfl, ((Below.refl _ _).alloc (Nat.le_refl _) _).alloc (by simp) _⟩
theorem find_44 (w : World) : Calls Tryd.prog 27 #[.int .i64 44] w fun e w' => e = .returned (.tuple #[.agg #[.int .i64 44, .string ⟨#[115, 104, 108, 105]⟩, .bool true, .bool true, .bool false, .int .i64 1], .bool true]) ∧ Below w.heap.size w w' := by
 have hix : ∀ W, (Instr.index 98 (.agg operationsCells) (.int .i64 8)).run Tryd.prog W = .ok (.string ⟨#[115, 104, 108]⟩) W := fun _ => by kernel_rfl
 go_enter Tryd.func27, Tryd.ntmps27
 go_wp2_with (first | (go_at_call 55; refine (operations_calls _).mono ?_; rintro e w' ⟨rfl, rfl⟩))
 exact bodyPost_ret (results_ct (fn := Tryd.f27) rfl _ _ w.heap.size 56 #[.int .i64 44, .string ⟨#[115, 104, 108, 105]⟩, .bool true, .bool true, .bool false, .int .i64 1] (0, 0) _ rfl (heap_a2 w _ _) Tryd.underlying56 rfl (by kernel_rfl)) rfl ⟨rfl, ((Below.refl _ _).alloc (Nat.le_refl _) _).alloc (by simp) _⟩
theorem find_45 (w : World) : Calls Tryd.prog 27 #[.int .i64 45] w fun e w' => e = .returned (.tuple #[.agg #[.int .i64 45, .string ⟨#[115, 104, 114, 105]⟩, .bool true, .bool true, .bool false, .int .i64 1], .bool true]) ∧ Below w.heap.size w w' := by
 have hix : ∀ W, (Instr.index 98 (.agg operationsCells) (.int .i64 9)).run Tryd.prog W = .ok (.string ⟨#[115, 104, 114]⟩) W := fun _ => by kernel_rfl
 go_enter Tryd.func27, Tryd.ntmps27
 go_wp2_with (first | (go_at_call 55; refine (operations_calls _).mono ?_; rintro e w' ⟨rfl, rfl⟩))
 exact bodyPost_ret (results_ct (fn := Tryd.f27) rfl _ _ w.heap.size 56 #[.int .i64 45, .string ⟨#[115, 104, 114, 105]⟩, .bool true, .bool true, .bool false, .int .i64 1] (0, 0) _ rfl (heap_a2 w _ _) Tryd.underlying56 rfl (by kernel_rfl)) rfl ⟨rfl, ((Below.refl _ _).alloc (Nat.le_refl _) _).alloc (by simp) _⟩
theorem find_46 (w : World) : Calls Tryd.prog 27 #[.int .i64 46] w fun e w' => e = .returned (.tuple #[.agg #[.int .i64 46, .string ⟨#[101, 113, 105]⟩, .bool true, .bool true, .bool false, .int .i64 1], .bool true]) ∧ Below w.heap.size w w' := by
 have hix : ∀ W, (Instr.index 98 (.agg operationsCells) (.int .i64 10)).run Tryd.prog W = .ok (.string ⟨#[101, 113]⟩) W := fun _ => by kernel_rfl
 go_enter Tryd.func27, Tryd.ntmps27
 go_wp2_with (first | (go_at_call 55; refine (operations_calls _).mono ?_; rintro e w' ⟨rfl, rfl⟩))
 exact bodyPost_ret (results_ct (fn := Tryd.f27) rfl _ _ w.heap.size 56 #[.int .i64 46, .string ⟨#[101, 113, 105]⟩, .bool true, .bool true, .bool false, .int .i64 1] (0, 0) _ rfl (heap_a2 w _ _) Tryd.underlying56 rfl (by kernel_rfl)) rfl ⟨rfl, ((Below.refl _ _).alloc (Nat.le_refl _) _).alloc (by simp) _⟩
theorem find_47 (w : World) : Calls Tryd.prog 27 #[.int .i64 47] w fun e w' => e = .returned (.tuple #[.agg #[.int .i64 47, .string ⟨#[110, 101, 105]⟩, .bool true, .bool true, .bool false, .int .i64 1], .bool true]) ∧ Below w.heap.size w w' := by
 have hix : ∀ W, (Instr.index 98 (.agg operationsCells) (.int .i64 11)).run Tryd.prog W = .ok (.string ⟨#[110, 101]⟩) W := fun _ => by kernel_rfl
 go_enter Tryd.func27, Tryd.ntmps27
 go_wp2_with (first | (go_at_call 55; refine (operations_calls _).mono ?_; rintro e w' ⟨rfl, rfl⟩))
 exact bodyPost_ret (results_ct (fn := Tryd.f27) rfl _ _ w.heap.size 56 #[.int .i64 47, .string ⟨#[110, 101, 105]⟩, .bool true, .bool true, .bool false, .int .i64 1] (0, 0) _ rfl (heap_a2 w _ _) Tryd.underlying56 rfl (by kernel_rfl)) rfl ⟨rfl, ((Below.refl _ _).alloc (Nat.le_refl _) _).alloc (by simp) _⟩
theorem find_48 (w : World) : Calls Tryd.prog 27 #[.int .i64 48] w fun e w' => e = .returned (.tuple #[.agg #[.int .i64 48, .string ⟨#[108, 116, 105]⟩, .bool true, .bool true, .bool false, .int .i64 1], .bool true]) ∧ Below w.heap.size w w' := by
 have hix : ∀ W, (Instr.index 98 (.agg operationsCells) (.int .i64 12)).run Tryd.prog W = .ok (.string ⟨#[108, 116]⟩) W := fun _ => by kernel_rfl
 go_enter Tryd.func27, Tryd.ntmps27
 go_wp2_with (first | (go_at_call 55; refine (operations_calls _).mono ?_; rintro e w' ⟨rfl, rfl⟩))
 exact bodyPost_ret (results_ct (fn := Tryd.f27) rfl _ _ w.heap.size 56 #[.int .i64 48, .string ⟨#[108, 116, 105]⟩, .bool true, .bool true, .bool false, .int .i64 1] (0, 0) _ rfl (heap_a2 w _ _) Tryd.underlying56 rfl (by kernel_rfl)) rfl ⟨rfl, ((Below.refl _ _).alloc (Nat.le_refl _) _).alloc (by simp) _⟩
theorem find_49 (w : World) : Calls Tryd.prog 27 #[.int .i64 49] w fun e w' => e = .returned (.tuple #[.agg #[.int .i64 49, .string ⟨#[108, 101, 105]⟩, .bool true, .bool true, .bool false, .int .i64 1], .bool true]) ∧ Below w.heap.size w w' := by
 have hix : ∀ W, (Instr.index 98 (.agg operationsCells) (.int .i64 13)).run Tryd.prog W = .ok (.string ⟨#[108, 101]⟩) W := fun _ => by kernel_rfl
 go_enter Tryd.func27, Tryd.ntmps27
 go_wp2_with (first | (go_at_call 55; refine (operations_calls _).mono ?_; rintro e w' ⟨rfl, rfl⟩))
 exact bodyPost_ret (results_ct (fn := Tryd.f27) rfl _ _ w.heap.size 56 #[.int .i64 49, .string ⟨#[108, 101, 105]⟩, .bool true, .bool true, .bool false, .int .i64 1] (0, 0) _ rfl (heap_a2 w _ _) Tryd.underlying56 rfl (by kernel_rfl)) rfl ⟨rfl, ((Below.refl _ _).alloc (Nat.le_refl _) _).alloc (by simp) _⟩
theorem find_1 (w : World) : Calls Tryd.prog 27 #[.int .i64 1] w fun e w' => e = .returned (.tuple #[.agg #[.int .i64 1, .string ⟨#[109, 111, 118, 101]⟩, .bool true, .bool true, .bool false, .int .i64 0], .bool true]) ∧ Below w.heap.size w w' := by
 have hst := store_simple w
 go_enter Tryd.func27, Tryd.ntmps27
 go_wp2_with (first | (go_at_call 56; refine (simple_calls _).mono ?_; rintro e w' ⟨rfl, rfl⟩))
 go_rounds 1
 exact bodyPost_ret (results_ct (fn := Tryd.f27) rfl _ _ w.heap.size 56 #[.int .i64 1, .string ⟨#[109, 111, 118, 101]⟩, .bool true, .bool true, .bool false, .int .i64 0] (0, 0) _ rfl (heap_a3 w _ _ _) Tryd.underlying56 rfl (by kernel_rfl)) rfl ⟨rfl, (((Below.refl _ _).alloc (Nat.le_refl _) _).alloc (by simp) _).alloc (by simp; omega) _⟩
theorem find_2 (w : World) : Calls Tryd.prog 27 #[.int .i64 2] w fun e w' => e = .returned (.tuple #[.agg #[.int .i64 2, .string ⟨#[115, 101, 116]⟩, .bool true, .bool false, .bool false, .int .i64 1], .bool true]) ∧ Below w.heap.size w w' := by
 have hst := store_simple w
 go_enter Tryd.func27, Tryd.ntmps27
 go_wp2_with (first | (go_at_call 56; refine (simple_calls _).mono ?_; rintro e w' ⟨rfl, rfl⟩))
 go_rounds 2
 exact bodyPost_ret (results_ct (fn := Tryd.f27) rfl _ _ w.heap.size 56 #[.int .i64 2, .string ⟨#[115, 101, 116]⟩, .bool true, .bool false, .bool false, .int .i64 1] (0, 0) _ rfl (heap_a3 w _ _ _) Tryd.underlying56 rfl (by kernel_rfl)) rfl ⟨rfl, (((Below.refl _ _).alloc (Nat.le_refl _) _).alloc (by simp) _).alloc (by simp; omega) _⟩
theorem find_3 (w : World) : Calls Tryd.prog 27 #[.int .i64 3] w fun e w' => e = .returned (.tuple #[.agg #[.int .i64 3, .string ⟨#[119, 105, 100, 101]⟩, .bool true, .bool false, .bool false, .int .i64 2], .bool true]) ∧ Below w.heap.size w w' := by
 have hst := store_simple w
 go_enter Tryd.func27, Tryd.ntmps27
 go_wp2_with (first | (go_at_call 56; refine (simple_calls _).mono ?_; rintro e w' ⟨rfl, rfl⟩))
 go_rounds 3
 exact bodyPost_ret (results_ct (fn := Tryd.f27) rfl _ _ w.heap.size 56 #[.int .i64 3, .string ⟨#[119, 105, 100, 101]⟩, .bool true, .bool false, .bool false, .int .i64 2] (0, 0) _ rfl (heap_a3 w _ _ _) Tryd.underlying56 rfl (by kernel_rfl)) rfl ⟨rfl, (((Below.refl _ _).alloc (Nat.le_refl _) _).alloc (by simp) _).alloc (by simp; omega) _⟩
theorem find_4 (w : World) : Calls Tryd.prog 27 #[.int .i64 4] w fun e w' => e = .returned (.tuple #[.agg #[.int .i64 4, .string ⟨#[108, 111, 97, 100]⟩, .bool true, .bool true, .bool false, .int .i64 1], .bool true]) ∧ Below w.heap.size w w' := by
 have hst := store_simple w
 go_enter Tryd.func27, Tryd.ntmps27
 go_wp2_with (first | (go_at_call 56; refine (simple_calls _).mono ?_; rintro e w' ⟨rfl, rfl⟩))
 go_rounds 4
 exact bodyPost_ret (results_ct (fn := Tryd.f27) rfl _ _ w.heap.size 56 #[.int .i64 4, .string ⟨#[108, 111, 97, 100]⟩, .bool true, .bool true, .bool false, .int .i64 1] (0, 0) _ rfl (heap_a3 w _ _ _) Tryd.underlying56 rfl (by kernel_rfl)) rfl ⟨rfl, (((Below.refl _ _).alloc (Nat.le_refl _) _).alloc (by simp) _).alloc (by simp; omega) _⟩
theorem find_5 (w : World) : Calls Tryd.prog 27 #[.int .i64 5] w fun e w' => e = .returned (.tuple #[.agg #[.int .i64 5, .string ⟨#[115, 116, 111, 114, 101]⟩, .bool false, .bool true, .bool true, .int .i64 1], .bool true]) ∧ Below w.heap.size w w' := by
 have hst := store_simple w
 go_enter Tryd.func27, Tryd.ntmps27
 go_wp2_with (first | (go_at_call 56; refine (simple_calls _).mono ?_; rintro e w' ⟨rfl, rfl⟩))
 go_rounds 5
 exact bodyPost_ret (results_ct (fn := Tryd.f27) rfl _ _ w.heap.size 56 #[.int .i64 5, .string ⟨#[115, 116, 111, 114, 101]⟩, .bool false, .bool true, .bool true, .int .i64 1] (0, 0) _ rfl (heap_a3 w _ _ _) Tryd.underlying56 rfl (by kernel_rfl)) rfl ⟨rfl, (((Below.refl _ _).alloc (Nat.le_refl _) _).alloc (by simp) _).alloc (by simp; omega) _⟩
theorem find_6 (w : World) : Calls Tryd.prog 27 #[.int .i64 6] w fun e w' => e = .returned (.tuple #[.agg #[.int .i64 6, .string ⟨#[106, 117, 109, 112]⟩, .bool false, .bool false, .bool false, .int .i64 3], .bool true]) ∧ Below w.heap.size w w' := by
 have hst := store_simple w
 go_enter Tryd.func27, Tryd.ntmps27
 go_wp2_with (first | (go_at_call 56; refine (simple_calls _).mono ?_; rintro e w' ⟨rfl, rfl⟩))
 go_rounds 6
 exact bodyPost_ret (results_ct (fn := Tryd.f27) rfl _ _ w.heap.size 56 #[.int .i64 6, .string ⟨#[106, 117, 109, 112]⟩, .bool false, .bool false, .bool false, .int .i64 3] (0, 0) _ rfl (heap_a3 w _ _ _) Tryd.underlying56 rfl (by kernel_rfl)) rfl ⟨rfl, (((Below.refl _ _).alloc (Nat.le_refl _) _).alloc (by simp) _).alloc (by simp; omega) _⟩
theorem find_11 (w : World) : Calls Tryd.prog 27 #[.int .i64 11] w fun e w' => e = .returned (.tuple #[.agg #[.int .i64 11, .string ⟨#[99, 97, 108, 108]⟩, .bool false, .bool false, .bool false, .int .i64 3], .bool true]) ∧ Below w.heap.size w w' := by
 have hst := store_simple w
 go_enter Tryd.func27, Tryd.ntmps27
 go_wp2_with (first | (go_at_call 56; refine (simple_calls _).mono ?_; rintro e w' ⟨rfl, rfl⟩))
 go_rounds 7
 exact bodyPost_ret (results_ct (fn := Tryd.f27) rfl _ _ w.heap.size 56 #[.int .i64 11, .string ⟨#[99, 97, 108, 108]⟩, .bool false, .bool false, .bool false, .int .i64 3] (0, 0) _ rfl (heap_a3 w _ _ _) Tryd.underlying56 rfl (by kernel_rfl)) rfl ⟨rfl, (((Below.refl _ _).alloc (Nat.le_refl _) _).alloc (by simp) _).alloc (by simp; omega) _⟩
theorem find_7 (w : World) : Calls Tryd.prog 27 #[.int .i64 7] w fun e w' => e = .returned (.tuple #[.agg #[.int .i64 7, .string ⟨#[122, 101, 114, 111]⟩, .bool false, .bool true, .bool false, .int .i64 3], .bool true]) ∧ Below w.heap.size w w' := by
 have hst := store_simple w
 go_enter Tryd.func27, Tryd.ntmps27
 go_wp2_with (first | (go_at_call 56; refine (simple_calls _).mono ?_; rintro e w' ⟨rfl, rfl⟩))
 go_rounds 8
 exact bodyPost_ret (results_ct (fn := Tryd.f27) rfl _ _ w.heap.size 56 #[.int .i64 7, .string ⟨#[122, 101, 114, 111]⟩, .bool false, .bool true, .bool false, .int .i64 3] (0, 0) _ rfl (heap_a3 w _ _ _) Tryd.underlying56 rfl (by kernel_rfl)) rfl ⟨rfl, (((Below.refl _ _).alloc (Nat.le_refl _) _).alloc (by simp) _).alloc (by simp; omega) _⟩
theorem find_8 (w : World) : Calls Tryd.prog 27 #[.int .i64 8] w fun e w' => e = .returned (.tuple #[.agg #[.int .i64 8, .string ⟨#[99, 104, 101, 99, 107]⟩, .bool false, .bool true, .bool true, .int .i64 0], .bool true]) ∧ Below w.heap.size w w' := by
 have hst := store_simple w
 go_enter Tryd.func27, Tryd.ntmps27
 go_wp2_with (first | (go_at_call 56; refine (simple_calls _).mono ?_; rintro e w' ⟨rfl, rfl⟩))
 go_rounds 9
 exact bodyPost_ret (results_ct (fn := Tryd.f27) rfl _ _ w.heap.size 56 #[.int .i64 8, .string ⟨#[99, 104, 101, 99, 107]⟩, .bool false, .bool true, .bool true, .int .i64 0] (0, 0) _ rfl (heap_a3 w _ _ _) Tryd.underlying56 rfl (by kernel_rfl)) rfl ⟨rfl, (((Below.refl _ _).alloc (Nat.le_refl _) _).alloc (by simp) _).alloc (by simp; omega) _⟩
theorem find_9 (w : World) : Calls Tryd.prog 27 #[.int .i64 9] w fun e w' => e = .returned (.tuple #[.agg #[.int .i64 9, .string ⟨#[99, 104, 101, 99, 107, 105]⟩, .bool false, .bool true, .bool false, .int .i64 1], .bool true]) ∧ Below w.heap.size w w' := by
 have hst := store_simple w
 go_enter Tryd.func27, Tryd.ntmps27
 go_wp2_with (first | (go_at_call 56; refine (simple_calls _).mono ?_; rintro e w' ⟨rfl, rfl⟩))
 go_rounds 10
 exact bodyPost_ret (results_ct (fn := Tryd.f27) rfl _ _ w.heap.size 56 #[.int .i64 9, .string ⟨#[99, 104, 101, 99, 107, 105]⟩, .bool false, .bool true, .bool false, .int .i64 1] (0, 0) _ rfl (heap_a3 w _ _ _) Tryd.underlying56 rfl (by kernel_rfl)) rfl ⟨rfl, (((Below.refl _ _).alloc (Nat.le_refl _) _).alloc (by simp) _).alloc (by simp; omega) _⟩
theorem find_10 (w : World) : Calls Tryd.prog 27 #[.int .i64 10] w fun e w' => e = .returned (.tuple #[.agg #[.int .i64 10, .string ⟨#[112, 114, 105, 110, 116]⟩, .bool false, .bool true, .bool false, .int .i64 0], .bool true]) ∧ Below w.heap.size w w' := by
 have hst := store_simple w
 go_enter Tryd.func27, Tryd.ntmps27
 go_wp2_with (first | (go_at_call 56; refine (simple_calls _).mono ?_; rintro e w' ⟨rfl, rfl⟩))
 go_rounds 11
 exact bodyPost_ret (results_ct (fn := Tryd.f27) rfl _ _ w.heap.size 56 #[.int .i64 10, .string ⟨#[112, 114, 105, 110, 116]⟩, .bool false, .bool true, .bool false, .int .i64 0] (0, 0) _ rfl (heap_a3 w _ _ _) Tryd.underlying56 rfl (by kernel_rfl)) rfl ⟨rfl, (((Below.refl _ _).alloc (Nat.le_refl _) _).alloc (by simp) _).alloc (by simp; omega) _⟩
theorem find_12 (w : World) : Calls Tryd.prog 27 #[.int .i64 12] w fun e w' => e = .returned (.tuple #[.agg #[.int .i64 12, .string ⟨#[114, 101, 116, 117, 114, 110]⟩, .bool false, .bool false, .bool false, .int .i64 0], .bool true]) ∧ Below w.heap.size w w' := by
 have hst := store_simple w
 go_enter Tryd.func27, Tryd.ntmps27
 go_wp2_with (first | (go_at_call 56; refine (simple_calls _).mono ?_; rintro e w' ⟨rfl, rfl⟩))
 go_rounds 12
 exact bodyPost_ret (results_ct (fn := Tryd.f27) rfl _ _ w.heap.size 56 #[.int .i64 12, .string ⟨#[114, 101, 116, 117, 114, 110]⟩, .bool false, .bool false, .bool false, .int .i64 0] (0, 0) _ rfl (heap_a3 w _ _ _) Tryd.underlying56 rfl (by kernel_rfl)) rfl ⟨rfl, (((Below.refl _ _).alloc (Nat.le_refl _) _).alloc (by simp) _).alloc (by simp; omega) _⟩
theorem find_13 (w : World) : Calls Tryd.prog 27 #[.int .i64 13] w fun e w' => e = .returned (.tuple #[.agg #[.int .i64 13, .string ⟨#[116, 114, 97, 112]⟩, .bool false, .bool false, .bool false, .int .i64 0], .bool true]) ∧ Below w.heap.size w w' := by
 have hst := store_simple w
 go_enter Tryd.func27, Tryd.ntmps27
 go_wp2_with (first | (go_at_call 56; refine (simple_calls _).mono ?_; rintro e w' ⟨rfl, rfl⟩))
 go_rounds 13
 exact bodyPost_ret (results_ct (fn := Tryd.f27) rfl _ _ w.heap.size 56 #[.int .i64 13, .string ⟨#[116, 114, 97, 112]⟩, .bool false, .bool false, .bool false, .int .i64 0] (0, 0) _ rfl (heap_a3 w _ _ _) Tryd.underlying56 rfl (by kernel_rfl)) rfl ⟨rfl, (((Below.refl _ _).alloc (Nat.le_refl _) _).alloc (by simp) _).alloc (by simp; omega) _⟩
theorem find_14 (w : World) : Calls Tryd.prog 27 #[.int .i64 14] w fun e w' => e = .returned (.tuple #[.agg #[.int .i64 14, .string ⟨#[104, 97, 108, 116]⟩, .bool false, .bool false, .bool false, .int .i64 0], .bool true]) ∧ Below w.heap.size w w' := by
 have hst := store_simple w
 go_enter Tryd.func27, Tryd.ntmps27
 go_wp2_with (first | (go_at_call 56; refine (simple_calls _).mono ?_; rintro e w' ⟨rfl, rfl⟩))
 go_rounds 14
 exact bodyPost_ret (results_ct (fn := Tryd.f27) rfl _ _ w.heap.size 56 #[.int .i64 14, .string ⟨#[104, 97, 108, 116]⟩, .bool false, .bool false, .bool false, .int .i64 0] (0, 0) _ rfl (heap_a3 w _ _ _) Tryd.underlying56 rfl (by kernel_rfl)) rfl ⟨rfl, (((Below.refl _ _).alloc (Nat.le_refl _) _).alloc (by simp) _).alloc (by simp; omega) _⟩
theorem find_none (n : Int) (h1 : ¬ (16 ≤ n ∧ n ≤ 29)) (h2 : ¬ (36 ≤ n ∧ n ≤ 49)) (h3 : ¬ (1 ≤ n ∧ n ≤ 14)) (w : World) : Calls Tryd.prog 27 #[.int .i64 n] w fun e w' => e = .returned (.tuple #[.agg #[.int .i64 0, .string ⟨#[]⟩, .bool false, .bool false, .bool false, .int .i64 0], .bool false]) ∧ Below w.heap.size w w' := by
 have hst := store_simple w
 have n1 : ¬ (1 : Int) = n := by omega
 have n2 : ¬ (2 : Int) = n := by omega
 have n3 : ¬ (3 : Int) = n := by omega
 have n4 : ¬ (4 : Int) = n := by omega
 have n5 : ¬ (5 : Int) = n := by omega
 have n6 : ¬ (6 : Int) = n := by omega
 have n11 : ¬ (11 : Int) = n := by omega
 have n7 : ¬ (7 : Int) = n := by omega
 have n8 : ¬ (8 : Int) = n := by omega
 have n9 : ¬ (9 : Int) = n := by omega
 have n10 : ¬ (10 : Int) = n := by omega
 have n12 : ¬ (12 : Int) = n := by omega
 have n13 : ¬ (13 : Int) = n := by omega
 have n14 : ¬ (14 : Int) = n := by omega
 by_cases c1 : n > 15
 ·have c2 : ¬ n ≤ 29 := by omega
  by_cases c3 : n > 35
  ·have c4 : ¬ n ≤ 49 := by omega
   clear h1 h2 h3
   go_enter Tryd.func27, Tryd.ntmps27
   go_wp2_with (first | (go_at_call 56; refine (simple_calls _).mono ?_; rintro e w' ⟨rfl, rfl⟩))
   go_rounds 15
   exact bodyPost_ret (results_ct (fn := Tryd.f27) rfl _ _ w.heap.size 56 #[.int .i64 0, .string ⟨#[]⟩, .bool false, .bool false, .bool false, .int .i64 0] (0, 0) _ rfl (heap_a3 w _ _ _) Tryd.underlying56 rfl (by kernel_rfl)) rfl ⟨rfl, (((Below.refl _ _).alloc (Nat.le_refl _) _).alloc (by simp) _).alloc (by simp; omega) _⟩
  ·clear h1 h2 h3
   go_enter Tryd.func27, Tryd.ntmps27
   go_wp2_with (first | (go_at_call 56; refine (simple_calls _).mono ?_; rintro e w' ⟨rfl, rfl⟩))
   go_rounds 15
   exact bodyPost_ret (results_ct (fn := Tryd.f27) rfl _ _ w.heap.size 56 #[.int .i64 0, .string ⟨#[]⟩, .bool false, .bool false, .bool false, .int .i64 0] (0, 0) _ rfl (heap_a3 w _ _ _) Tryd.underlying56 rfl (by kernel_rfl)) rfl ⟨rfl, (((Below.refl _ _).alloc (Nat.le_refl _) _).alloc (by simp) _).alloc (by simp; omega) _⟩
 ·have c3 : ¬ n > 35 := by omega
  clear h1 h2 h3
  go_enter Tryd.func27, Tryd.ntmps27
  go_wp2_with (first | (go_at_call 56; refine (simple_calls _).mono ?_; rintro e w' ⟨rfl, rfl⟩))
  go_rounds 15
  exact bodyPost_ret (results_ct (fn := Tryd.f27) rfl _ _ w.heap.size 56 #[.int .i64 0, .string ⟨#[]⟩, .bool false, .bool false, .bool false, .int .i64 0] (0, 0) _ rfl (heap_a3 w _ _ _) Tryd.underlying56 rfl (by kernel_rfl)) rfl ⟨rfl, (((Below.refl _ _).alloc (Nat.le_refl _) _).alloc (by simp) _).alloc (by simp; omega) _⟩
end Go.Proofs.YtlaijeeeblcinaaDoor.A
set_option linter.all false
set_option linter.unusedVariables false
set_option maxRecDepth 100000
namespace Go.Proofs.YtlaijeeeblcinaaDoor.A
open Go.RowKit Go.Proofs.YtlaijeeeblcinaaDoorW.PrintWords
theorem cupelref20_find.calls (a0 : Int) (r0 : Int) (r1 : ByteArray) (r2 r3 r4 : Bool) (r5 : Int) (r6 : Bool) (w : World) (h : cupelref20_find.f a0 = some (r0, r1, r2, r3, r4, r5, r6)) :
  Calls Tryd.prog 27 #[.int .i64 a0] w fun e w' => e = .returned (.tuple #[.agg #[.int .i64 r0, .string r1, .bool r2, .bool r3, .bool r4, .int .i64 r5], .bool r6]) ∧ Below w.heap.size w w' := by
 by_cases h1 : 16 ≤ a0 ∧ a0 ≤ 29
 ·obtain ⟨k, hk, rfl⟩ : ∃ k : Nat, k < 14 ∧ a0 = (k : Int) + 16 := ⟨(a0 - 16).toNat, by omega, by omega⟩
  match k, hk with
  | 0, _ => obtain ⟨rfl, rfl, rfl, rfl, rfl, rfl, rfl⟩ : 16 = r0 ∧ ⟨#[97, 100, 100]⟩ = r1 ∧ true = r2 ∧ true = r3 ∧ true = r4 ∧ 0 = r5 ∧ true = r6 := (by have e := Option.some.inj h; simp only [Prod.mk.injEq] at e; exact e); exact find_16 w
  | 1, _ => obtain ⟨rfl, rfl, rfl, rfl, rfl, rfl, rfl⟩ : 17 = r0 ∧ ⟨#[115, 117, 98]⟩ = r1 ∧ true = r2 ∧ true = r3 ∧ true = r4 ∧ 0 = r5 ∧ true = r6 := (by have e := Option.some.inj h; simp only [Prod.mk.injEq] at e; exact e); exact find_17 w
  | 2, _ => obtain ⟨rfl, rfl, rfl, rfl, rfl, rfl, rfl⟩ : 18 = r0 ∧ ⟨#[109, 117, 108]⟩ = r1 ∧ true = r2 ∧ true = r3 ∧ true = r4 ∧ 0 = r5 ∧ true = r6 := (by have e := Option.some.inj h; simp only [Prod.mk.injEq] at e; exact e); exact find_18 w
  | 3, _ => obtain ⟨rfl, rfl, rfl, rfl, rfl, rfl, rfl⟩ : 19 = r0 ∧ ⟨#[100, 105, 118]⟩ = r1 ∧ true = r2 ∧ true = r3 ∧ true = r4 ∧ 0 = r5 ∧ true = r6 := (by have e := Option.some.inj h; simp only [Prod.mk.injEq] at e; exact e); exact find_19 w
  | 4, _ => obtain ⟨rfl, rfl, rfl, rfl, rfl, rfl, rfl⟩ : 20 = r0 ∧ ⟨#[114, 101, 109]⟩ = r1 ∧ true = r2 ∧ true = r3 ∧ true = r4 ∧ 0 = r5 ∧ true = r6 := (by have e := Option.some.inj h; simp only [Prod.mk.injEq] at e; exact e); exact find_20 w
  | 5, _ => obtain ⟨rfl, rfl, rfl, rfl, rfl, rfl, rfl⟩ : 21 = r0 ∧ ⟨#[97, 110, 100]⟩ = r1 ∧ true = r2 ∧ true = r3 ∧ true = r4 ∧ 0 = r5 ∧ true = r6 := (by have e := Option.some.inj h; simp only [Prod.mk.injEq] at e; exact e); exact find_21 w
  | 6, _ => obtain ⟨rfl, rfl, rfl, rfl, rfl, rfl, rfl⟩ : 22 = r0 ∧ ⟨#[111, 114]⟩ = r1 ∧ true = r2 ∧ true = r3 ∧ true = r4 ∧ 0 = r5 ∧ true = r6 := (by have e := Option.some.inj h; simp only [Prod.mk.injEq] at e; exact e); exact find_22 w
  | 7, _ => obtain ⟨rfl, rfl, rfl, rfl, rfl, rfl, rfl⟩ : 23 = r0 ∧ ⟨#[120, 111, 114]⟩ = r1 ∧ true = r2 ∧ true = r3 ∧ true = r4 ∧ 0 = r5 ∧ true = r6 := (by have e := Option.some.inj h; simp only [Prod.mk.injEq] at e; exact e); exact find_23 w
  | 8, _ => obtain ⟨rfl, rfl, rfl, rfl, rfl, rfl, rfl⟩ : 24 = r0 ∧ ⟨#[115, 104, 108]⟩ = r1 ∧ true = r2 ∧ true = r3 ∧ true = r4 ∧ 0 = r5 ∧ true = r6 := (by have e := Option.some.inj h; simp only [Prod.mk.injEq] at e; exact e); exact find_24 w
  | 9, _ => obtain ⟨rfl, rfl, rfl, rfl, rfl, rfl, rfl⟩ : 25 = r0 ∧ ⟨#[115, 104, 114]⟩ = r1 ∧ true = r2 ∧ true = r3 ∧ true = r4 ∧ 0 = r5 ∧ true = r6 := (by have e := Option.some.inj h; simp only [Prod.mk.injEq] at e; exact e); exact find_25 w
  | 10, _ => obtain ⟨rfl, rfl, rfl, rfl, rfl, rfl, rfl⟩ : 26 = r0 ∧ ⟨#[101, 113]⟩ = r1 ∧ true = r2 ∧ true = r3 ∧ true = r4 ∧ 0 = r5 ∧ true = r6 := (by have e := Option.some.inj h; simp only [Prod.mk.injEq] at e; exact e); exact find_26 w
  | 11, _ => obtain ⟨rfl, rfl, rfl, rfl, rfl, rfl, rfl⟩ : 27 = r0 ∧ ⟨#[110, 101]⟩ = r1 ∧ true = r2 ∧ true = r3 ∧ true = r4 ∧ 0 = r5 ∧ true = r6 := (by have e := Option.some.inj h; simp only [Prod.mk.injEq] at e; exact e); exact find_27 w
  | 12, _ => obtain ⟨rfl, rfl, rfl, rfl, rfl, rfl, rfl⟩ : 28 = r0 ∧ ⟨#[108, 116]⟩ = r1 ∧ true = r2 ∧ true = r3 ∧ true = r4 ∧ 0 = r5 ∧ true = r6 := (by have e := Option.some.inj h; simp only [Prod.mk.injEq] at e; exact e); exact find_28 w
  | 13, _ => obtain ⟨rfl, rfl, rfl, rfl, rfl, rfl, rfl⟩ : 29 = r0 ∧ ⟨#[108, 101]⟩ = r1 ∧ true = r2 ∧ true = r3 ∧ true = r4 ∧ 0 = r5 ∧ true = r6 := (by have e := Option.some.inj h; simp only [Prod.mk.injEq] at e; exact e); exact find_29 w
 by_cases h2 : 36 ≤ a0 ∧ a0 ≤ 49
 ·obtain ⟨k, hk, rfl⟩ : ∃ k : Nat, k < 14 ∧ a0 = (k : Int) + 36 := ⟨(a0 - 36).toNat, by omega, by omega⟩
  match k, hk with
  | 0, _ => obtain ⟨rfl, rfl, rfl, rfl, rfl, rfl, rfl⟩ : 36 = r0 ∧ ⟨#[97, 100, 100, 105]⟩ = r1 ∧ true = r2 ∧ true = r3 ∧ false = r4 ∧ 1 = r5 ∧ true = r6 := (by have e := Option.some.inj h; simp only [Prod.mk.injEq] at e; exact e); exact find_36 w
  | 1, _ => obtain ⟨rfl, rfl, rfl, rfl, rfl, rfl, rfl⟩ : 37 = r0 ∧ ⟨#[115, 117, 98, 105]⟩ = r1 ∧ true = r2 ∧ true = r3 ∧ false = r4 ∧ 1 = r5 ∧ true = r6 := (by have e := Option.some.inj h; simp only [Prod.mk.injEq] at e; exact e); exact find_37 w
  | 2, _ => obtain ⟨rfl, rfl, rfl, rfl, rfl, rfl, rfl⟩ : 38 = r0 ∧ ⟨#[109, 117, 108, 105]⟩ = r1 ∧ true = r2 ∧ true = r3 ∧ false = r4 ∧ 1 = r5 ∧ true = r6 := (by have e := Option.some.inj h; simp only [Prod.mk.injEq] at e; exact e); exact find_38 w
  | 3, _ => obtain ⟨rfl, rfl, rfl, rfl, rfl, rfl, rfl⟩ : 39 = r0 ∧ ⟨#[100, 105, 118, 105]⟩ = r1 ∧ true = r2 ∧ true = r3 ∧ false = r4 ∧ 1 = r5 ∧ true = r6 := (by have e := Option.some.inj h; simp only [Prod.mk.injEq] at e; exact e); exact find_39 w
  | 4, _ => obtain ⟨rfl, rfl, rfl, rfl, rfl, rfl, rfl⟩ : 40 = r0 ∧ ⟨#[114, 101, 109, 105]⟩ = r1 ∧ true = r2 ∧ true = r3 ∧ false = r4 ∧ 1 = r5 ∧ true = r6 := (by have e := Option.some.inj h; simp only [Prod.mk.injEq] at e; exact e); exact find_40 w
  | 5, _ => obtain ⟨rfl, rfl, rfl, rfl, rfl, rfl, rfl⟩ : 41 = r0 ∧ ⟨#[97, 110, 100, 105]⟩ = r1 ∧ true = r2 ∧ true = r3 ∧ false = r4 ∧ 1 = r5 ∧ true = r6 := (by have e := Option.some.inj h; simp only [Prod.mk.injEq] at e; exact e); exact find_41 w
  | 6, _ => obtain ⟨rfl, rfl, rfl, rfl, rfl, rfl, rfl⟩ : 42 = r0 ∧ ⟨#[111, 114, 105]⟩ = r1 ∧ true = r2 ∧ true = r3 ∧ false = r4 ∧ 1 = r5 ∧ true = r6 := (by have e := Option.some.inj h; simp only [Prod.mk.injEq] at e; exact e); exact find_42 w
  | 7, _ => obtain ⟨rfl, rfl, rfl, rfl, rfl, rfl, rfl⟩ : 43 = r0 ∧ ⟨#[120, 111, 114, 105]⟩ = r1 ∧ true = r2 ∧ true = r3 ∧ false = r4 ∧ 1 = r5 ∧ true = r6 := (by have e := Option.some.inj h; simp only [Prod.mk.injEq] at e; exact e); exact find_43 w
  | 8, _ => obtain ⟨rfl, rfl, rfl, rfl, rfl, rfl, rfl⟩ : 44 = r0 ∧ ⟨#[115, 104, 108, 105]⟩ = r1 ∧ true = r2 ∧ true = r3 ∧ false = r4 ∧ 1 = r5 ∧ true = r6 := (by have e := Option.some.inj h; simp only [Prod.mk.injEq] at e; exact e); exact find_44 w
  | 9, _ => obtain ⟨rfl, rfl, rfl, rfl, rfl, rfl, rfl⟩ : 45 = r0 ∧ ⟨#[115, 104, 114, 105]⟩ = r1 ∧ true = r2 ∧ true = r3 ∧ false = r4 ∧ 1 = r5 ∧ true = r6 := (by have e := Option.some.inj h; simp only [Prod.mk.injEq] at e; exact e); exact find_45 w
  | 10, _ => obtain ⟨rfl, rfl, rfl, rfl, rfl, rfl, rfl⟩ : 46 = r0 ∧ ⟨#[101, 113, 105]⟩ = r1 ∧ true = r2 ∧ true = r3 ∧ false = r4 ∧ 1 = r5 ∧ true = r6 := (by have e := Option.some.inj h; simp only [Prod.mk.injEq] at e; exact e); exact find_46 w
  | 11, _ => obtain ⟨rfl, rfl, rfl, rfl, rfl, rfl, rfl⟩ : 47 = r0 ∧ ⟨#[110, 101, 105]⟩ = r1 ∧ true = r2 ∧ true = r3 ∧ false = r4 ∧ 1 = r5 ∧ true = r6 := (by have e := Option.some.inj h; simp only [Prod.mk.injEq] at e; exact e); exact find_47 w
  | 12, _ => obtain ⟨rfl, rfl, rfl, rfl, rfl, rfl, rfl⟩ : 48 = r0 ∧ ⟨#[108, 116, 105]⟩ = r1 ∧ true = r2 ∧ true = r3 ∧ false = r4 ∧ 1 = r5 ∧ true = r6 := (by have e := Option.some.inj h; simp only [Prod.mk.injEq] at e; exact e); exact find_48 w
  | 13, _ => obtain ⟨rfl, rfl, rfl, rfl, rfl, rfl, rfl⟩ : 49 = r0 ∧ ⟨#[108, 101, 105]⟩ = r1 ∧ true = r2 ∧ true = r3 ∧ false = r4 ∧ 1 = r5 ∧ true = r6 := (by have e := Option.some.inj h; simp only [Prod.mk.injEq] at e; exact e); exact find_49 w
 by_cases h3 : 1 ≤ a0 ∧ a0 ≤ 14
 ·obtain ⟨k, hk, rfl⟩ : ∃ k : Nat, k < 14 ∧ a0 = (k : Int) + 1 := ⟨(a0 - 1).toNat, by omega, by omega⟩
  match k, hk with
  | 0, _ => obtain ⟨rfl, rfl, rfl, rfl, rfl, rfl, rfl⟩ : 1 = r0 ∧ ⟨#[109, 111, 118, 101]⟩ = r1 ∧ true = r2 ∧ true = r3 ∧ false = r4 ∧ 0 = r5 ∧ true = r6 := (by have e := Option.some.inj h; simp only [Prod.mk.injEq] at e; exact e); exact find_1 w
  | 1, _ => obtain ⟨rfl, rfl, rfl, rfl, rfl, rfl, rfl⟩ : 2 = r0 ∧ ⟨#[115, 101, 116]⟩ = r1 ∧ true = r2 ∧ false = r3 ∧ false = r4 ∧ 1 = r5 ∧ true = r6 := (by have e := Option.some.inj h; simp only [Prod.mk.injEq] at e; exact e); exact find_2 w
  | 2, _ => obtain ⟨rfl, rfl, rfl, rfl, rfl, rfl, rfl⟩ : 3 = r0 ∧ ⟨#[119, 105, 100, 101]⟩ = r1 ∧ true = r2 ∧ false = r3 ∧ false = r4 ∧ 2 = r5 ∧ true = r6 := (by have e := Option.some.inj h; simp only [Prod.mk.injEq] at e; exact e); exact find_3 w
  | 3, _ => obtain ⟨rfl, rfl, rfl, rfl, rfl, rfl, rfl⟩ : 4 = r0 ∧ ⟨#[108, 111, 97, 100]⟩ = r1 ∧ true = r2 ∧ true = r3 ∧ false = r4 ∧ 1 = r5 ∧ true = r6 := (by have e := Option.some.inj h; simp only [Prod.mk.injEq] at e; exact e); exact find_4 w
  | 4, _ => obtain ⟨rfl, rfl, rfl, rfl, rfl, rfl, rfl⟩ : 5 = r0 ∧ ⟨#[115, 116, 111, 114, 101]⟩ = r1 ∧ false = r2 ∧ true = r3 ∧ true = r4 ∧ 1 = r5 ∧ true = r6 := (by have e := Option.some.inj h; simp only [Prod.mk.injEq] at e; exact e); exact find_5 w
  | 5, _ => obtain ⟨rfl, rfl, rfl, rfl, rfl, rfl, rfl⟩ : 6 = r0 ∧ ⟨#[106, 117, 109, 112]⟩ = r1 ∧ false = r2 ∧ false = r3 ∧ false = r4 ∧ 3 = r5 ∧ true = r6 := (by have e := Option.some.inj h; simp only [Prod.mk.injEq] at e; exact e); exact find_6 w
  | 6, _ => obtain ⟨rfl, rfl, rfl, rfl, rfl, rfl, rfl⟩ : 7 = r0 ∧ ⟨#[122, 101, 114, 111]⟩ = r1 ∧ false = r2 ∧ true = r3 ∧ false = r4 ∧ 3 = r5 ∧ true = r6 := (by have e := Option.some.inj h; simp only [Prod.mk.injEq] at e; exact e); exact find_7 w
  | 7, _ => obtain ⟨rfl, rfl, rfl, rfl, rfl, rfl, rfl⟩ : 8 = r0 ∧ ⟨#[99, 104, 101, 99, 107]⟩ = r1 ∧ false = r2 ∧ true = r3 ∧ true = r4 ∧ 0 = r5 ∧ true = r6 := (by have e := Option.some.inj h; simp only [Prod.mk.injEq] at e; exact e); exact find_8 w
  | 8, _ => obtain ⟨rfl, rfl, rfl, rfl, rfl, rfl, rfl⟩ : 9 = r0 ∧ ⟨#[99, 104, 101, 99, 107, 105]⟩ = r1 ∧ false = r2 ∧ true = r3 ∧ false = r4 ∧ 1 = r5 ∧ true = r6 := (by have e := Option.some.inj h; simp only [Prod.mk.injEq] at e; exact e); exact find_9 w
  | 9, _ => obtain ⟨rfl, rfl, rfl, rfl, rfl, rfl, rfl⟩ : 10 = r0 ∧ ⟨#[112, 114, 105, 110, 116]⟩ = r1 ∧ false = r2 ∧ true = r3 ∧ false = r4 ∧ 0 = r5 ∧ true = r6 := (by have e := Option.some.inj h; simp only [Prod.mk.injEq] at e; exact e); exact find_10 w
  | 10, _ => obtain ⟨rfl, rfl, rfl, rfl, rfl, rfl, rfl⟩ : 11 = r0 ∧ ⟨#[99, 97, 108, 108]⟩ = r1 ∧ false = r2 ∧ false = r3 ∧ false = r4 ∧ 3 = r5 ∧ true = r6 := (by have e := Option.some.inj h; simp only [Prod.mk.injEq] at e; exact e); exact find_11 w
  | 11, _ => obtain ⟨rfl, rfl, rfl, rfl, rfl, rfl, rfl⟩ : 12 = r0 ∧ ⟨#[114, 101, 116, 117, 114, 110]⟩ = r1 ∧ false = r2 ∧ false = r3 ∧ false = r4 ∧ 0 = r5 ∧ true = r6 := (by have e := Option.some.inj h; simp only [Prod.mk.injEq] at e; exact e); exact find_12 w
  | 12, _ => obtain ⟨rfl, rfl, rfl, rfl, rfl, rfl, rfl⟩ : 13 = r0 ∧ ⟨#[116, 114, 97, 112]⟩ = r1 ∧ false = r2 ∧ false = r3 ∧ false = r4 ∧ 0 = r5 ∧ true = r6 := (by have e := Option.some.inj h; simp only [Prod.mk.injEq] at e; exact e); exact find_13 w
  | 13, _ => obtain ⟨rfl, rfl, rfl, rfl, rfl, rfl, rfl⟩ : 14 = r0 ∧ ⟨#[104, 97, 108, 116]⟩ = r1 ∧ false = r2 ∧ false = r3 ∧ false = r4 ∧ 0 = r5 ∧ true = r6 := (by have e := Option.some.inj h; simp only [Prod.mk.injEq] at e; exact e); exact find_14 w
 have hn := find_none a0 h1 h2 h3 w
 have hf : cupelref20_find.f a0 = some (0, ByteArray.empty, false, false, false, 0, false) := by
  simp only [cupelref20_find.f, h1, h2, if_false]
  have : simpleRows.find? (fun r => r.1 == a0) = none := by
   simp [simpleRows]; omega
  rw [this]
 rw [hf] at h
 simp only [Option.some.injEq, Prod.mk.injEq] at h
 obtain ⟨rfl, rfl, rfl, rfl, rfl, rfl, rfl⟩ := h
 exact hn
end Go.Proofs.YtlaijeeeblcinaaDoor.A
