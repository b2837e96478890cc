/- Written by wip/tools/xprint.py, a program of this session that drives the kit's printer. Not trusted: Lean checks it. -/
import Derived.Test.YtekhnkpjeofdpaaDoorAx0
import Derived.Test.YtekhnkpjeofdpaaDoorAx7
import Derived.Test.YtekhnkpjeofdpaaDoorAx8
import Derived.Test.YtekhnkpjeofdpaaDoorAx9
namespace Go.Proofs.YtekhnkpjeofdpaaDoor.A
open Go.RowKit Go.Proofs.YtekhnkpjeofdpaaDoorW.PrintWords Go.Proofs.YtekhnkpjeofdpaaDoorW.PrintLast Go.Proofs.YtekhnkpjeofdpaaDoorW.PrintMore
attribute [local go_sem] max2_int min2_int max_two min_two max_three min_three max_four min_four   -- for this text's walks alone
set_option linter.unusedVariables false
set_option linter.unusedSimpArgs false
/-! ### cupelref20_reader_instr: function 73 -/
mutual
def cupelref20_reader_instr.j0 : Nat → Bool → ByteArray → Int → Int → Int → ByteArray → Int → Bool → Int → Int → ByteArray → Bool → Bool → Bool → Int → Int → Int → Int → Int → Int → Option (Int × Int × Int × Int × Int × ByteArray × Int × Int × Int × ByteArray × Int × Bool × Int)
 | 0, _, _, _, _, _, _, _, _, _, _, _, _, _, _, _, _, _, _, _, _ => none
 | k + 1, x6, x1000, x1001, x1002, x1003, x1004, x1005, x1006, x1007, x296000, x296001, x296002, x296003, x296004, x296005, x298000, x298001, x298002, x298003, x298004 => if x296003 = true then ((cupelref20_reader_comma.f k x1000 x1001 x1002 x1003 x1004 x1005 x1006 x1007 x6).bind fun bt383 => ((cupelref20_reader_register.f k bt383.1 bt383.2.1 bt383.2.2.1 bt383.2.2.2.1 bt383.2.2.2.2.1 bt383.2.2.2.2.2.1 bt383.2.2.2.2.2.2.1 bt383.2.2.2.2.2.2.2).bind fun bt391 => (cupelref20_reader_instr.j1 k true bt391.2.1 bt391.2.2.1 bt391.2.2.2.1 bt391.2.2.2.2.1 bt391.2.2.2.2.2.1 bt391.2.2.2.2.2.2.1 bt391.2.2.2.2.2.2.2.1 bt391.2.2.2.2.2.2.2.2 x296000 x296001 x296002 x296003 x296004 x296005 x298000 x298001 bt391.1 x298003 x298004))) else (cupelref20_reader_instr.j1 k x6 x1000 x1001 x1002 x1003 x1004 x1005 x1006 x1007 x296000 x296001 x296002 x296003 x296004 x296005 x298000 x298001 x298002 x298003 x298004)
def cupelref20_reader_instr.j1 : Nat → Bool → ByteArray → Int → Int → Int → ByteArray → Int → Bool → Int → Int → ByteArray → Bool → Bool → Bool → Int → Int → Int → Int → Int → Int → Option (Int × Int × Int × Int × Int × ByteArray × Int × Int × Int × ByteArray × Int × Bool × Int)
 | 0, _, _, _, _, _, _, _, _, _, _, _, _, _, _, _, _, _, _, _, _ => none
 | k + 1, x6, x1000, x1001, x1002, x1003, x1004, x1005, x1006, x1007, x296000, x296001, x296002, x296003, x296004, x296005, x298000, x298001, x298002, x298003, x298004 => if x296004 = true then ((cupelref20_reader_comma.f k x1000 x1001 x1002 x1003 x1004 x1005 x1006 x1007 x6).bind fun bt400 => ((cupelref20_reader_register.f k bt400.1 bt400.2.1 bt400.2.2.1 bt400.2.2.2.1 bt400.2.2.2.2.1 bt400.2.2.2.2.2.1 bt400.2.2.2.2.2.2.1 bt400.2.2.2.2.2.2.2).bind fun bt408 => (cupelref20_reader_instr.j2 k true bt408.2.1 bt408.2.2.1 bt408.2.2.2.1 bt408.2.2.2.2.1 bt408.2.2.2.2.2.1 bt408.2.2.2.2.2.2.1 bt408.2.2.2.2.2.2.2.1 bt408.2.2.2.2.2.2.2.2 x296000 x296001 x296002 x296003 x296004 x296005 x298000 x298001 x298002 bt408.1 x298004))) else (cupelref20_reader_instr.j2 k x6 x1000 x1001 x1002 x1003 x1004 x1005 x1006 x1007 x296000 x296001 x296002 x296003 x296004 x296005 x298000 x298001 x298002 x298003 x298004)
def cupelref20_reader_instr.j2 : Nat → Bool → ByteArray → Int → Int → Int → ByteArray → Int → Bool → Int → Int → ByteArray → Bool → Bool → Bool → Int → Int → Int → Int → Int → Int → Option (Int × Int × Int × Int × Int × ByteArray × Int × Int × Int × ByteArray × Int × Bool × Int)
 | 0, _, _, _, _, _, _, _, _, _, _, _, _, _, _, _, _, _, _, _, _ => none
 | k + 1, x6, x1000, x1001, x1002, x1003, x1004, x1005, x1006, x1007, x296000, x296001, x296002, x296003, x296004, x296005, x298000, x298001, x298002, x298003, x298004 => if x296005 = 0 then ((cupelref20_reader_want.f k x1000 x1001 x1002 x1003 x1004 x1005 x1006 x1007 (⟨#[59]⟩ : ByteArray)).bind fun bt417 => (some (x298000, x298001, x298002, x298003, x298004, bt417.1, bt417.2.1, bt417.2.2.1, bt417.2.2.2.1, bt417.2.2.2.2.1, bt417.2.2.2.2.2.1, bt417.2.2.2.2.2.2.1, bt417.2.2.2.2.2.2.2))) else ((cupelref20_reader_comma.f k x1000 x1001 x1002 x1003 x1004 x1005 x1006 x1007 x6).bind fun bt425 => ((cupelref20_reader_number.f k bt425.1 bt425.2.1 bt425.2.2.1 bt425.2.2.2.1 bt425.2.2.2.2.1 bt425.2.2.2.2.2.1 bt425.2.2.2.2.2.2.1 bt425.2.2.2.2.2.2.2 x296005).bind fun bt433 => ((cupelref20_reader_want.f k bt433.2.1 bt433.2.2.1 bt433.2.2.2.1 bt433.2.2.2.2.1 bt433.2.2.2.2.2.1 bt433.2.2.2.2.2.2.1 bt433.2.2.2.2.2.2.2.1 bt433.2.2.2.2.2.2.2.2 (⟨#[59]⟩ : ByteArray)).bind fun bt442 => (some (x298000, x298001, x298002, x298003, bt433.1, bt442.1, bt442.2.1, bt442.2.2.1, bt442.2.2.2.1, bt442.2.2.2.2.1, bt442.2.2.2.2.2.1, bt442.2.2.2.2.2.2.1, bt442.2.2.2.2.2.2.2)))))
end
def cupelref20_reader_instr.f (k : Nat) (s0_0 : ByteArray) (s0_1 : Int) (s0_2 : Int) (s0_3 : Int) (s0_4 : ByteArray) (s0_5 : Int) (s0_6 : Bool) (s0_7 : Int) (a1_0 : Int) (a1_1 : ByteArray) (a1_2 : Bool) (a1_3 : Bool) (a1_4 : Bool) (a1_5 : Int) : Option (Int × Int × Int × Int × Int × ByteArray × Int × Int × Int × ByteArray × Int × Bool × Int) := if a1_0 = 4 then ((cupelref20_reader_register.f k s0_0 s0_1 s0_2 s0_3 s0_4 s0_5 s0_6 s0_7).bind fun bt298 => ((cupelref20_reader_want.f k bt298.2.1 bt298.2.2.1 bt298.2.2.2.1 bt298.2.2.2.2.1 bt298.2.2.2.2.2.1 bt298.2.2.2.2.2.2.1 bt298.2.2.2.2.2.2.2.1 bt298.2.2.2.2.2.2.2.2 (⟨#[44]⟩ : ByteArray)).bind fun bt307 => ((cupelref20_reader_place.f k bt307.1 bt307.2.1 bt307.2.2.1 bt307.2.2.2.1 bt307.2.2.2.2.1 bt307.2.2.2.2.2.1 bt307.2.2.2.2.2.2.1 bt307.2.2.2.2.2.2.2 a1_0 bt298.1 0 0 0).bind fun bt315 => ((cupelref20_reader_want.f k bt315.2.2.2.2.2.1 bt315.2.2.2.2.2.2.1 bt315.2.2.2.2.2.2.2.1 bt315.2.2.2.2.2.2.2.2.1 bt315.2.2.2.2.2.2.2.2.2.1 bt315.2.2.2.2.2.2.2.2.2.2.1 bt315.2.2.2.2.2.2.2.2.2.2.2.1 bt315.2.2.2.2.2.2.2.2.2.2.2.2 (⟨#[59]⟩ : ByteArray)).bind fun bt328 => (some (bt315.1, bt315.2.1, bt315.2.2.1, bt315.2.2.2.1, bt315.2.2.2.2.1, bt328.1, bt328.2.1, bt328.2.2.1, bt328.2.2.2.1, bt328.2.2.2.2.1, bt328.2.2.2.2.2.1, bt328.2.2.2.2.2.2.1, bt328.2.2.2.2.2.2.2)))))) else (if a1_0 = 5 then ((cupelref20_reader_place.f k s0_0 s0_1 s0_2 s0_3 s0_4 s0_5 s0_6 s0_7 a1_0 0 0 0 0).bind fun bt336 => ((cupelref20_reader_want.f k bt336.2.2.2.2.2.1 bt336.2.2.2.2.2.2.1 bt336.2.2.2.2.2.2.2.1 bt336.2.2.2.2.2.2.2.2.1 bt336.2.2.2.2.2.2.2.2.2.1 bt336.2.2.2.2.2.2.2.2.2.2.1 bt336.2.2.2.2.2.2.2.2.2.2.2.1 bt336.2.2.2.2.2.2.2.2.2.2.2.2 (⟨#[44]⟩ : ByteArray)).bind fun bt349 => ((cupelref20_reader_register.f k bt349.1 bt349.2.1 bt349.2.2.1 bt349.2.2.2.1 bt349.2.2.2.2.1 bt349.2.2.2.2.2.1 bt349.2.2.2.2.2.2.1 bt349.2.2.2.2.2.2.2).bind fun bt357 => ((cupelref20_reader_want.f k bt357.2.1 bt357.2.2.1 bt357.2.2.2.1 bt357.2.2.2.2.1 bt357.2.2.2.2.2.1 bt357.2.2.2.2.2.2.1 bt357.2.2.2.2.2.2.2.1 bt357.2.2.2.2.2.2.2.2 (⟨#[59]⟩ : ByteArray)).bind fun bt366 => (some (bt336.1, bt336.2.1, bt336.2.2.1, bt357.1, bt336.2.2.2.2.1, bt366.1, bt366.2.1, bt366.2.2.1, bt366.2.2.2.1, bt366.2.2.2.2.1, bt366.2.2.2.2.2.1, bt366.2.2.2.2.2.2.1, bt366.2.2.2.2.2.2.2)))))) else (if a1_2 = true then ((cupelref20_reader_register.f k s0_0 s0_1 s0_2 s0_3 s0_4 s0_5 s0_6 s0_7).bind fun bt374 => (cupelref20_reader_instr.j0 k true bt374.2.1 bt374.2.2.1 bt374.2.2.2.1 bt374.2.2.2.2.1 bt374.2.2.2.2.2.1 bt374.2.2.2.2.2.2.1 bt374.2.2.2.2.2.2.2.1 bt374.2.2.2.2.2.2.2.2 a1_0 a1_1 a1_2 a1_3 a1_4 a1_5 a1_0 bt374.1 0 0 0)) else (cupelref20_reader_instr.j0 k false s0_0 s0_1 s0_2 s0_3 s0_4 s0_5 s0_6 s0_7 a1_0 a1_1 a1_2 a1_3 a1_4 a1_5 a1_0 0 0 0 0)))
set_option maxHeartbeats 8000000 in
set_option maxRecDepth 100000 in
theorem cupelref20_reader_instr.calls (k : Nat) (g : Nat) (s0_0 : ByteArray) (s0_1 : Int) (s0_2 : Int) (s0_3 : Int) (s0_4 : ByteArray) (s0_5 : Int) (s0_6 : Bool) (s0_7 : Int) (a1_0 : Int) (a1_1 : ByteArray) (a1_2 : Bool) (a1_3 : Bool) (a1_4 : Bool) (a1_5 : Int) (r1 : Int) (r2 : Int) (r3 : Int) (r4 : Int) (r5 : Int) (r6 : ByteArray) (r7 : Int) (r8 : Int) (r9 : Int) (r10 : ByteArray) (r11 : Int) (r12 : Bool) (r13 : Int) (w0 w : World) (hI : IsS105 w0 w g s0_0 s0_1 s0_2 s0_3 s0_4 s0_5 s0_6 s0_7) (hB : Below w0.heap.size w0 w) (h : cupelref20_reader_instr.f k s0_0 s0_1 s0_2 s0_3 s0_4 s0_5 s0_6 s0_7 a1_0 a1_1 a1_2 a1_3 a1_4 a1_5 = some (r1, r2, r3, r4, r5, r6, r7, r8, r9, r10, r11, r12, r13)) :
  Calls Tryd.prog 73 #[.pointer (some ⟨g, 0, none⟩), .agg #[.int .i64 a1_0, .string a1_1, .bool a1_2, .bool a1_3, .bool a1_4, .int .i64 a1_5]] w fun e w' => e = .returned (.agg #[.int .i64 r1, .int .i64 r2, .int .i64 r3, .int .i64 r4, .int .i64 r5]) ∧ IsS105 w0 w' g r6 r7 r8 r9 r10 r11 r12 r13 ∧ Below w0.heap.size w0 w' ∧ KeepBut w w' g none := by
 have hu96 := Tryd.underlying96
 have hu67 := Tryd.underlying67
 have HI0 := Aside0.mk hI
 have HK := Aside0.mk (KeepBut.refl w g none)
 have HL := Aside0.mk hB.size
 clear hI
 have HW0 := Aside0.mk hB.size
 have HB := Aside0.mk hB
 clear hB
 have H : (if a1_0 = 4 then ((cupelref20_reader_register.f k s0_0 s0_1 s0_2 s0_3 s0_4 s0_5 s0_6 s0_7).bind fun bt298 => ((cupelref20_reader_want.f k bt298.2.1 bt298.2.2.1 bt298.2.2.2.1 bt298.2.2.2.2.1 bt298.2.2.2.2.2.1 bt298.2.2.2.2.2.2.1 bt298.2.2.2.2.2.2.2.1 bt298.2.2.2.2.2.2.2.2 (⟨#[44]⟩ : ByteArray)).bind fun bt307 => ((cupelref20_reader_place.f k bt307.1 bt307.2.1 bt307.2.2.1 bt307.2.2.2.1 bt307.2.2.2.2.1 bt307.2.2.2.2.2.1 bt307.2.2.2.2.2.2.1 bt307.2.2.2.2.2.2.2 a1_0 bt298.1 0 0 0).bind fun bt315 => ((cupelref20_reader_want.f k bt315.2.2.2.2.2.1 bt315.2.2.2.2.2.2.1 bt315.2.2.2.2.2.2.2.1 bt315.2.2.2.2.2.2.2.2.1 bt315.2.2.2.2.2.2.2.2.2.1 bt315.2.2.2.2.2.2.2.2.2.2.1 bt315.2.2.2.2.2.2.2.2.2.2.2.1 bt315.2.2.2.2.2.2.2.2.2.2.2.2 (⟨#[59]⟩ : ByteArray)).bind fun bt328 => (some (bt315.1, bt315.2.1, bt315.2.2.1, bt315.2.2.2.1, bt315.2.2.2.2.1, bt328.1, bt328.2.1, bt328.2.2.1, bt328.2.2.2.1, bt328.2.2.2.2.1, bt328.2.2.2.2.2.1, bt328.2.2.2.2.2.2.1, bt328.2.2.2.2.2.2.2)))))) else (if a1_0 = 5 then ((cupelref20_reader_place.f k s0_0 s0_1 s0_2 s0_3 s0_4 s0_5 s0_6 s0_7 a1_0 0 0 0 0).bind fun bt336 => ((cupelref20_reader_want.f k bt336.2.2.2.2.2.1 bt336.2.2.2.2.2.2.1 bt336.2.2.2.2.2.2.2.1 bt336.2.2.2.2.2.2.2.2.1 bt336.2.2.2.2.2.2.2.2.2.1 bt336.2.2.2.2.2.2.2.2.2.2.1 bt336.2.2.2.2.2.2.2.2.2.2.2.1 bt336.2.2.2.2.2.2.2.2.2.2.2.2 (⟨#[44]⟩ : ByteArray)).bind fun bt349 => ((cupelref20_reader_register.f k bt349.1 bt349.2.1 bt349.2.2.1 bt349.2.2.2.1 bt349.2.2.2.2.1 bt349.2.2.2.2.2.1 bt349.2.2.2.2.2.2.1 bt349.2.2.2.2.2.2.2).bind fun bt357 => ((cupelref20_reader_want.f k bt357.2.1 bt357.2.2.1 bt357.2.2.2.1 bt357.2.2.2.2.1 bt357.2.2.2.2.2.1 bt357.2.2.2.2.2.2.1 bt357.2.2.2.2.2.2.2.1 bt357.2.2.2.2.2.2.2.2 (⟨#[59]⟩ : ByteArray)).bind fun bt366 => (some (bt336.1, bt336.2.1, bt336.2.2.1, bt357.1, bt336.2.2.2.2.1, bt366.1, bt366.2.1, bt366.2.2.1, bt366.2.2.2.1, bt366.2.2.2.2.1, bt366.2.2.2.2.2.1, bt366.2.2.2.2.2.2.1, bt366.2.2.2.2.2.2.2)))))) else (if a1_2 = true then ((cupelref20_reader_register.f k s0_0 s0_1 s0_2 s0_3 s0_4 s0_5 s0_6 s0_7).bind fun bt374 => (cupelref20_reader_instr.j0 k true bt374.2.1 bt374.2.2.1 bt374.2.2.2.1 bt374.2.2.2.2.1 bt374.2.2.2.2.2.1 bt374.2.2.2.2.2.2.1 bt374.2.2.2.2.2.2.2.1 bt374.2.2.2.2.2.2.2.2 a1_0 a1_1 a1_2 a1_3 a1_4 a1_5 a1_0 bt374.1 0 0 0)) else (cupelref20_reader_instr.j0 k false s0_0 s0_1 s0_2 s0_3 s0_4 s0_5 s0_6 s0_7 a1_0 a1_1 a1_2 a1_3 a1_4 a1_5 a1_0 0 0 0 0)))) = some (r1, r2, r3, r4, r5, r6, r7, r8, r9, r10, r11, r12, r13) := h
 clear h
 by_cases c3 : a1_0 = 4
 ·rw [if_pos c3] at H
  have c3b0 : (a1_0 == 4) = true := beq_iff_eq.mpr c3
  have c3b1 : (a1_0 != 4) = false := bne_eq_false_iff_eq.mpr c3
  clear c3
  replace H := Option.bind_eq_some_iff.mp H
  obtain ⟨⟨t298, t299, t300, t301, t302, t303, t304, t305, t306⟩, A40, H⟩ := H
  try dsimp only at H
  have A4 := Aside0.mk A40
  clear A40
  replace H := Option.bind_eq_some_iff.mp H
  obtain ⟨⟨t307, t308, t309, t310, t311, t312, t313, t314⟩, A50, H⟩ := H
  try dsimp only at H
  have A5 := Aside0.mk A50
  clear A50
  replace H := Option.bind_eq_some_iff.mp H
  obtain ⟨⟨t315, t316, t317, t318, t319, t320, t321, t322, t323, t324, t325, t326, t327⟩, A60, H⟩ := H
  try dsimp only at H
  have A6 := Aside0.mk A60
  clear A60
  replace H := Option.bind_eq_some_iff.mp H
  obtain ⟨⟨t328, t329, t330, t331, t332, t333, t334, t335⟩, A70, H⟩ := H
  try dsimp only at H
  have A7 := Aside0.mk A70
  clear A70
  simp only [Option.some.injEq, Prod.mk.injEq] at H
  obtain ⟨rfl, rfl, rfl, rfl, rfl, rfl, rfl, rfl, rfl, rfl, rfl, rfl, rfl⟩ := H
  go_enter Tryd.func73, Tryd.ntmps73
  go_wp2_with (first | ((with_reducible refine gate_dst (N := 3) rfl ?_); refine box_event ?hg (N := 3) ?hd (cs := #[.int .i64 a1_0, .string a1_1, .bool a1_2, .bool a1_3, .bool a1_4, .int .i64 a1_5]) (t := 96) ?hr ?_; (case hd => rfl); (case hg => rfl); (case hr => exact ts40_); intro gb295 hg w8 hbox hb; have n0_ := Aside0.mk (IsS105.below (ts55_ HI0.out) hb); have n1_ := Aside0.mk (KeepBut.trans (ts51_ HK.out) (KeepBut.of_below hb g none) (.inl rfl)); have n2_ := Aside0.mk (below_step (ts5_ HB.out HI0.out) hb); have n3_ := Aside0.mk (hbox); have n4_ := Aside0.mk ((ts64_ HK.out : w.heap.size ≤ gb295)); have n5_ := Aside0.mk ((Nat.le_trans HW0.out (ts64_ HK.out : w.heap.size ≤ gb295) : w0.heap.size ≤ gb295)); have n6_ := Aside0.mk ((ts27_ HI0.out : g ≠ gb295)); have n7_ := Aside0.mk ((ts26_ HI0.out : gb295 ≠ g)); clear HI0; clear HK; clear HB; have HI0 := n0_; have HK := n1_; have HB := n2_; have BK295 := n3_; have GW295 := n4_; have GE295 := n5_; have NB0_295 := n6_; have NB295_0 := n7_; clear n0_ n1_ n2_ n3_ n4_ n5_ n6_ n7_; clear hb hbox hg) | ((with_reducible refine gate_dst (N := 4) rfl ?_); refine box_event ?hg (N := 4) ?hd (cs := #[.int .i64 0, .int .i64 0, .int .i64 0, .int .i64 0, .int .i64 0]) (t := 67) ?hr ?_; (case hd => rfl); (case hg => rfl); (case hr => exact ts40_); intro gb296 hg w9 hbox hb; have n0_ := Aside0.mk (IsS105.below (ts22_ HI0.out NB0_295.out) hb); have n1_ := Aside0.mk (blk_below (g := gb295) (o := .cells #[.int .i64 a1_0, .string a1_1, .bool a1_2, .bool a1_3, .bool a1_4, .int .i64 a1_5] 96 (0, 0)) (ts29_ BK295.out) hb); have n2_ := Aside0.mk (KeepBut.trans (ts14_ HK.out GW295.out) (KeepBut.of_below hb g none) (.inl rfl)); have n3_ := Aside0.mk (below_step (ts37_ HB.out HI0.out GE295.out) hb); have n4_ := Aside0.mk (hbox); have n5_ := Aside0.mk ((ts74_ HK.out GW295.out : w.heap.size ≤ gb296)); have n6_ := Aside0.mk ((Nat.le_trans HW0.out (ts74_ HK.out GW295.out : w.heap.size ≤ gb296) : w0.heap.size ≤ gb296)); have n7_ := Aside0.mk ((ts73_ BK295.out : gb295 ≠ gb296)); have n8_ := Aside0.mk ((ts65_ BK295.out : gb296 ≠ gb295)); have n9_ := Aside0.mk ((ts45_ HI0.out NB0_295.out : g ≠ gb296)); have n10_ := Aside0.mk ((ts39_ HI0.out NB0_295.out : gb296 ≠ g)); clear HI0; clear BK295; clear HK; clear HB; have HI0 := n0_; have BK295 := n1_; have HK := n2_; have HB := n3_; have BK296 := n4_; have GW296 := n5_; have GE296 := n6_; have NB295_296 := n7_; have NB296_295 := n8_; have NB0_296 := n9_; have NB296_0 := n10_; clear n0_ n1_ n2_ n3_ n4_ n5_ n6_ n7_ n8_ n9_ n10_; clear hb hbox hg; have hnb10 := NB295_296.out; have hnc10 := NB296_295.out; have hnb11 := NB295_0.out; have hnc11 := NB0_295.out; have hcz12_0 : w9.cell? ⟨gb295, 0, none⟩ = some (.int .i64 a1_0) := (blk_cell BK295.out 0).trans rfl; have hcz12_1 : w9.cell? ⟨gb295, 1, none⟩ = some (.string a1_1) := (blk_cell BK295.out 1).trans rfl; have hcz12_2 : w9.cell? ⟨gb295, 2, none⟩ = some (.bool a1_2) := (blk_cell BK295.out 2).trans rfl; have hcz12_3 : w9.cell? ⟨gb295, 3, none⟩ = some (.bool a1_3) := (blk_cell BK295.out 3).trans rfl; have hcz12_4 : w9.cell? ⟨gb295, 4, none⟩ = some (.bool a1_4) := (blk_cell BK295.out 4).trans rfl; have hcz12_5 : w9.cell? ⟨gb295, 5, none⟩ = some (.int .i64 a1_5) := (blk_cell BK295.out 5).trans rfl; have hfz12_0 := blk_frozen BK295.out 0; have hfz12_1 := blk_frozen BK295.out 1; have hfz12_2 := blk_frozen BK295.out 2; have hfz12_3 := blk_frozen BK295.out 3; have hfz12_4 := blk_frozen BK295.out 4; have hfz12_5 := blk_frozen BK295.out 5) | ((with_reducible refine gate_dst (N := 5) rfl ?_); refine box_event ?hg (N := 5) ?hd (cs := #[.int .i64 0, .int .i64 0, .int .i64 0, .int .i64 0, .int .i64 0]) (t := 67) ?hr ?_; (case hd => rfl); (case hg => rfl); (case hr => exact ts40_); intro gb297 hg w13 hbox hb; have n0_ := Aside0.mk (IsS105.below (ts42_ HI0.out NB0_295.out NB0_296.out) hb); have n1_ := Aside0.mk (blk_below (g := gb295) (o := .cells #[.int .i64 a1_0, .string a1_1, .bool a1_2, .bool a1_3, .bool a1_4, .int .i64 a1_5] 96 (0, 0)) (ts29_ BK295.out) hb); have n2_ := Aside0.mk (blk_below (g := gb296) (o := .cells #[.int .i64 0, .int .i64 0, .int .i64 0, .int .i64 0, .int .i64 0] 67 (0, 0)) (ts29_ BK296.out) hb); have n3_ := Aside0.mk (KeepBut.trans (ts44_ HK.out GW295.out GW296.out) (KeepBut.of_below hb g none) (.inl rfl)); have n4_ := Aside0.mk (below_step (ts31_ HB.out HI0.out GE295.out GE296.out) hb); have n5_ := Aside0.mk (hbox); have n6_ := Aside0.mk ((ts71_ HK.out GW295.out GW296.out : w.heap.size ≤ gb297)); have n7_ := Aside0.mk ((Nat.le_trans HW0.out (ts71_ HK.out GW295.out GW296.out : w.heap.size ≤ gb297) : w0.heap.size ≤ gb297)); have n8_ := Aside0.mk ((ts73_ BK295.out : gb295 ≠ gb297)); have n9_ := Aside0.mk ((ts65_ BK295.out : gb297 ≠ gb295)); have n10_ := Aside0.mk ((ts60_ BK296.out : gb296 ≠ gb297)); have n11_ := Aside0.mk ((ts70_ BK296.out : gb297 ≠ gb296)); have n12_ := Aside0.mk ((ts32_ HI0.out NB0_295.out NB0_296.out : g ≠ gb297)); have n13_ := Aside0.mk ((ts10_ HI0.out NB0_295.out NB0_296.out : gb297 ≠ g)); clear HI0; clear BK295; clear BK296; clear HK; clear HB; have HI0 := n0_; have BK295 := n1_; have BK296 := n2_; have HK := n3_; have HB := n4_; have BK297 := n5_; have GW297 := n6_; have GE297 := n7_; have NB295_297 := n8_; have NB297_295 := n9_; have NB296_297 := n10_; have NB297_296 := n11_; have NB0_297 := n12_; have NB297_0 := n13_; clear n0_ n1_ n2_ n3_ n4_ n5_ n6_ n7_ n8_ n9_ n10_ n11_ n12_ n13_; clear hb hbox hg; have hnb14 := NB297_295.out; have hnc14 := NB295_297.out; have hnb15 := NB297_296.out; have hnc15 := NB296_297.out; have hnb16 := NB297_0.out; have hnc16 := NB0_297.out; have hcz17_0 : w13.cell? ⟨gb297, 0, none⟩ = some (.int .i64 0) := (blk_cell BK297.out 0).trans rfl; have hcz17_1 : w13.cell? ⟨gb297, 1, none⟩ = some (.int .i64 0) := (blk_cell BK297.out 1).trans rfl; have hcz17_2 : w13.cell? ⟨gb297, 2, none⟩ = some (.int .i64 0) := (blk_cell BK297.out 2).trans rfl; have hcz17_3 : w13.cell? ⟨gb297, 3, none⟩ = some (.int .i64 0) := (blk_cell BK297.out 3).trans rfl; have hcz17_4 : w13.cell? ⟨gb297, 4, none⟩ = some (.int .i64 0) := (blk_cell BK297.out 4).trans rfl; have hfz17_0 := blk_frozen BK297.out 0; have hfz17_1 := blk_frozen BK297.out 1; have hfz17_2 := blk_frozen BK297.out 2; have hfz17_3 := blk_frozen BK297.out 3; have hfz17_4 := blk_frozen BK297.out 4; have hcz18_0 : w13.cell? ⟨gb295, 0, none⟩ = some (.int .i64 a1_0) := (blk_cell BK295.out 0).trans rfl; have hcz18_1 : w13.cell? ⟨gb295, 1, none⟩ = some (.string a1_1) := (blk_cell BK295.out 1).trans rfl; have hcz18_2 : w13.cell? ⟨gb295, 2, none⟩ = some (.bool a1_2) := (blk_cell BK295.out 2).trans rfl; have hcz18_3 : w13.cell? ⟨gb295, 3, none⟩ = some (.bool a1_3) := (blk_cell BK295.out 3).trans rfl; have hcz18_4 : w13.cell? ⟨gb295, 4, none⟩ = some (.bool a1_4) := (blk_cell BK295.out 4).trans rfl; have hcz18_5 : w13.cell? ⟨gb295, 5, none⟩ = some (.int .i64 a1_5) := (blk_cell BK295.out 5).trans rfl; have hfz18_0 := blk_frozen BK295.out 0; have hfz18_1 := blk_frozen BK295.out 1; have hfz18_2 := blk_frozen BK295.out 2; have hfz18_3 := blk_frozen BK295.out 3; have hfz18_4 := blk_frozen BK295.out 4; have hfz18_5 := blk_frozen BK295.out 5) | ((with_reducible refine gate_callee (f := 81) rfl ?_); refine goesL_ (some 14) rfl rfl Tryd.func81 (by kernel_rfl) rfl #[.pointer (some ⟨g, 0, none⟩)] rfl ts47_ ?_; (with_reducible refine (cupelref20_reader_register.calls k g s0_0 s0_1 s0_2 s0_3 s0_4 s0_5 s0_6 s0_7 t298 t299 t300 t301 t302 t303 t304 t305 t306 w0 _ ?side1 ?side2 A4.out).mono ?_); (case side1 => exact ts6_ HI0.out NB0_295.out NB0_296.out NB0_297.out); (case side2 => exact ts28_ HB.out HI0.out GE295.out GE296.out GE297.out); rintro e w19 ⟨rfl, hi, hb, hk⟩; refine ⟨_, rfl, ?_⟩; have n0_ := Aside0.mk (KeepBut.blk hk (g' := gb295) (o := .cells #[.int .i64 a1_0, .string a1_1, .bool a1_2, .bool a1_3, .bool a1_4, .int .i64 a1_5] 96 (0, 0)) (ts43_ NB295_297.out BK295.out) NB295_0.out (by simp)); have n1_ := Aside0.mk (KeepBut.blk hk (g' := gb296) (o := .cells #[.int .i64 0, .int .i64 0, .int .i64 0, .int .i64 0, .int .i64 0] 67 (0, 0)) (ts43_ NB296_297.out BK296.out) NB296_0.out (by simp)); have n2_ := Aside0.mk (KeepBut.blk hk (g' := gb297) (o := .cells #[.int .i64 a1_0, .int .i64 0, .int .i64 0, .int .i64 0, .int .i64 0] 67 (0, 0)) (ts23_ BK297.out) NB297_0.out (by simp)); have n3_ := Aside0.mk (KeepBut.trans (ts30_ HK.out GW295.out GW296.out GW297.out) hk (.inl rfl)); have n4_ := Aside0.mk (hb); have n5_ := Aside0.mk (hi); clear BK295; clear BK296; clear BK297; clear HK; clear HB; clear HI0; have BK295 := n0_; have BK296 := n1_; have BK297 := n2_; have HK := n3_; have HB := n4_; have HI0 := n5_; clear n0_ n1_ n2_ n3_ n4_ n5_; (try clear hb); (try clear hb2); (try clear hk); (try clear hi); have hcz20_0 : w19.cell? ⟨gb297, 0, none⟩ = some (.int .i64 a1_0) := (blk_cell BK297.out 0).trans rfl; have hcz20_1 : w19.cell? ⟨gb297, 1, none⟩ = some (.int .i64 0) := (blk_cell BK297.out 1).trans rfl; have hcz20_2 : w19.cell? ⟨gb297, 2, none⟩ = some (.int .i64 0) := (blk_cell BK297.out 2).trans rfl; have hcz20_3 : w19.cell? ⟨gb297, 3, none⟩ = some (.int .i64 0) := (blk_cell BK297.out 3).trans rfl; have hcz20_4 : w19.cell? ⟨gb297, 4, none⟩ = some (.int .i64 0) := (blk_cell BK297.out 4).trans rfl; have hfz20_0 := blk_frozen BK297.out 0; have hfz20_1 := blk_frozen BK297.out 1; have hfz20_2 := blk_frozen BK297.out 2; have hfz20_3 := blk_frozen BK297.out 3; have hfz20_4 := blk_frozen BK297.out 4) | ((with_reducible refine gate_callee (f := 69) rfl ?_); refine goesL_ (some 17) rfl rfl Tryd.func69 (by kernel_rfl) rfl #[.pointer (some ⟨g, 0, none⟩), .string (⟨#[44]⟩ : ByteArray)] rfl ts47_ ?_; (with_reducible refine (cupelref20_reader_want.calls k g t299 t300 t301 t302 t303 t304 t305 t306 (⟨#[44]⟩ : ByteArray) t307 t308 t309 t310 t311 t312 t313 t314 w0 _ ?side1 ?side2 A5.out).mono ?_); (case side1 => exact ts6_ HI0.out NB0_295.out NB0_296.out NB0_297.out); (case side2 => exact ts28_ HB.out HI0.out GE295.out GE296.out GE297.out); rintro e w21 ⟨rfl, hi, hb, hk⟩; refine ⟨_, rfl, ?_⟩; have n0_ := Aside0.mk (KeepBut.blk hk (g' := gb295) (o := .cells #[.int .i64 a1_0, .string a1_1, .bool a1_2, .bool a1_3, .bool a1_4, .int .i64 a1_5] 96 (0, 0)) (ts41_ NB295_297.out BK295.out) NB295_0.out (by simp)); have n1_ := Aside0.mk (KeepBut.blk hk (g' := gb296) (o := .cells #[.int .i64 0, .int .i64 0, .int .i64 0, .int .i64 0, .int .i64 0] 67 (0, 0)) (ts41_ NB296_297.out BK296.out) NB296_0.out (by simp)); have n2_ := Aside0.mk (KeepBut.blk hk (g' := gb297) (o := .cells #[.int .i64 a1_0, .int .i64 t298, .int .i64 0, .int .i64 0, .int .i64 0] 67 (0, 0)) (ts56_ BK297.out) NB297_0.out (by simp)); have n3_ := Aside0.mk (KeepBut.trans (ts30_ HK.out GW295.out GW296.out GW297.out) hk (.inl rfl)); have n4_ := Aside0.mk (hb); have n5_ := Aside0.mk (hi); clear BK295; clear BK296; clear BK297; clear HK; clear HB; clear HI0; have BK295 := n0_; have BK296 := n1_; have BK297 := n2_; have HK := n3_; have HB := n4_; have HI0 := n5_; clear n0_ n1_ n2_ n3_ n4_ n5_; (try clear hb); (try clear hb2); (try clear hk); (try clear hi); have hcz22_0 : w21.cell? ⟨gb297, 0, none⟩ = some (.int .i64 a1_0) := (blk_cell BK297.out 0).trans rfl; have hcz22_1 : w21.cell? ⟨gb297, 1, none⟩ = some (.int .i64 t298) := (blk_cell BK297.out 1).trans rfl; have hcz22_2 : w21.cell? ⟨gb297, 2, none⟩ = some (.int .i64 0) := (blk_cell BK297.out 2).trans rfl; have hcz22_3 : w21.cell? ⟨gb297, 3, none⟩ = some (.int .i64 0) := (blk_cell BK297.out 3).trans rfl; have hcz22_4 : w21.cell? ⟨gb297, 4, none⟩ = some (.int .i64 0) := (blk_cell BK297.out 4).trans rfl; have hfz22_0 := blk_frozen BK297.out 0; have hfz22_1 := blk_frozen BK297.out 1; have hfz22_2 := blk_frozen BK297.out 2; have hfz22_3 := blk_frozen BK297.out 3; have hfz22_4 := blk_frozen BK297.out 4) | ((with_reducible refine gate_callee (f := 82) rfl ?_); refine goesL_ (some 20) rfl rfl Tryd.func82 (by kernel_rfl) rfl #[.pointer (some ⟨g, 0, none⟩), .agg #[.int .i64 a1_0, .int .i64 t298, .int .i64 0, .int .i64 0, .int .i64 0]] rfl ts47_ ?_; (with_reducible refine (cupelref20_reader_place.calls k g t307 t308 t309 t310 t311 t312 t313 t314 a1_0 t298 0 0 0 t315 t316 t317 t318 t319 t320 t321 t322 t323 t324 t325 t326 t327 w0 _ ?side1 ?side2 A6.out).mono ?_); (case side1 => exact ts6_ HI0.out NB0_295.out NB0_296.out NB0_297.out); (case side2 => exact ts28_ HB.out HI0.out GE295.out GE296.out GE297.out); rintro e w23 ⟨rfl, hi, hb, hk⟩; refine ⟨_, rfl, ?_⟩; have n0_ := Aside0.mk (KeepBut.blk hk (g' := gb295) (o := .cells #[.int .i64 a1_0, .string a1_1, .bool a1_2, .bool a1_3, .bool a1_4, .int .i64 a1_5] 96 (0, 0)) (ts29_ BK295.out) NB295_0.out (by simp)); have n1_ := Aside0.mk (KeepBut.blk hk (g' := gb296) (o := .cells #[.int .i64 0, .int .i64 0, .int .i64 0, .int .i64 0, .int .i64 0] 67 (0, 0)) (ts29_ BK296.out) NB296_0.out (by simp)); have n2_ := Aside0.mk (KeepBut.blk hk (g' := gb297) (o := .cells #[.int .i64 a1_0, .int .i64 t298, .int .i64 0, .int .i64 0, .int .i64 0] 67 (0, 0)) (ts29_ BK297.out) NB297_0.out (by simp)); have n3_ := Aside0.mk (KeepBut.trans (ts30_ HK.out GW295.out GW296.out GW297.out) hk (.inl rfl)); have n4_ := Aside0.mk (hb); have n5_ := Aside0.mk (hi); clear BK295; clear BK296; clear BK297; clear HK; clear HB; clear HI0; have BK295 := n0_; have BK296 := n1_; have BK297 := n2_; have HK := n3_; have HB := n4_; have HI0 := n5_; clear n0_ n1_ n2_ n3_ n4_ n5_; (try clear hb); (try clear hb2); (try clear hk); (try clear hi); have hcz24_0 : w23.cell? ⟨gb297, 0, none⟩ = some (.int .i64 a1_0) := (blk_cell BK297.out 0).trans rfl; have hcz24_1 : w23.cell? ⟨gb297, 1, none⟩ = some (.int .i64 t298) := (blk_cell BK297.out 1).trans rfl; have hcz24_2 : w23.cell? ⟨gb297, 2, none⟩ = some (.int .i64 0) := (blk_cell BK297.out 2).trans rfl; have hcz24_3 : w23.cell? ⟨gb297, 3, none⟩ = some (.int .i64 0) := (blk_cell BK297.out 3).trans rfl; have hcz24_4 : w23.cell? ⟨gb297, 4, none⟩ = some (.int .i64 0) := (blk_cell BK297.out 4).trans rfl; have hfz24_0 := blk_frozen BK297.out 0; have hfz24_1 := blk_frozen BK297.out 1; have hfz24_2 := blk_frozen BK297.out 2; have hfz24_3 := blk_frozen BK297.out 3; have hfz24_4 := blk_frozen BK297.out 4) | ((with_reducible refine gate_callee (f := 69) rfl ?_); refine goesL_ (some 65) rfl rfl Tryd.func69 (by kernel_rfl) rfl #[.pointer (some ⟨g, 0, none⟩), .string (⟨#[59]⟩ : ByteArray)] rfl ts47_ ?_; (with_reducible refine (cupelref20_reader_want.calls k g t320 t321 t322 t323 t324 t325 t326 t327 (⟨#[59]⟩ : ByteArray) t328 t329 t330 t331 t332 t333 t334 t335 w0 _ ?side1 ?side2 A7.out).mono ?_); (case side1 => exact ts6_ HI0.out NB0_295.out NB0_296.out NB0_297.out); (case side2 => exact ts28_ HB.out HI0.out GE295.out GE296.out GE297.out); rintro e w25 ⟨rfl, hi, hb, hk⟩; refine ⟨_, rfl, ?_⟩; have n0_ := Aside0.mk (KeepBut.blk hk (g' := gb295) (o := .cells #[.int .i64 a1_0, .string a1_1, .bool a1_2, .bool a1_3, .bool a1_4, .int .i64 a1_5] 96 (0, 0)) (ts43_ NB295_297.out BK295.out) NB295_0.out (by simp)); have n1_ := Aside0.mk (KeepBut.blk hk (g' := gb296) (o := .cells #[.int .i64 0, .int .i64 0, .int .i64 0, .int .i64 0, .int .i64 0] 67 (0, 0)) (ts43_ NB296_297.out BK296.out) NB296_0.out (by simp)); have n2_ := Aside0.mk (KeepBut.blk hk (g' := gb297) (o := .cells #[.int .i64 t315, .int .i64 t316, .int .i64 t317, .int .i64 t318, .int .i64 t319] 67 (0, 0)) (by (with_reducible repeat (first | refine blk_drewN ?_ _ | refine blk_drew ?_ | refine blk_alloc ?_ _)); refine blk_put (cs := #[.int .i64 t315, .int .i64 t316, .int .i64 t317, .int .i64 t318, .int .i64 0]) ?_ 4 _ rfl; (with_reducible repeat (first | refine blk_drewN ?_ _ | refine blk_drew ?_ | refine blk_alloc ?_ _)); refine blk_put (cs := #[.int .i64 t315, .int .i64 t316, .int .i64 t317, .int .i64 0, .int .i64 0]) ?_ 3 _ rfl; (with_reducible repeat (first | refine blk_drewN ?_ _ | refine blk_drew ?_ | refine blk_alloc ?_ _)); refine blk_put (cs := #[.int .i64 t315, .int .i64 t316, .int .i64 0, .int .i64 0, .int .i64 0]) ?_ 2 _ rfl; (with_reducible repeat (first | refine blk_drewN ?_ _ | refine blk_drew ?_ | refine blk_alloc ?_ _)); refine blk_put (cs := #[.int .i64 t315, .int .i64 t298, .int .i64 0, .int .i64 0, .int .i64 0]) ?_ 1 _ rfl; (with_reducible repeat (first | refine blk_drewN ?_ _ | refine blk_drew ?_ | refine blk_alloc ?_ _)); refine blk_put (cs := #[.int .i64 a1_0, .int .i64 t298, .int .i64 0, .int .i64 0, .int .i64 0]) ?_ 0 _ rfl; (with_reducible repeat (first | refine blk_drewN ?_ _ | refine blk_drew ?_ | refine blk_alloc ?_ _)); exact BK297.out) NB297_0.out (by simp)); have n3_ := Aside0.mk (KeepBut.trans (ts30_ HK.out GW295.out GW296.out GW297.out) hk (.inl rfl)); have n4_ := Aside0.mk (hb); have n5_ := Aside0.mk (hi); clear BK295; clear BK296; clear BK297; clear HK; clear HB; clear HI0; have BK295 := n0_; have BK296 := n1_; have BK297 := n2_; have HK := n3_; have HB := n4_; have HI0 := n5_; clear n0_ n1_ n2_ n3_ n4_ n5_; (try clear hb); (try clear hb2); (try clear hk); (try clear hi); have hcz26_0 : w25.cell? ⟨gb297, 0, none⟩ = some (.int .i64 t315) := (blk_cell BK297.out 0).trans rfl; have hcz26_1 : w25.cell? ⟨gb297, 1, none⟩ = some (.int .i64 t316) := (blk_cell BK297.out 1).trans rfl; have hcz26_2 : w25.cell? ⟨gb297, 2, none⟩ = some (.int .i64 t317) := (blk_cell BK297.out 2).trans rfl; have hcz26_3 : w25.cell? ⟨gb297, 3, none⟩ = some (.int .i64 t318) := (blk_cell BK297.out 3).trans rfl; have hcz26_4 : w25.cell? ⟨gb297, 4, none⟩ = some (.int .i64 t319) := (blk_cell BK297.out 4).trans rfl; have hfz26_0 := blk_frozen BK297.out 0; have hfz26_1 := blk_frozen BK297.out 1; have hfz26_2 := blk_frozen BK297.out 2; have hfz26_3 := blk_frozen BK297.out 3; have hfz26_4 := blk_frozen BK297.out 4; have hnb27 := NB296_0.out; have hnc27 := NB0_296.out; have hcz28_0 : w25.cell? ⟨gb296, 0, none⟩ = some (.int .i64 0) := (blk_cell BK296.out 0).trans rfl; have hcz28_1 : w25.cell? ⟨gb296, 1, none⟩ = some (.int .i64 0) := (blk_cell BK296.out 1).trans rfl; have hcz28_2 : w25.cell? ⟨gb296, 2, none⟩ = some (.int .i64 0) := (blk_cell BK296.out 2).trans rfl; have hcz28_3 : w25.cell? ⟨gb296, 3, none⟩ = some (.int .i64 0) := (blk_cell BK296.out 3).trans rfl; have hcz28_4 : w25.cell? ⟨gb296, 4, none⟩ = some (.int .i64 0) := (blk_cell BK296.out 4).trans rfl; have hfz28_0 := blk_frozen BK296.out 0; have hfz28_1 := blk_frozen BK296.out 1; have hfz28_2 := blk_frozen BK296.out 2; have hfz28_3 := blk_frozen BK296.out 3; have hfz28_4 := blk_frozen BK296.out 4))
  refine bodyPost_ret (results_cell_row rfl _ _ gb296 67 #[.int .i64 t315, .int .i64 t316, .int .i64 t317, .int .i64 t318, .int .i64 t319] (0, 0) _ rfl (by (with_reducible repeat (first | refine blk_drewN ?_ _ | refine blk_drew ?_ | refine blk_alloc ?_ _)); refine blk_put (cs := #[.int .i64 t315, .int .i64 t316, .int .i64 t317, .int .i64 t318, .int .i64 0]) ?_ 4 _ rfl; (with_reducible repeat (first | refine blk_drewN ?_ _ | refine blk_drew ?_ | refine blk_alloc ?_ _)); refine blk_put (cs := #[.int .i64 t315, .int .i64 t316, .int .i64 t317, .int .i64 0, .int .i64 0]) ?_ 3 _ rfl; (with_reducible repeat (first | refine blk_drewN ?_ _ | refine blk_drew ?_ | refine blk_alloc ?_ _)); refine blk_put (cs := #[.int .i64 t315, .int .i64 t316, .int .i64 0, .int .i64 0, .int .i64 0]) ?_ 2 _ rfl; (with_reducible repeat (first | refine blk_drewN ?_ _ | refine blk_drew ?_ | refine blk_alloc ?_ _)); refine blk_put (cs := #[.int .i64 t315, .int .i64 0, .int .i64 0, .int .i64 0, .int .i64 0]) ?_ 1 _ rfl; (with_reducible repeat (first | refine blk_drewN ?_ _ | refine blk_drew ?_ | refine blk_alloc ?_ _)); refine blk_put (cs := #[.int .i64 0, .int .i64 0, .int .i64 0, .int .i64 0, .int .i64 0]) ?_ 0 _ rfl; (with_reducible repeat (first | refine blk_drewN ?_ _ | refine blk_drew ?_ | refine blk_alloc ?_ _)); exact BK296.out) Tryd.underlying67 rfl (by kernel_rfl)) rfl ?_
  exact ⟨ts9_, ts6_ HI0.out NB0_295.out NB0_296.out NB0_297.out, ts28_ HB.out HI0.out GE295.out GE296.out GE297.out, ts30_ HK.out GW295.out GW296.out GW297.out⟩
 ·rw [if_neg c3] at H
  have c3b0 : (a1_0 == 4) = false := beq_eq_false_iff_ne.mpr c3
  have c3b1 : (a1_0 != 4) = true := bne_iff_ne.mpr c3
  by_cases c29 : a1_0 = 5
  ·rw [if_pos c29] at H
   have c29b0 : (a1_0 == 5) = true := beq_iff_eq.mpr c29
   have c29b1 : (a1_0 != 5) = false := bne_eq_false_iff_eq.mpr c29
   clear c29
   replace H := Option.bind_eq_some_iff.mp H
   obtain ⟨⟨t336, t337, t338, t339, t340, t341, t342, t343, t344, t345, t346, t347, t348⟩, A300, H⟩ := H
   try dsimp only at H
   have A30 := Aside0.mk A300
   clear A300
   replace H := Option.bind_eq_some_iff.mp H
   obtain ⟨⟨t349, t350, t351, t352, t353, t354, t355, t356⟩, A310, H⟩ := H
   try dsimp only at H
   have A31 := Aside0.mk A310
   clear A310
   replace H := Option.bind_eq_some_iff.mp H
   obtain ⟨⟨t357, t358, t359, t360, t361, t362, t363, t364, t365⟩, A320, H⟩ := H
   try dsimp only at H
   have A32 := Aside0.mk A320
   clear A320
   replace H := Option.bind_eq_some_iff.mp H
   obtain ⟨⟨t366, t367, t368, t369, t370, t371, t372, t373⟩, A330, H⟩ := H
   try dsimp only at H
   have A33 := Aside0.mk A330
   clear A330
   simp only [Option.some.injEq, Prod.mk.injEq] at H
   obtain ⟨rfl, rfl, rfl, rfl, rfl, rfl, rfl, rfl, rfl, rfl, rfl, rfl, rfl⟩ := H
   go_enter Tryd.func73, Tryd.ntmps73
   go_wp2_with (first | ((with_reducible refine gate_dst (N := 3) rfl ?_); refine box_event ?hg (N := 3) ?hd (cs := #[.int .i64 a1_0, .string a1_1, .bool a1_2, .bool a1_3, .bool a1_4, .int .i64 a1_5]) (t := 96) ?hr ?_; (case hd => rfl); (case hg => rfl); (case hr => exact ts40_); intro gb295 hg w34 hbox hb; have n0_ := Aside0.mk (IsS105.below (ts55_ HI0.out) hb); have n1_ := Aside0.mk (KeepBut.trans (ts51_ HK.out) (KeepBut.of_below hb g none) (.inl rfl)); have n2_ := Aside0.mk (below_step (ts5_ HB.out HI0.out) hb); have n3_ := Aside0.mk (hbox); have n4_ := Aside0.mk ((ts64_ HK.out : w.heap.size ≤ gb295)); have n5_ := Aside0.mk ((Nat.le_trans HW0.out (ts64_ HK.out : w.heap.size ≤ gb295) : w0.heap.size ≤ gb295)); have n6_ := Aside0.mk ((ts27_ HI0.out : g ≠ gb295)); have n7_ := Aside0.mk ((ts26_ HI0.out : gb295 ≠ g)); clear HI0; clear HK; clear HB; have HI0 := n0_; have HK := n1_; have HB := n2_; have BK295 := n3_; have GW295 := n4_; have GE295 := n5_; have NB0_295 := n6_; have NB295_0 := n7_; clear n0_ n1_ n2_ n3_ n4_ n5_ n6_ n7_; clear hb hbox hg) | ((with_reducible refine gate_dst (N := 4) rfl ?_); refine box_event ?hg (N := 4) ?hd (cs := #[.int .i64 0, .int .i64 0, .int .i64 0, .int .i64 0, .int .i64 0]) (t := 67) ?hr ?_; (case hd => rfl); (case hg => rfl); (case hr => exact ts40_); intro gb296 hg w35 hbox hb; have n0_ := Aside0.mk (IsS105.below (ts22_ HI0.out NB0_295.out) hb); have n1_ := Aside0.mk (blk_below (g := gb295) (o := .cells #[.int .i64 a1_0, .string a1_1, .bool a1_2, .bool a1_3, .bool a1_4, .int .i64 a1_5] 96 (0, 0)) (ts29_ BK295.out) hb); have n2_ := Aside0.mk (KeepBut.trans (ts14_ HK.out GW295.out) (KeepBut.of_below hb g none) (.inl rfl)); have n3_ := Aside0.mk (below_step (ts37_ HB.out HI0.out GE295.out) hb); have n4_ := Aside0.mk (hbox); have n5_ := Aside0.mk ((ts74_ HK.out GW295.out : w.heap.size ≤ gb296)); have n6_ := Aside0.mk ((Nat.le_trans HW0.out (ts74_ HK.out GW295.out : w.heap.size ≤ gb296) : w0.heap.size ≤ gb296)); have n7_ := Aside0.mk ((ts73_ BK295.out : gb295 ≠ gb296)); have n8_ := Aside0.mk ((ts65_ BK295.out : gb296 ≠ gb295)); have n9_ := Aside0.mk ((ts45_ HI0.out NB0_295.out : g ≠ gb296)); have n10_ := Aside0.mk ((ts39_ HI0.out NB0_295.out : gb296 ≠ g)); clear HI0; clear BK295; clear HK; clear HB; have HI0 := n0_; have BK295 := n1_; have HK := n2_; have HB := n3_; have BK296 := n4_; have GW296 := n5_; have GE296 := n6_; have NB295_296 := n7_; have NB296_295 := n8_; have NB0_296 := n9_; have NB296_0 := n10_; clear n0_ n1_ n2_ n3_ n4_ n5_ n6_ n7_ n8_ n9_ n10_; clear hb hbox hg; have hnb36 := NB295_296.out; have hnc36 := NB296_295.out; have hnb37 := NB295_0.out; have hnc37 := NB0_295.out; have hcz38_0 : w35.cell? ⟨gb295, 0, none⟩ = some (.int .i64 a1_0) := (blk_cell BK295.out 0).trans rfl; have hcz38_1 : w35.cell? ⟨gb295, 1, none⟩ = some (.string a1_1) := (blk_cell BK295.out 1).trans rfl; have hcz38_2 : w35.cell? ⟨gb295, 2, none⟩ = some (.bool a1_2) := (blk_cell BK295.out 2).trans rfl; have hcz38_3 : w35.cell? ⟨gb295, 3, none⟩ = some (.bool a1_3) := (blk_cell BK295.out 3).trans rfl; have hcz38_4 : w35.cell? ⟨gb295, 4, none⟩ = some (.bool a1_4) := (blk_cell BK295.out 4).trans rfl; have hcz38_5 : w35.cell? ⟨gb295, 5, none⟩ = some (.int .i64 a1_5) := (blk_cell BK295.out 5).trans rfl; have hfz38_0 := blk_frozen BK295.out 0; have hfz38_1 := blk_frozen BK295.out 1; have hfz38_2 := blk_frozen BK295.out 2; have hfz38_3 := blk_frozen BK295.out 3; have hfz38_4 := blk_frozen BK295.out 4; have hfz38_5 := blk_frozen BK295.out 5) | ((with_reducible refine gate_dst (N := 5) rfl ?_); refine box_event ?hg (N := 5) ?hd (cs := #[.int .i64 0, .int .i64 0, .int .i64 0, .int .i64 0, .int .i64 0]) (t := 67) ?hr ?_; (case hd => rfl); (case hg => rfl); (case hr => exact ts40_); intro gb297 hg w39 hbox hb; have n0_ := Aside0.mk (IsS105.below (ts42_ HI0.out NB0_295.out NB0_296.out) hb); have n1_ := Aside0.mk (blk_below (g := gb295) (o := .cells #[.int .i64 a1_0, .string a1_1, .bool a1_2, .bool a1_3, .bool a1_4, .int .i64 a1_5] 96 (0, 0)) (ts29_ BK295.out) hb); have n2_ := Aside0.mk (blk_below (g := gb296) (o := .cells #[.int .i64 0, .int .i64 0, .int .i64 0, .int .i64 0, .int .i64 0] 67 (0, 0)) (ts29_ BK296.out) hb); have n3_ := Aside0.mk (KeepBut.trans (ts44_ HK.out GW295.out GW296.out) (KeepBut.of_below hb g none) (.inl rfl)); have n4_ := Aside0.mk (below_step (ts31_ HB.out HI0.out GE295.out GE296.out) hb); have n5_ := Aside0.mk (hbox); have n6_ := Aside0.mk ((ts71_ HK.out GW295.out GW296.out : w.heap.size ≤ gb297)); have n7_ := Aside0.mk ((Nat.le_trans HW0.out (ts71_ HK.out GW295.out GW296.out : w.heap.size ≤ gb297) : w0.heap.size ≤ gb297)); have n8_ := Aside0.mk ((ts73_ BK295.out : gb295 ≠ gb297)); have n9_ := Aside0.mk ((ts65_ BK295.out : gb297 ≠ gb295)); have n10_ := Aside0.mk ((ts60_ BK296.out : gb296 ≠ gb297)); have n11_ := Aside0.mk ((ts70_ BK296.out : gb297 ≠ gb296)); have n12_ := Aside0.mk ((ts32_ HI0.out NB0_295.out NB0_296.out : g ≠ gb297)); have n13_ := Aside0.mk ((ts10_ HI0.out NB0_295.out NB0_296.out : gb297 ≠ g)); clear HI0; clear BK295; clear BK296; clear HK; clear HB; have HI0 := n0_; have BK295 := n1_; have BK296 := n2_; have HK := n3_; have HB := n4_; have BK297 := n5_; have GW297 := n6_; have GE297 := n7_; have NB295_297 := n8_; have NB297_295 := n9_; have NB296_297 := n10_; have NB297_296 := n11_; have NB0_297 := n12_; have NB297_0 := n13_; clear n0_ n1_ n2_ n3_ n4_ n5_ n6_ n7_ n8_ n9_ n10_ n11_ n12_ n13_; clear hb hbox hg; have hnb40 := NB297_295.out; have hnc40 := NB295_297.out; have hnb41 := NB297_296.out; have hnc41 := NB296_297.out; have hnb42 := NB297_0.out; have hnc42 := NB0_297.out; have hcz43_0 : w39.cell? ⟨gb297, 0, none⟩ = some (.int .i64 0) := (blk_cell BK297.out 0).trans rfl; have hcz43_1 : w39.cell? ⟨gb297, 1, none⟩ = some (.int .i64 0) := (blk_cell BK297.out 1).trans rfl; have hcz43_2 : w39.cell? ⟨gb297, 2, none⟩ = some (.int .i64 0) := (blk_cell BK297.out 2).trans rfl; have hcz43_3 : w39.cell? ⟨gb297, 3, none⟩ = some (.int .i64 0) := (blk_cell BK297.out 3).trans rfl; have hcz43_4 : w39.cell? ⟨gb297, 4, none⟩ = some (.int .i64 0) := (blk_cell BK297.out 4).trans rfl; have hfz43_0 := blk_frozen BK297.out 0; have hfz43_1 := blk_frozen BK297.out 1; have hfz43_2 := blk_frozen BK297.out 2; have hfz43_3 := blk_frozen BK297.out 3; have hfz43_4 := blk_frozen BK297.out 4; have hcz44_0 : w39.cell? ⟨gb295, 0, none⟩ = some (.int .i64 a1_0) := (blk_cell BK295.out 0).trans rfl; have hcz44_1 : w39.cell? ⟨gb295, 1, none⟩ = some (.string a1_1) := (blk_cell BK295.out 1).trans rfl; have hcz44_2 : w39.cell? ⟨gb295, 2, none⟩ = some (.bool a1_2) := (blk_cell BK295.out 2).trans rfl; have hcz44_3 : w39.cell? ⟨gb295, 3, none⟩ = some (.bool a1_3) := (blk_cell BK295.out 3).trans rfl; have hcz44_4 : w39.cell? ⟨gb295, 4, none⟩ = some (.bool a1_4) := (blk_cell BK295.out 4).trans rfl; have hcz44_5 : w39.cell? ⟨gb295, 5, none⟩ = some (.int .i64 a1_5) := (blk_cell BK295.out 5).trans rfl; have hfz44_0 := blk_frozen BK295.out 0; have hfz44_1 := blk_frozen BK295.out 1; have hfz44_2 := blk_frozen BK295.out 2; have hfz44_3 := blk_frozen BK295.out 3; have hfz44_4 := blk_frozen BK295.out 4; have hfz44_5 := blk_frozen BK295.out 5) | ((with_reducible refine gate_callee (f := 82) rfl ?_); refine goesL_ (some 26) rfl rfl Tryd.func82 (by kernel_rfl) rfl #[.pointer (some ⟨g, 0, none⟩), .agg #[.int .i64 a1_0, .int .i64 0, .int .i64 0, .int .i64 0, .int .i64 0]] rfl ts47_ ?_; (with_reducible refine (cupelref20_reader_place.calls k g s0_0 s0_1 s0_2 s0_3 s0_4 s0_5 s0_6 s0_7 a1_0 0 0 0 0 t336 t337 t338 t339 t340 t341 t342 t343 t344 t345 t346 t347 t348 w0 _ ?side1 ?side2 A30.out).mono ?_); (case side1 => exact ts6_ HI0.out NB0_295.out NB0_296.out NB0_297.out); (case side2 => exact ts28_ HB.out HI0.out GE295.out GE296.out GE297.out); rintro e w45 ⟨rfl, hi, hb, hk⟩; refine ⟨_, rfl, ?_⟩; have n0_ := Aside0.mk (KeepBut.blk hk (g' := gb295) (o := .cells #[.int .i64 a1_0, .string a1_1, .bool a1_2, .bool a1_3, .bool a1_4, .int .i64 a1_5] 96 (0, 0)) (ts43_ NB295_297.out BK295.out) NB295_0.out (by simp)); have n1_ := Aside0.mk (KeepBut.blk hk (g' := gb296) (o := .cells #[.int .i64 0, .int .i64 0, .int .i64 0, .int .i64 0, .int .i64 0] 67 (0, 0)) (ts43_ NB296_297.out BK296.out) NB296_0.out (by simp)); have n2_ := Aside0.mk (KeepBut.blk hk (g' := gb297) (o := .cells #[.int .i64 a1_0, .int .i64 0, .int .i64 0, .int .i64 0, .int .i64 0] 67 (0, 0)) (ts23_ BK297.out) NB297_0.out (by simp)); have n3_ := Aside0.mk (KeepBut.trans (ts30_ HK.out GW295.out GW296.out GW297.out) hk (.inl rfl)); have n4_ := Aside0.mk (hb); have n5_ := Aside0.mk (hi); clear BK295; clear BK296; clear BK297; clear HK; clear HB; clear HI0; have BK295 := n0_; have BK296 := n1_; have BK297 := n2_; have HK := n3_; have HB := n4_; have HI0 := n5_; clear n0_ n1_ n2_ n3_ n4_ n5_; (try clear hb); (try clear hb2); (try clear hk); (try clear hi); have hcz46_0 : w45.cell? ⟨gb297, 0, none⟩ = some (.int .i64 a1_0) := (blk_cell BK297.out 0).trans rfl; have hcz46_1 : w45.cell? ⟨gb297, 1, none⟩ = some (.int .i64 0) := (blk_cell BK297.out 1).trans rfl; have hcz46_2 : w45.cell? ⟨gb297, 2, none⟩ = some (.int .i64 0) := (blk_cell BK297.out 2).trans rfl; have hcz46_3 : w45.cell? ⟨gb297, 3, none⟩ = some (.int .i64 0) := (blk_cell BK297.out 3).trans rfl; have hcz46_4 : w45.cell? ⟨gb297, 4, none⟩ = some (.int .i64 0) := (blk_cell BK297.out 4).trans rfl; have hfz46_0 := blk_frozen BK297.out 0; have hfz46_1 := blk_frozen BK297.out 1; have hfz46_2 := blk_frozen BK297.out 2; have hfz46_3 := blk_frozen BK297.out 3; have hfz46_4 := blk_frozen BK297.out 4) | ((with_reducible refine gate_callee (f := 69) rfl ?_); refine goesL_ (some 28) rfl rfl Tryd.func69 (by kernel_rfl) rfl #[.pointer (some ⟨g, 0, none⟩), .string (⟨#[44]⟩ : ByteArray)] rfl ts47_ ?_; (with_reducible refine (cupelref20_reader_want.calls k g t341 t342 t343 t344 t345 t346 t347 t348 (⟨#[44]⟩ : ByteArray) t349 t350 t351 t352 t353 t354 t355 t356 w0 _ ?side1 ?side2 A31.out).mono ?_); (case side1 => exact ts6_ HI0.out NB0_295.out NB0_296.out NB0_297.out); (case side2 => exact ts28_ HB.out HI0.out GE295.out GE296.out GE297.out); rintro e w47 ⟨rfl, hi, hb, hk⟩; refine ⟨_, rfl, ?_⟩; have n0_ := Aside0.mk (KeepBut.blk hk (g' := gb295) (o := .cells #[.int .i64 a1_0, .string a1_1, .bool a1_2, .bool a1_3, .bool a1_4, .int .i64 a1_5] 96 (0, 0)) (ts43_ NB295_297.out BK295.out) NB295_0.out (by simp)); have n1_ := Aside0.mk (KeepBut.blk hk (g' := gb296) (o := .cells #[.int .i64 0, .int .i64 0, .int .i64 0, .int .i64 0, .int .i64 0] 67 (0, 0)) (ts43_ NB296_297.out BK296.out) NB296_0.out (by simp)); have n2_ := Aside0.mk (KeepBut.blk hk (g' := gb297) (o := .cells #[.int .i64 t336, .int .i64 t337, .int .i64 t338, .int .i64 t339, .int .i64 t340] 67 (0, 0)) (by (with_reducible repeat (first | refine blk_drewN ?_ _ | refine blk_drew ?_ | refine blk_alloc ?_ _)); refine blk_put (cs := #[.int .i64 t336, .int .i64 t337, .int .i64 t338, .int .i64 t339, .int .i64 0]) ?_ 4 _ rfl; (with_reducible repeat (first | refine blk_drewN ?_ _ | refine blk_drew ?_ | refine blk_alloc ?_ _)); refine blk_put (cs := #[.int .i64 t336, .int .i64 t337, .int .i64 t338, .int .i64 0, .int .i64 0]) ?_ 3 _ rfl; (with_reducible repeat (first | refine blk_drewN ?_ _ | refine blk_drew ?_ | refine blk_alloc ?_ _)); refine blk_put (cs := #[.int .i64 t336, .int .i64 t337, .int .i64 0, .int .i64 0, .int .i64 0]) ?_ 2 _ rfl; (with_reducible repeat (first | refine blk_drewN ?_ _ | refine blk_drew ?_ | refine blk_alloc ?_ _)); refine blk_put (cs := #[.int .i64 t336, .int .i64 0, .int .i64 0, .int .i64 0, .int .i64 0]) ?_ 1 _ rfl; (with_reducible repeat (first | refine blk_drewN ?_ _ | refine blk_drew ?_ | refine blk_alloc ?_ _)); refine blk_put (cs := #[.int .i64 a1_0, .int .i64 0, .int .i64 0, .int .i64 0, .int .i64 0]) ?_ 0 _ rfl; (with_reducible repeat (first | refine blk_drewN ?_ _ | refine blk_drew ?_ | refine blk_alloc ?_ _)); exact BK297.out) NB297_0.out (by simp)); have n3_ := Aside0.mk (KeepBut.trans (ts30_ HK.out GW295.out GW296.out GW297.out) hk (.inl rfl)); have n4_ := Aside0.mk (hb); have n5_ := Aside0.mk (hi); clear BK295; clear BK296; clear BK297; clear HK; clear HB; clear HI0; have BK295 := n0_; have BK296 := n1_; have BK297 := n2_; have HK := n3_; have HB := n4_; have HI0 := n5_; clear n0_ n1_ n2_ n3_ n4_ n5_; (try clear hb); (try clear hb2); (try clear hk); (try clear hi)) | ((with_reducible refine gate_callee (f := 81) rfl ?_); refine goesL_ (some 30) rfl rfl Tryd.func81 (by kernel_rfl) rfl #[.pointer (some ⟨g, 0, none⟩)] rfl ts47_ ?_; (with_reducible refine (cupelref20_reader_register.calls k g t349 t350 t351 t352 t353 t354 t355 t356 t357 t358 t359 t360 t361 t362 t363 t364 t365 w0 _ ?side1 ?side2 A32.out).mono ?_); (case side1 => exact ts6_ HI0.out NB0_295.out NB0_296.out NB0_297.out); (case side2 => exact ts28_ HB.out HI0.out GE295.out GE296.out GE297.out); rintro e w48 ⟨rfl, hi, hb, hk⟩; refine ⟨_, rfl, ?_⟩; have n0_ := Aside0.mk (KeepBut.blk hk (g' := gb295) (o := .cells #[.int .i64 a1_0, .string a1_1, .bool a1_2, .bool a1_3, .bool a1_4, .int .i64 a1_5] 96 (0, 0)) (ts29_ BK295.out) NB295_0.out (by simp)); have n1_ := Aside0.mk (KeepBut.blk hk (g' := gb296) (o := .cells #[.int .i64 0, .int .i64 0, .int .i64 0, .int .i64 0, .int .i64 0] 67 (0, 0)) (ts29_ BK296.out) NB296_0.out (by simp)); have n2_ := Aside0.mk (KeepBut.blk hk (g' := gb297) (o := .cells #[.int .i64 t336, .int .i64 t337, .int .i64 t338, .int .i64 t339, .int .i64 t340] 67 (0, 0)) (ts29_ BK297.out) NB297_0.out (by simp)); have n3_ := Aside0.mk (KeepBut.trans (ts30_ HK.out GW295.out GW296.out GW297.out) hk (.inl rfl)); have n4_ := Aside0.mk (hb); have n5_ := Aside0.mk (hi); clear BK295; clear BK296; clear BK297; clear HK; clear HB; clear HI0; have BK295 := n0_; have BK296 := n1_; have BK297 := n2_; have HK := n3_; have HB := n4_; have HI0 := n5_; clear n0_ n1_ n2_ n3_ n4_ n5_; (try clear hb); (try clear hb2); (try clear hk); (try clear hi); have hcz49_0 : w48.cell? ⟨gb297, 0, none⟩ = some (.int .i64 t336) := (blk_cell BK297.out 0).trans rfl; have hcz49_1 : w48.cell? ⟨gb297, 1, none⟩ = some (.int .i64 t337) := (blk_cell BK297.out 1).trans rfl; have hcz49_2 : w48.cell? ⟨gb297, 2, none⟩ = some (.int .i64 t338) := (blk_cell BK297.out 2).trans rfl; have hcz49_3 : w48.cell? ⟨gb297, 3, none⟩ = some (.int .i64 t339) := (blk_cell BK297.out 3).trans rfl; have hcz49_4 : w48.cell? ⟨gb297, 4, none⟩ = some (.int .i64 t340) := (blk_cell BK297.out 4).trans rfl; have hfz49_0 := blk_frozen BK297.out 0; have hfz49_1 := blk_frozen BK297.out 1; have hfz49_2 := blk_frozen BK297.out 2; have hfz49_3 := blk_frozen BK297.out 3; have hfz49_4 := blk_frozen BK297.out 4) | ((with_reducible refine gate_callee (f := 69) rfl ?_); refine goesL_ (some 65) rfl rfl Tryd.func69 (by kernel_rfl) rfl #[.pointer (some ⟨g, 0, none⟩), .string (⟨#[59]⟩ : ByteArray)] rfl ts47_ ?_; (with_reducible refine (cupelref20_reader_want.calls k g t358 t359 t360 t361 t362 t363 t364 t365 (⟨#[59]⟩ : ByteArray) t366 t367 t368 t369 t370 t371 t372 t373 w0 _ ?side1 ?side2 A33.out).mono ?_); (case side1 => exact ts6_ HI0.out NB0_295.out NB0_296.out NB0_297.out); (case side2 => exact ts28_ HB.out HI0.out GE295.out GE296.out GE297.out); rintro e w50 ⟨rfl, hi, hb, hk⟩; refine ⟨_, rfl, ?_⟩; have n0_ := Aside0.mk (KeepBut.blk hk (g' := gb295) (o := .cells #[.int .i64 a1_0, .string a1_1, .bool a1_2, .bool a1_3, .bool a1_4, .int .i64 a1_5] 96 (0, 0)) (ts41_ NB295_297.out BK295.out) NB295_0.out (by simp)); have n1_ := Aside0.mk (KeepBut.blk hk (g' := gb296) (o := .cells #[.int .i64 0, .int .i64 0, .int .i64 0, .int .i64 0, .int .i64 0] 67 (0, 0)) (ts41_ NB296_297.out BK296.out) NB296_0.out (by simp)); have n2_ := Aside0.mk (KeepBut.blk hk (g' := gb297) (o := .cells #[.int .i64 t336, .int .i64 t337, .int .i64 t338, .int .i64 t357, .int .i64 t340] 67 (0, 0)) (by (with_reducible repeat (first | refine blk_drewN ?_ _ | refine blk_drew ?_ | refine blk_alloc ?_ _)); refine blk_put (cs := #[.int .i64 t336, .int .i64 t337, .int .i64 t338, .int .i64 t339, .int .i64 t340]) ?_ 3 _ rfl; (with_reducible repeat (first | refine blk_drewN ?_ _ | refine blk_drew ?_ | refine blk_alloc ?_ _)); exact BK297.out) NB297_0.out (by simp)); have n3_ := Aside0.mk (KeepBut.trans (ts30_ HK.out GW295.out GW296.out GW297.out) hk (.inl rfl)); have n4_ := Aside0.mk (hb); have n5_ := Aside0.mk (hi); clear BK295; clear BK296; clear BK297; clear HK; clear HB; clear HI0; have BK295 := n0_; have BK296 := n1_; have BK297 := n2_; have HK := n3_; have HB := n4_; have HI0 := n5_; clear n0_ n1_ n2_ n3_ n4_ n5_; (try clear hb); (try clear hb2); (try clear hk); (try clear hi); have hcz51_0 : w50.cell? ⟨gb297, 0, none⟩ = some (.int .i64 t336) := (blk_cell BK297.out 0).trans rfl; have hcz51_1 : w50.cell? ⟨gb297, 1, none⟩ = some (.int .i64 t337) := (blk_cell BK297.out 1).trans rfl; have hcz51_2 : w50.cell? ⟨gb297, 2, none⟩ = some (.int .i64 t338) := (blk_cell BK297.out 2).trans rfl; have hcz51_3 : w50.cell? ⟨gb297, 3, none⟩ = some (.int .i64 t357) := (blk_cell BK297.out 3).trans rfl; have hcz51_4 : w50.cell? ⟨gb297, 4, none⟩ = some (.int .i64 t340) := (blk_cell BK297.out 4).trans rfl; have hfz51_0 := blk_frozen BK297.out 0; have hfz51_1 := blk_frozen BK297.out 1; have hfz51_2 := blk_frozen BK297.out 2; have hfz51_3 := blk_frozen BK297.out 3; have hfz51_4 := blk_frozen BK297.out 4; have hnb52 := NB296_0.out; have hnc52 := NB0_296.out; have hcz53_0 : w50.cell? ⟨gb296, 0, none⟩ = some (.int .i64 0) := (blk_cell BK296.out 0).trans rfl; have hcz53_1 : w50.cell? ⟨gb296, 1, none⟩ = some (.int .i64 0) := (blk_cell BK296.out 1).trans rfl; have hcz53_2 : w50.cell? ⟨gb296, 2, none⟩ = some (.int .i64 0) := (blk_cell BK296.out 2).trans rfl; have hcz53_3 : w50.cell? ⟨gb296, 3, none⟩ = some (.int .i64 0) := (blk_cell BK296.out 3).trans rfl; have hcz53_4 : w50.cell? ⟨gb296, 4, none⟩ = some (.int .i64 0) := (blk_cell BK296.out 4).trans rfl; have hfz53_0 := blk_frozen BK296.out 0; have hfz53_1 := blk_frozen BK296.out 1; have hfz53_2 := blk_frozen BK296.out 2; have hfz53_3 := blk_frozen BK296.out 3; have hfz53_4 := blk_frozen BK296.out 4))
   refine bodyPost_ret (results_cell_row rfl _ _ gb296 67 #[.int .i64 t336, .int .i64 t337, .int .i64 t338, .int .i64 t357, .int .i64 t340] (0, 0) _ rfl (by (with_reducible repeat (first | refine blk_drewN ?_ _ | refine blk_drew ?_ | refine blk_alloc ?_ _)); refine blk_put (cs := #[.int .i64 t336, .int .i64 t337, .int .i64 t338, .int .i64 t357, .int .i64 0]) ?_ 4 _ rfl; (with_reducible repeat (first | refine blk_drewN ?_ _ | refine blk_drew ?_ | refine blk_alloc ?_ _)); refine blk_put (cs := #[.int .i64 t336, .int .i64 t337, .int .i64 t338, .int .i64 0, .int .i64 0]) ?_ 3 _ rfl; (with_reducible repeat (first | refine blk_drewN ?_ _ | refine blk_drew ?_ | refine blk_alloc ?_ _)); refine blk_put (cs := #[.int .i64 t336, .int .i64 t337, .int .i64 0, .int .i64 0, .int .i64 0]) ?_ 2 _ rfl; (with_reducible repeat (first | refine blk_drewN ?_ _ | refine blk_drew ?_ | refine blk_alloc ?_ _)); refine blk_put (cs := #[.int .i64 t336, .int .i64 0, .int .i64 0, .int .i64 0, .int .i64 0]) ?_ 1 _ rfl; (with_reducible repeat (first | refine blk_drewN ?_ _ | refine blk_drew ?_ | refine blk_alloc ?_ _)); refine blk_put (cs := #[.int .i64 0, .int .i64 0, .int .i64 0, .int .i64 0, .int .i64 0]) ?_ 0 _ rfl; (with_reducible repeat (first | refine blk_drewN ?_ _ | refine blk_drew ?_ | refine blk_alloc ?_ _)); exact BK296.out) Tryd.underlying67 rfl (by kernel_rfl)) rfl ?_
   exact ⟨ts9_, ts6_ HI0.out NB0_295.out NB0_296.out NB0_297.out, ts28_ HB.out HI0.out GE295.out GE296.out GE297.out, ts30_ HK.out GW295.out GW296.out GW297.out⟩
  ·rw [if_neg c29] at H
   have c29b0 : (a1_0 == 5) = false := beq_eq_false_iff_ne.mpr c29
   have c29b1 : (a1_0 != 5) = true := bne_iff_ne.mpr c29
   have HC54 := Aside0.mk H
   clear H
   go_enter Tryd.func73, Tryd.ntmps73
   go_upto_if 33 with (first | ((with_reducible refine gate_dst (N := 3) rfl ?_); refine box_event ?hg (N := 3) ?hd (cs := #[.int .i64 a1_0, .string a1_1, .bool a1_2, .bool a1_3, .bool a1_4, .int .i64 a1_5]) (t := 96) ?hr ?_; (case hd => rfl); (case hg => rfl); (case hr => exact ts40_); intro gb295 hg w55 hbox hb; have n0_ := Aside0.mk (IsS105.below (ts55_ HI0.out) hb); have n1_ := Aside0.mk (KeepBut.trans (ts51_ HK.out) (KeepBut.of_below hb g none) (.inl rfl)); have n2_ := Aside0.mk (below_step (ts5_ HB.out HI0.out) hb); have n3_ := Aside0.mk (hbox); have n4_ := Aside0.mk ((ts64_ HK.out : w.heap.size ≤ gb295)); have n5_ := Aside0.mk ((Nat.le_trans HW0.out (ts64_ HK.out : w.heap.size ≤ gb295) : w0.heap.size ≤ gb295)); have n6_ := Aside0.mk ((ts27_ HI0.out : g ≠ gb295)); have n7_ := Aside0.mk ((ts26_ HI0.out : gb295 ≠ g)); clear HI0; clear HK; clear HB; have HI0 := n0_; have HK := n1_; have HB := n2_; have BK295 := n3_; have GW295 := n4_; have GE295 := n5_; have NB0_295 := n6_; have NB295_0 := n7_; clear n0_ n1_ n2_ n3_ n4_ n5_ n6_ n7_; clear hb hbox hg) | ((with_reducible refine gate_dst (N := 4) rfl ?_); refine box_event ?hg (N := 4) ?hd (cs := #[.int .i64 0, .int .i64 0, .int .i64 0, .int .i64 0, .int .i64 0]) (t := 67) ?hr ?_; (case hd => rfl); (case hg => rfl); (case hr => exact ts40_); intro gb296 hg w56 hbox hb; have n0_ := Aside0.mk (IsS105.below (ts22_ HI0.out NB0_295.out) hb); have n1_ := Aside0.mk (blk_below (g := gb295) (o := .cells #[.int .i64 a1_0, .string a1_1, .bool a1_2, .bool a1_3, .bool a1_4, .int .i64 a1_5] 96 (0, 0)) (ts29_ BK295.out) hb); have n2_ := Aside0.mk (KeepBut.trans (ts14_ HK.out GW295.out) (KeepBut.of_below hb g none) (.inl rfl)); have n3_ := Aside0.mk (below_step (ts37_ HB.out HI0.out GE295.out) hb); have n4_ := Aside0.mk (hbox); have n5_ := Aside0.mk ((ts74_ HK.out GW295.out : w.heap.size ≤ gb296)); have n6_ := Aside0.mk ((Nat.le_trans HW0.out (ts74_ HK.out GW295.out : w.heap.size ≤ gb296) : w0.heap.size ≤ gb296)); have n7_ := Aside0.mk ((ts73_ BK295.out : gb295 ≠ gb296)); have n8_ := Aside0.mk ((ts65_ BK295.out : gb296 ≠ gb295)); have n9_ := Aside0.mk ((ts45_ HI0.out NB0_295.out : g ≠ gb296)); have n10_ := Aside0.mk ((ts39_ HI0.out NB0_295.out : gb296 ≠ g)); clear HI0; clear BK295; clear HK; clear HB; have HI0 := n0_; have BK295 := n1_; have HK := n2_; have HB := n3_; have BK296 := n4_; have GW296 := n5_; have GE296 := n6_; have NB295_296 := n7_; have NB296_295 := n8_; have NB0_296 := n9_; have NB296_0 := n10_; clear n0_ n1_ n2_ n3_ n4_ n5_ n6_ n7_ n8_ n9_ n10_; clear hb hbox hg; have hnb57 := NB295_296.out; have hnc57 := NB296_295.out; have hnb58 := NB295_0.out; have hnc58 := NB0_295.out; have hcz59_0 : w56.cell? ⟨gb295, 0, none⟩ = some (.int .i64 a1_0) := (blk_cell BK295.out 0).trans rfl; have hcz59_1 : w56.cell? ⟨gb295, 1, none⟩ = some (.string a1_1) := (blk_cell BK295.out 1).trans rfl; have hcz59_2 : w56.cell? ⟨gb295, 2, none⟩ = some (.bool a1_2) := (blk_cell BK295.out 2).trans rfl; have hcz59_3 : w56.cell? ⟨gb295, 3, none⟩ = some (.bool a1_3) := (blk_cell BK295.out 3).trans rfl; have hcz59_4 : w56.cell? ⟨gb295, 4, none⟩ = some (.bool a1_4) := (blk_cell BK295.out 4).trans rfl; have hcz59_5 : w56.cell? ⟨gb295, 5, none⟩ = some (.int .i64 a1_5) := (blk_cell BK295.out 5).trans rfl; have hfz59_0 := blk_frozen BK295.out 0; have hfz59_1 := blk_frozen BK295.out 1; have hfz59_2 := blk_frozen BK295.out 2; have hfz59_3 := blk_frozen BK295.out 3; have hfz59_4 := blk_frozen BK295.out 4; have hfz59_5 := blk_frozen BK295.out 5) | ((with_reducible refine gate_dst (N := 5) rfl ?_); refine box_event ?hg (N := 5) ?hd (cs := #[.int .i64 0, .int .i64 0, .int .i64 0, .int .i64 0, .int .i64 0]) (t := 67) ?hr ?_; (case hd => rfl); (case hg => rfl); (case hr => exact ts40_); intro gb297 hg w60 hbox hb; have n0_ := Aside0.mk (IsS105.below (ts42_ HI0.out NB0_295.out NB0_296.out) hb); have n1_ := Aside0.mk (blk_below (g := gb295) (o := .cells #[.int .i64 a1_0, .string a1_1, .bool a1_2, .bool a1_3, .bool a1_4, .int .i64 a1_5] 96 (0, 0)) (ts29_ BK295.out) hb); have n2_ := Aside0.mk (blk_below (g := gb296) (o := .cells #[.int .i64 0, .int .i64 0, .int .i64 0, .int .i64 0, .int .i64 0] 67 (0, 0)) (ts29_ BK296.out) hb); have n3_ := Aside0.mk (KeepBut.trans (ts44_ HK.out GW295.out GW296.out) (KeepBut.of_below hb g none) (.inl rfl)); have n4_ := Aside0.mk (below_step (ts31_ HB.out HI0.out GE295.out GE296.out) hb); have n5_ := Aside0.mk (hbox); have n6_ := Aside0.mk ((ts71_ HK.out GW295.out GW296.out : w.heap.size ≤ gb297)); have n7_ := Aside0.mk ((Nat.le_trans HW0.out (ts71_ HK.out GW295.out GW296.out : w.heap.size ≤ gb297) : w0.heap.size ≤ gb297)); have n8_ := Aside0.mk ((ts73_ BK295.out : gb295 ≠ gb297)); have n9_ := Aside0.mk ((ts65_ BK295.out : gb297 ≠ gb295)); have n10_ := Aside0.mk ((ts60_ BK296.out : gb296 ≠ gb297)); have n11_ := Aside0.mk ((ts70_ BK296.out : gb297 ≠ gb296)); have n12_ := Aside0.mk ((ts32_ HI0.out NB0_295.out NB0_296.out : g ≠ gb297)); have n13_ := Aside0.mk ((ts10_ HI0.out NB0_295.out NB0_296.out : gb297 ≠ g)); clear HI0; clear BK295; clear BK296; clear HK; clear HB; have HI0 := n0_; have BK295 := n1_; have BK296 := n2_; have HK := n3_; have HB := n4_; have BK297 := n5_; have GW297 := n6_; have GE297 := n7_; have NB295_297 := n8_; have NB297_295 := n9_; have NB296_297 := n10_; have NB297_296 := n11_; have NB0_297 := n12_; have NB297_0 := n13_; clear n0_ n1_ n2_ n3_ n4_ n5_ n6_ n7_ n8_ n9_ n10_ n11_ n12_ n13_; clear hb hbox hg; have hnb61 := NB297_295.out; have hnc61 := NB295_297.out; have hnb62 := NB297_296.out; have hnc62 := NB296_297.out; have hnb63 := NB297_0.out; have hnc63 := NB0_297.out; have hcz64_0 : w60.cell? ⟨gb297, 0, none⟩ = some (.int .i64 0) := (blk_cell BK297.out 0).trans rfl; have hcz64_1 : w60.cell? ⟨gb297, 1, none⟩ = some (.int .i64 0) := (blk_cell BK297.out 1).trans rfl; have hcz64_2 : w60.cell? ⟨gb297, 2, none⟩ = some (.int .i64 0) := (blk_cell BK297.out 2).trans rfl; have hcz64_3 : w60.cell? ⟨gb297, 3, none⟩ = some (.int .i64 0) := (blk_cell BK297.out 3).trans rfl; have hcz64_4 : w60.cell? ⟨gb297, 4, none⟩ = some (.int .i64 0) := (blk_cell BK297.out 4).trans rfl; have hfz64_0 := blk_frozen BK297.out 0; have hfz64_1 := blk_frozen BK297.out 1; have hfz64_2 := blk_frozen BK297.out 2; have hfz64_3 := blk_frozen BK297.out 3; have hfz64_4 := blk_frozen BK297.out 4; have hcz65_0 : w60.cell? ⟨gb295, 0, none⟩ = some (.int .i64 a1_0) := (blk_cell BK295.out 0).trans rfl; have hcz65_1 : w60.cell? ⟨gb295, 1, none⟩ = some (.string a1_1) := (blk_cell BK295.out 1).trans rfl; have hcz65_2 : w60.cell? ⟨gb295, 2, none⟩ = some (.bool a1_2) := (blk_cell BK295.out 2).trans rfl; have hcz65_3 : w60.cell? ⟨gb295, 3, none⟩ = some (.bool a1_3) := (blk_cell BK295.out 3).trans rfl; have hcz65_4 : w60.cell? ⟨gb295, 4, none⟩ = some (.bool a1_4) := (blk_cell BK295.out 4).trans rfl; have hcz65_5 : w60.cell? ⟨gb295, 5, none⟩ = some (.int .i64 a1_5) := (blk_cell BK295.out 5).trans rfl; have hfz65_0 := blk_frozen BK295.out 0; have hfz65_1 := blk_frozen BK295.out 1; have hfz65_2 := blk_frozen BK295.out 2; have hfz65_3 := blk_frozen BK295.out 3; have hfz65_4 := blk_frozen BK295.out 4; have hfz65_5 := blk_frozen BK295.out 5))
   (try simp only [Act.put, List.setIfInBounds_toArray, List.set_cons_zero, List.set_cons_succ])
   go_cut [6] (fun v6 wc => ∃ (kq : Nat) (x6_53 : Bool) (x1000_53 : ByteArray) (x1001_53 : Int) (x1002_53 : Int) (x1003_53 : Int) (x1004_53 : ByteArray) (x1005_53 : Int) (x1006_53 : Bool) (x1007_53 : Int) (x298001_53 : Int), v6 = .bool x6_53 ∧ Aside0 (cupelref20_reader_instr.j0 kq x6_53 x1000_53 x1001_53 x1002_53 x1003_53 x1004_53 x1005_53 x1006_53 x1007_53 a1_0 a1_1 a1_2 a1_3 a1_4 a1_5 a1_0 x298001_53 0 0 0 = some (r1, r2, r3, r4, r5, r6, r7, r8, r9, r10, r11, r12, r13)) ∧ Aside0 (kq ≤ k) ∧ Aside0 (wc.heap[gb295]? = some (.cells #[.int .i64 a1_0, .string a1_1, .bool a1_2, .bool a1_3, .bool a1_4, .int .i64 a1_5] 96 (0, 0))) ∧ Aside0 (wc.heap[gb296]? = some (.cells #[.int .i64 0, .int .i64 0, .int .i64 0, .int .i64 0, .int .i64 0] 67 (0, 0))) ∧ Aside0 (wc.heap[gb297]? = some (.cells #[.int .i64 a1_0, .int .i64 x298001_53, .int .i64 0, .int .i64 0, .int .i64 0] 67 (0, 0))) ∧ Aside0 (IsS105 w0 wc g x1000_53 x1001_53 x1002_53 x1003_53 x1004_53 x1005_53 x1006_53 x1007_53) ∧ Aside0 (KeepBut w wc g none) ∧ Aside0 (Below w0.heap.size w0 wc))
   case first =>
    have H := HC54.out
    clear HC54
    by_cases c66 : a1_2 = true
    ·subst c66
     rw [if_pos rfl] at H
     replace H := Option.bind_eq_some_iff.mp H
     obtain ⟨⟨t374, t375, t376, t377, t378, t379, t380, t381, t382⟩, A670, H⟩ := H
     try dsimp only at H
     have A67 := Aside0.mk A670
     clear A670
     have H' := Aside0.mk H
     clear H
     go_wp2_with (first | ((with_reducible refine gate_callee (f := 81) rfl ?_); refine goesL_ (some 35) rfl rfl Tryd.func81 (by kernel_rfl) rfl #[.pointer (some ⟨g, 0, none⟩)] rfl ts47_ ?_; (with_reducible refine (cupelref20_reader_register.calls k g s0_0 s0_1 s0_2 s0_3 s0_4 s0_5 s0_6 s0_7 t374 t375 t376 t377 t378 t379 t380 t381 t382 w0 _ ?side1 ?side2 A67.out).mono ?_); (case side1 => exact ts6_ HI0.out NB0_295.out NB0_296.out NB0_297.out); (case side2 => exact ts28_ HB.out HI0.out GE295.out GE296.out GE297.out); rintro e w68 ⟨rfl, hi, hb, hk⟩; refine ⟨_, rfl, ?_⟩; have n0_ := Aside0.mk (KeepBut.blk hk (g' := gb295) (o := .cells #[.int .i64 a1_0, .string a1_1, .bool true, .bool a1_3, .bool a1_4, .int .i64 a1_5] 96 (0, 0)) (ts43_ NB295_297.out BK295.out) NB295_0.out (by simp)); have n1_ := Aside0.mk (KeepBut.blk hk (g' := gb296) (o := .cells #[.int .i64 0, .int .i64 0, .int .i64 0, .int .i64 0, .int .i64 0] 67 (0, 0)) (ts43_ NB296_297.out BK296.out) NB296_0.out (by simp)); have n2_ := Aside0.mk (KeepBut.blk hk (g' := gb297) (o := .cells #[.int .i64 a1_0, .int .i64 0, .int .i64 0, .int .i64 0, .int .i64 0] 67 (0, 0)) (ts23_ BK297.out) NB297_0.out (by simp)); have n3_ := Aside0.mk (KeepBut.trans (ts30_ HK.out GW295.out GW296.out GW297.out) hk (.inl rfl)); have n4_ := Aside0.mk (hb); have n5_ := Aside0.mk (hi); clear BK295; clear BK296; clear BK297; clear HK; clear HB; clear HI0; have BK295 := n0_; have BK296 := n1_; have BK297 := n2_; have HK := n3_; have HB := n4_; have HI0 := n5_; clear n0_ n1_ n2_ n3_ n4_ n5_; (try clear hb); (try clear hb2); (try clear hk); (try clear hi); have hnb69 := NB297_295.out; have hnc69 := NB295_297.out; have hnb70 := NB297_296.out; have hnc70 := NB296_297.out; have hnb71 := NB297_0.out; have hnc71 := NB0_297.out; have hcz72_0 : w68.cell? ⟨gb297, 0, none⟩ = some (.int .i64 a1_0) := (blk_cell BK297.out 0).trans rfl; have hcz72_1 : w68.cell? ⟨gb297, 1, none⟩ = some (.int .i64 0) := (blk_cell BK297.out 1).trans rfl; have hcz72_2 : w68.cell? ⟨gb297, 2, none⟩ = some (.int .i64 0) := (blk_cell BK297.out 2).trans rfl; have hcz72_3 : w68.cell? ⟨gb297, 3, none⟩ = some (.int .i64 0) := (blk_cell BK297.out 3).trans rfl; have hcz72_4 : w68.cell? ⟨gb297, 4, none⟩ = some (.int .i64 0) := (blk_cell BK297.out 4).trans rfl; have hfz72_0 := blk_frozen BK297.out 0; have hfz72_1 := blk_frozen BK297.out 1; have hfz72_2 := blk_frozen BK297.out 2; have hfz72_3 := blk_frozen BK297.out 3; have hfz72_4 := blk_frozen BK297.out 4))
     go_meet
     case rel => exact ⟨_, (true), (t375), (t376), (t377), (t378), (t379), (t380), (t381), (t382), (t374), ts36_, H', ⟨ts18_⟩, ⟨ts41_ NB295_297.out BK295.out⟩, ⟨ts41_ NB296_297.out BK296.out⟩, ⟨ts56_ BK297.out⟩, ⟨ts6_ HI0.out NB0_295.out NB0_296.out NB0_297.out⟩, ⟨ts30_ HK.out GW295.out GW296.out GW297.out⟩, ⟨ts28_ HB.out HI0.out GE295.out GE296.out GE297.out⟩⟩
    ·replace c66 := Bool.eq_false_iff.mpr c66
     subst c66
     rw [if_neg Bool.false_ne_true] at H
     have H' := Aside0.mk H
     clear H
     go_wp2
     go_meet
     case rel => exact ⟨_, (false), (s0_0), (s0_1), (s0_2), (s0_3), (s0_4), (s0_5), (s0_6), (s0_7), (0), ts36_, H', ⟨ts18_⟩, ⟨ts43_ NB295_297.out BK295.out⟩, ⟨ts43_ NB296_297.out BK296.out⟩, ⟨ts23_ BK297.out⟩, ⟨ts6_ HI0.out NB0_295.out NB0_296.out NB0_297.out⟩, ⟨ts30_ HK.out GW295.out GW296.out GW297.out⟩, ⟨ts28_ HB.out HI0.out GE295.out GE296.out GE297.out⟩⟩
   case rest =>
    clear HC54
    try clear c1
    try clear c2
    try clear p2
    try clear c3
    try clear c3b0
    try clear c3b1
    try clear c4
    try clear c5
    try clear c6
    try clear c7
    try clear c8
    try clear c10
    try clear c11
    try clear c14
    try clear c15
    try clear c16
    try clear c27
    try clear c29
    try clear c29b0
    try clear c29b1
    try clear c36
    try clear c37
    try clear c40
    try clear c41
    try clear c42
    try clear c52
    try clear c57
    try clear c58
    try clear c61
    try clear c62
    try clear c63
    try clear c66
    try clear c69
    try clear c70
    try clear c71
    try clear hcz12_0
    try clear hcz12_1
    try clear hcz12_2
    try clear hcz12_3
    try clear hcz12_4
    try clear hcz12_5
    try clear hcz17_0
    try clear hcz17_1
    try clear hcz17_2
    try clear hcz17_3
    try clear hcz17_4
    try clear hcz18_0
    try clear hcz18_1
    try clear hcz18_2
    try clear hcz18_3
    try clear hcz18_4
    try clear hcz18_5
    try clear hcz20_0
    try clear hcz20_1
    try clear hcz20_2
    try clear hcz20_3
    try clear hcz20_4
    try clear hcz22_0
    try clear hcz22_1
    try clear hcz22_2
    try clear hcz22_3
    try clear hcz22_4
    try clear hcz24_0
    try clear hcz24_1
    try clear hcz24_2
    try clear hcz24_3
    try clear hcz24_4
    try clear hcz26_0
    try clear hcz26_1
    try clear hcz26_2
    try clear hcz26_3
    try clear hcz26_4
    try clear hcz28_0
    try clear hcz28_1
    try clear hcz28_2
    try clear hcz28_3
    try clear hcz28_4
    try clear hcz38_0
    try clear hcz38_1
    try clear hcz38_2
    try clear hcz38_3
    try clear hcz38_4
    try clear hcz38_5
    try clear hcz43_0
    try clear hcz43_1
    try clear hcz43_2
    try clear hcz43_3
    try clear hcz43_4
    try clear hcz44_0
    try clear hcz44_1
    try clear hcz44_2
    try clear hcz44_3
    try clear hcz44_4
    try clear hcz44_5
    try clear hcz46_0
    try clear hcz46_1
    try clear hcz46_2
    try clear hcz46_3
    try clear hcz46_4
    try clear hcz49_0
    try clear hcz49_1
    try clear hcz49_2
    try clear hcz49_3
    try clear hcz49_4
    try clear hcz51_0
    try clear hcz51_1
    try clear hcz51_2
    try clear hcz51_3
    try clear hcz51_4
    try clear hcz53_0
    try clear hcz53_1
    try clear hcz53_2
    try clear hcz53_3
    try clear hcz53_4
    try clear hcz59_0
    try clear hcz59_1
    try clear hcz59_2
    try clear hcz59_3
    try clear hcz59_4
    try clear hcz59_5
    try clear hcz64_0
    try clear hcz64_1
    try clear hcz64_2
    try clear hcz64_3
    try clear hcz64_4
    try clear hcz65_0
    try clear hcz65_1
    try clear hcz65_2
    try clear hcz65_3
    try clear hcz65_4
    try clear hcz65_5
    try clear hcz72_0
    try clear hcz72_1
    try clear hcz72_2
    try clear hcz72_3
    try clear hcz72_4
    try clear hfz12_0
    try clear hfz12_1
    try clear hfz12_2
    try clear hfz12_3
    try clear hfz12_4
    try clear hfz12_5
    try clear hfz17_0
    try clear hfz17_1
    try clear hfz17_2
    try clear hfz17_3
    try clear hfz17_4
    try clear hfz18_0
    try clear hfz18_1
    try clear hfz18_2
    try clear hfz18_3
    try clear hfz18_4
    try clear hfz18_5
    try clear hfz20_0
    try clear hfz20_1
    try clear hfz20_2
    try clear hfz20_3
    try clear hfz20_4
    try clear hfz22_0
    try clear hfz22_1
    try clear hfz22_2
    try clear hfz22_3
    try clear hfz22_4
    try clear hfz24_0
    try clear hfz24_1
    try clear hfz24_2
    try clear hfz24_3
    try clear hfz24_4
    try clear hfz26_0
    try clear hfz26_1
    try clear hfz26_2
    try clear hfz26_3
    try clear hfz26_4
    try clear hfz28_0
    try clear hfz28_1
    try clear hfz28_2
    try clear hfz28_3
    try clear hfz28_4
    try clear hfz38_0
    try clear hfz38_1
    try clear hfz38_2
    try clear hfz38_3
    try clear hfz38_4
    try clear hfz38_5
    try clear hfz43_0
    try clear hfz43_1
    try clear hfz43_2
    try clear hfz43_3
    try clear hfz43_4
    try clear hfz44_0
    try clear hfz44_1
    try clear hfz44_2
    try clear hfz44_3
    try clear hfz44_4
    try clear hfz44_5
    try clear hfz46_0
    try clear hfz46_1
    try clear hfz46_2
    try clear hfz46_3
    try clear hfz46_4
    try clear hfz49_0
    try clear hfz49_1
    try clear hfz49_2
    try clear hfz49_3
    try clear hfz49_4
    try clear hfz51_0
    try clear hfz51_1
    try clear hfz51_2
    try clear hfz51_3
    try clear hfz51_4
    try clear hfz53_0
    try clear hfz53_1
    try clear hfz53_2
    try clear hfz53_3
    try clear hfz53_4
    try clear hfz59_0
    try clear hfz59_1
    try clear hfz59_2
    try clear hfz59_3
    try clear hfz59_4
    try clear hfz59_5
    try clear hfz64_0
    try clear hfz64_1
    try clear hfz64_2
    try clear hfz64_3
    try clear hfz64_4
    try clear hfz65_0
    try clear hfz65_1
    try clear hfz65_2
    try clear hfz65_3
    try clear hfz65_4
    try clear hfz65_5
    try clear hfz72_0
    try clear hfz72_1
    try clear hfz72_2
    try clear hfz72_3
    try clear hfz72_4
    obtain ⟨kq, x6_53, x1000_53, x1001_53, x1002_53, x1003_53, x1004_53, x1005_53, x1006_53, x1007_53, x298001_53, rfl, HA, HJ53, BK295, BK296, BK297, HI0, HK, HB⟩ := hcut
    cases kq with
    | zero => exact absurd HA.out (by simp [cupelref20_reader_instr.j0])
    | succ kj53 =>
     have H := HA.out
     clear HA
     simp only [cupelref20_reader_instr.j0] at H
     have HC73 := Aside0.mk H
     clear H
     have hnb74 := NB295_296.out
     have hnc74 := NB296_295.out
     have hnb75 := NB295_297.out
     have hnc75 := NB297_295.out
     have hnb76 := NB295_0.out
     have hnc76 := NB0_295.out
     have hcz77_0 : wc.cell? ⟨gb295, 0, none⟩ = some (.int .i64 a1_0) := (blk_cell BK295.out 0).trans rfl
     have hcz77_1 : wc.cell? ⟨gb295, 1, none⟩ = some (.string a1_1) := (blk_cell BK295.out 1).trans rfl
     have hcz77_2 : wc.cell? ⟨gb295, 2, none⟩ = some (.bool a1_2) := (blk_cell BK295.out 2).trans rfl
     have hcz77_3 : wc.cell? ⟨gb295, 3, none⟩ = some (.bool a1_3) := (blk_cell BK295.out 3).trans rfl
     have hcz77_4 : wc.cell? ⟨gb295, 4, none⟩ = some (.bool a1_4) := (blk_cell BK295.out 4).trans rfl
     have hcz77_5 : wc.cell? ⟨gb295, 5, none⟩ = some (.int .i64 a1_5) := (blk_cell BK295.out 5).trans rfl
     have hfz77_0 := blk_frozen BK295.out 0
     have hfz77_1 := blk_frozen BK295.out 1
     have hfz77_2 := blk_frozen BK295.out 2
     have hfz77_3 := blk_frozen BK295.out 3
     have hfz77_4 := blk_frozen BK295.out 4
     have hfz77_5 := blk_frozen BK295.out 5
     go_upto_if 38 with (fail)
     go_cut [6] (fun v6 wc => ∃ (kq : Nat) (x6_72 : Bool) (x1000_72 : ByteArray) (x1001_72 : Int) (x1002_72 : Int) (x1003_72 : Int) (x1004_72 : ByteArray) (x1005_72 : Int) (x1006_72 : Bool) (x1007_72 : Int) (x298002_72 : Int), v6 = .bool x6_72 ∧ Aside0 (cupelref20_reader_instr.j1 kq x6_72 x1000_72 x1001_72 x1002_72 x1003_72 x1004_72 x1005_72 x1006_72 x1007_72 a1_0 a1_1 a1_2 a1_3 a1_4 a1_5 a1_0 x298001_53 x298002_72 0 0 = some (r1, r2, r3, r4, r5, r6, r7, r8, r9, r10, r11, r12, r13)) ∧ Aside0 (kq ≤ kj53) ∧ Aside0 (wc.heap[gb295]? = some (.cells #[.int .i64 a1_0, .string a1_1, .bool a1_2, .bool a1_3, .bool a1_4, .int .i64 a1_5] 96 (0, 0))) ∧ Aside0 (wc.heap[gb296]? = some (.cells #[.int .i64 0, .int .i64 0, .int .i64 0, .int .i64 0, .int .i64 0] 67 (0, 0))) ∧ Aside0 (wc.heap[gb297]? = some (.cells #[.int .i64 a1_0, .int .i64 x298001_53, .int .i64 x298002_72, .int .i64 0, .int .i64 0] 67 (0, 0))) ∧ Aside0 (IsS105 w0 wc g x1000_72 x1001_72 x1002_72 x1003_72 x1004_72 x1005_72 x1006_72 x1007_72) ∧ Aside0 (KeepBut w wc g none) ∧ Aside0 (Below w0.heap.size w0 wc))
     case first =>
      have H := HC73.out
      clear HC73
      by_cases c78 : a1_3 = true
      ·subst c78
       rw [if_pos rfl] at H
       replace H := Option.bind_eq_some_iff.mp H
       obtain ⟨⟨t383, t384, t385, t386, t387, t388, t389, t390⟩, A790, H⟩ := H
       try dsimp only at H
       have A79 := Aside0.mk A790
       clear A790
       replace H := Option.bind_eq_some_iff.mp H
       obtain ⟨⟨t391, t392, t393, t394, t395, t396, t397, t398, t399⟩, A800, H⟩ := H
       try dsimp only at H
       have A80 := Aside0.mk A800
       clear A800
       have H' := Aside0.mk H
       clear H
       go_wp2_with (first | ((with_reducible refine gate_callee (f := 83) rfl ?_); refine goesL_ (some 41) rfl rfl Tryd.func83 (by kernel_rfl) rfl #[.pointer (some ⟨g, 0, none⟩), .bool x6_53] rfl ts47_ ?_; (with_reducible refine (cupelref20_reader_comma.calls kj53 g x1000_53 x1001_53 x1002_53 x1003_53 x1004_53 x1005_53 x1006_53 x1007_53 x6_53 t383 t384 t385 t386 t387 t388 t389 t390 w0 _ ?side1 ?side2 A79.out).mono ?_); (case side1 => exact ts6_ HI0.out NB0_295.out NB0_296.out NB0_297.out); (case side2 => exact ts28_ HB.out HI0.out GE295.out GE296.out GE297.out); rintro e w81 ⟨rfl, hi, hb, hk⟩; refine ⟨_, rfl, ?_⟩; have n0_ := Aside0.mk (KeepBut.blk hk (g' := gb295) (o := .cells #[.int .i64 a1_0, .string a1_1, .bool a1_2, .bool true, .bool a1_4, .int .i64 a1_5] 96 (0, 0)) (ts29_ BK295.out) NB295_0.out (by simp)); have n1_ := Aside0.mk (KeepBut.blk hk (g' := gb296) (o := .cells #[.int .i64 0, .int .i64 0, .int .i64 0, .int .i64 0, .int .i64 0] 67 (0, 0)) (ts29_ BK296.out) NB296_0.out (by simp)); have n2_ := Aside0.mk (KeepBut.blk hk (g' := gb297) (o := .cells #[.int .i64 a1_0, .int .i64 x298001_53, .int .i64 0, .int .i64 0, .int .i64 0] 67 (0, 0)) (ts29_ BK297.out) NB297_0.out (by simp)); have n3_ := Aside0.mk (KeepBut.trans (ts30_ HK.out GW295.out GW296.out GW297.out) hk (.inl rfl)); have n4_ := Aside0.mk (hb); have n5_ := Aside0.mk (hi); clear BK295; clear BK296; clear BK297; clear HK; clear HB; clear HI0; have BK295 := n0_; have BK296 := n1_; have BK297 := n2_; have HK := n3_; have HB := n4_; have HI0 := n5_; clear n0_ n1_ n2_ n3_ n4_ n5_; (try clear hb); (try clear hb2); (try clear hk); (try clear hi)) | ((with_reducible refine gate_callee (f := 81) rfl ?_); refine goesL_ (some 43) rfl rfl Tryd.func81 (by kernel_rfl) rfl #[.pointer (some ⟨g, 0, none⟩)] rfl ts47_ ?_; (with_reducible refine (cupelref20_reader_register.calls kj53 g t383 t384 t385 t386 t387 t388 t389 t390 t391 t392 t393 t394 t395 t396 t397 t398 t399 w0 _ ?side1 ?side2 A80.out).mono ?_); (case side1 => exact ts6_ HI0.out NB0_295.out NB0_296.out NB0_297.out); (case side2 => exact ts28_ HB.out HI0.out GE295.out GE296.out GE297.out); rintro e w82 ⟨rfl, hi, hb, hk⟩; refine ⟨_, rfl, ?_⟩; have n0_ := Aside0.mk (KeepBut.blk hk (g' := gb295) (o := .cells #[.int .i64 a1_0, .string a1_1, .bool a1_2, .bool true, .bool a1_4, .int .i64 a1_5] 96 (0, 0)) (ts29_ BK295.out) NB295_0.out (by simp)); have n1_ := Aside0.mk (KeepBut.blk hk (g' := gb296) (o := .cells #[.int .i64 0, .int .i64 0, .int .i64 0, .int .i64 0, .int .i64 0] 67 (0, 0)) (ts29_ BK296.out) NB296_0.out (by simp)); have n2_ := Aside0.mk (KeepBut.blk hk (g' := gb297) (o := .cells #[.int .i64 a1_0, .int .i64 x298001_53, .int .i64 0, .int .i64 0, .int .i64 0] 67 (0, 0)) (ts29_ BK297.out) NB297_0.out (by simp)); have n3_ := Aside0.mk (KeepBut.trans (ts30_ HK.out GW295.out GW296.out GW297.out) hk (.inl rfl)); have n4_ := Aside0.mk (hb); have n5_ := Aside0.mk (hi); clear BK295; clear BK296; clear BK297; clear HK; clear HB; clear HI0; have BK295 := n0_; have BK296 := n1_; have BK297 := n2_; have HK := n3_; have HB := n4_; have HI0 := n5_; clear n0_ n1_ n2_ n3_ n4_ n5_; (try clear hb); (try clear hb2); (try clear hk); (try clear hi); have hnb83 := NB297_295.out; have hnc83 := NB295_297.out; have hnb84 := NB297_296.out; have hnc84 := NB296_297.out; have hnb85 := NB297_0.out; have hnc85 := NB0_297.out; have hcz86_0 : w82.cell? ⟨gb297, 0, none⟩ = some (.int .i64 a1_0) := (blk_cell BK297.out 0).trans rfl; have hcz86_1 : w82.cell? ⟨gb297, 1, none⟩ = some (.int .i64 x298001_53) := (blk_cell BK297.out 1).trans rfl; have hcz86_2 : w82.cell? ⟨gb297, 2, none⟩ = some (.int .i64 0) := (blk_cell BK297.out 2).trans rfl; have hcz86_3 : w82.cell? ⟨gb297, 3, none⟩ = some (.int .i64 0) := (blk_cell BK297.out 3).trans rfl; have hcz86_4 : w82.cell? ⟨gb297, 4, none⟩ = some (.int .i64 0) := (blk_cell BK297.out 4).trans rfl; have hfz86_0 := blk_frozen BK297.out 0; have hfz86_1 := blk_frozen BK297.out 1; have hfz86_2 := blk_frozen BK297.out 2; have hfz86_3 := blk_frozen BK297.out 3; have hfz86_4 := blk_frozen BK297.out 4))
       go_meet
       case rel => exact ⟨_, (true), (t392), (t393), (t394), (t395), (t396), (t397), (t398), (t399), (t391), ts36_, H', ⟨ts34_ HJ53.out⟩, ⟨ts41_ NB295_297.out BK295.out⟩, ⟨ts41_ NB296_297.out BK296.out⟩, ⟨by (with_reducible repeat (first | refine blk_drewN ?_ _ | refine blk_drew ?_ | refine blk_alloc ?_ _)); refine blk_put (cs := #[.int .i64 a1_0, .int .i64 x298001_53, .int .i64 0, .int .i64 0, .int .i64 0]) ?_ 2 _ rfl; (with_reducible repeat (first | refine blk_drewN ?_ _ | refine blk_drew ?_ | refine blk_alloc ?_ _)); exact BK297.out⟩, ⟨ts6_ HI0.out NB0_295.out NB0_296.out NB0_297.out⟩, ⟨ts30_ HK.out GW295.out GW296.out GW297.out⟩, ⟨ts28_ HB.out HI0.out GE295.out GE296.out GE297.out⟩⟩
      ·replace c78 := Bool.eq_false_iff.mpr c78
       subst c78
       rw [if_neg Bool.false_ne_true] at H
       have H' := Aside0.mk H
       clear H
       go_wp2
       go_meet
       case rel => exact ⟨_, (x6_53), (x1000_53), (x1001_53), (x1002_53), (x1003_53), (x1004_53), (x1005_53), (x1006_53), (x1007_53), (0), ts36_, H', ⟨ts34_ HJ53.out⟩, ⟨ts29_ BK295.out⟩, ⟨ts29_ BK296.out⟩, ⟨ts29_ BK297.out⟩, ⟨ts6_ HI0.out NB0_295.out NB0_296.out NB0_297.out⟩, ⟨ts30_ HK.out GW295.out GW296.out GW297.out⟩, ⟨ts28_ HB.out HI0.out GE295.out GE296.out GE297.out⟩⟩
     case rest =>
      clear HC73
      try clear c1
      try clear c2
      try clear p2
      try clear c3
      try clear c3b0
      try clear c3b1
      try clear c4
      try clear c5
      try clear c6
      try clear c7
      try clear c8
      try clear c10
      try clear c11
      try clear c14
      try clear c15
      try clear c16
      try clear c27
      try clear c29
      try clear c29b0
      try clear c29b1
      try clear c36
      try clear c37
      try clear c40
      try clear c41
      try clear c42
      try clear c52
      try clear c57
      try clear c58
      try clear c61
      try clear c62
      try clear c63
      try clear c66
      try clear c69
      try clear c70
      try clear c71
      try clear c73
      try clear c74
      try clear c75
      try clear c76
      try clear c78
      try clear c81
      try clear c82
      try clear c83
      try clear c84
      try clear c85
      try clear hcz12_0
      try clear hcz12_1
      try clear hcz12_2
      try clear hcz12_3
      try clear hcz12_4
      try clear hcz12_5
      try clear hcz17_0
      try clear hcz17_1
      try clear hcz17_2
      try clear hcz17_3
      try clear hcz17_4
      try clear hcz18_0
      try clear hcz18_1
      try clear hcz18_2
      try clear hcz18_3
      try clear hcz18_4
      try clear hcz18_5
      try clear hcz20_0
      try clear hcz20_1
      try clear hcz20_2
      try clear hcz20_3
      try clear hcz20_4
      try clear hcz22_0
      try clear hcz22_1
      try clear hcz22_2
      try clear hcz22_3
      try clear hcz22_4
      try clear hcz24_0
      try clear hcz24_1
      try clear hcz24_2
      try clear hcz24_3
      try clear hcz24_4
      try clear hcz26_0
      try clear hcz26_1
      try clear hcz26_2
      try clear hcz26_3
      try clear hcz26_4
      try clear hcz28_0
      try clear hcz28_1
      try clear hcz28_2
      try clear hcz28_3
      try clear hcz28_4
      try clear hcz38_0
      try clear hcz38_1
      try clear hcz38_2
      try clear hcz38_3
      try clear hcz38_4
      try clear hcz38_5
      try clear hcz43_0
      try clear hcz43_1
      try clear hcz43_2
      try clear hcz43_3
      try clear hcz43_4
      try clear hcz44_0
      try clear hcz44_1
      try clear hcz44_2
      try clear hcz44_3
      try clear hcz44_4
      try clear hcz44_5
      try clear hcz46_0
      try clear hcz46_1
      try clear hcz46_2
      try clear hcz46_3
      try clear hcz46_4
      try clear hcz49_0
      try clear hcz49_1
      try clear hcz49_2
      try clear hcz49_3
      try clear hcz49_4
      try clear hcz51_0
      try clear hcz51_1
      try clear hcz51_2
      try clear hcz51_3
      try clear hcz51_4
      try clear hcz53_0
      try clear hcz53_1
      try clear hcz53_2
      try clear hcz53_3
      try clear hcz53_4
      try clear hcz59_0
      try clear hcz59_1
      try clear hcz59_2
      try clear hcz59_3
      try clear hcz59_4
      try clear hcz59_5
      try clear hcz64_0
      try clear hcz64_1
      try clear hcz64_2
      try clear hcz64_3
      try clear hcz64_4
      try clear hcz65_0
      try clear hcz65_1
      try clear hcz65_2
      try clear hcz65_3
      try clear hcz65_4
      try clear hcz65_5
      try clear hcz72_0
      try clear hcz72_1
      try clear hcz72_2
      try clear hcz72_3
      try clear hcz72_4
      try clear hcz77_0
      try clear hcz77_1
      try clear hcz77_2
      try clear hcz77_3
      try clear hcz77_4
      try clear hcz77_5
      try clear hcz86_0
      try clear hcz86_1
      try clear hcz86_2
      try clear hcz86_3
      try clear hcz86_4
      try clear hfz12_0
      try clear hfz12_1
      try clear hfz12_2
      try clear hfz12_3
      try clear hfz12_4
      try clear hfz12_5
      try clear hfz17_0
      try clear hfz17_1
      try clear hfz17_2
      try clear hfz17_3
      try clear hfz17_4
      try clear hfz18_0
      try clear hfz18_1
      try clear hfz18_2
      try clear hfz18_3
      try clear hfz18_4
      try clear hfz18_5
      try clear hfz20_0
      try clear hfz20_1
      try clear hfz20_2
      try clear hfz20_3
      try clear hfz20_4
      try clear hfz22_0
      try clear hfz22_1
      try clear hfz22_2
      try clear hfz22_3
      try clear hfz22_4
      try clear hfz24_0
      try clear hfz24_1
      try clear hfz24_2
      try clear hfz24_3
      try clear hfz24_4
      try clear hfz26_0
      try clear hfz26_1
      try clear hfz26_2
      try clear hfz26_3
      try clear hfz26_4
      try clear hfz28_0
      try clear hfz28_1
      try clear hfz28_2
      try clear hfz28_3
      try clear hfz28_4
      try clear hfz38_0
      try clear hfz38_1
      try clear hfz38_2
      try clear hfz38_3
      try clear hfz38_4
      try clear hfz38_5
      try clear hfz43_0
      try clear hfz43_1
      try clear hfz43_2
      try clear hfz43_3
      try clear hfz43_4
      try clear hfz44_0
      try clear hfz44_1
      try clear hfz44_2
      try clear hfz44_3
      try clear hfz44_4
      try clear hfz44_5
      try clear hfz46_0
      try clear hfz46_1
      try clear hfz46_2
      try clear hfz46_3
      try clear hfz46_4
      try clear hfz49_0
      try clear hfz49_1
      try clear hfz49_2
      try clear hfz49_3
      try clear hfz49_4
      try clear hfz51_0
      try clear hfz51_1
      try clear hfz51_2
      try clear hfz51_3
      try clear hfz51_4
      try clear hfz53_0
      try clear hfz53_1
      try clear hfz53_2
      try clear hfz53_3
      try clear hfz53_4
      try clear hfz59_0
      try clear hfz59_1
      try clear hfz59_2
      try clear hfz59_3
      try clear hfz59_4
      try clear hfz59_5
      try clear hfz64_0
      try clear hfz64_1
      try clear hfz64_2
      try clear hfz64_3
      try clear hfz64_4
      try clear hfz65_0
      try clear hfz65_1
      try clear hfz65_2
      try clear hfz65_3
      try clear hfz65_4
      try clear hfz65_5
      try clear hfz72_0
      try clear hfz72_1
      try clear hfz72_2
      try clear hfz72_3
      try clear hfz72_4
      try clear hfz77_0
      try clear hfz77_1
      try clear hfz77_2
      try clear hfz77_3
      try clear hfz77_4
      try clear hfz77_5
      try clear hfz86_0
      try clear hfz86_1
      try clear hfz86_2
      try clear hfz86_3
      try clear hfz86_4
      try clear p2
      obtain ⟨kq, x6_72, x1000_72, x1001_72, x1002_72, x1003_72, x1004_72, x1005_72, x1006_72, x1007_72, x298002_72, rfl, HA, HJ72, BK295, BK296, BK297, HI0, HK, HB⟩ := hcut
      cases kq with
      | zero => exact absurd HA.out (by simp [cupelref20_reader_instr.j1])
      | succ kj72 =>
       have H := HA.out
       clear HA
       simp only [cupelref20_reader_instr.j1] at H
       have HC87 := Aside0.mk H
       clear H
       have hnb88 := NB295_296.out
       have hnc88 := NB296_295.out
       have hnb89 := NB295_297.out
       have hnc89 := NB297_295.out
       have hnb90 := NB295_0.out
       have hnc90 := NB0_295.out
       have hcz91_0 : wc.cell? ⟨gb295, 0, none⟩ = some (.int .i64 a1_0) := (blk_cell BK295.out 0).trans rfl
       have hcz91_1 : wc.cell? ⟨gb295, 1, none⟩ = some (.string a1_1) := (blk_cell BK295.out 1).trans rfl
       have hcz91_2 : wc.cell? ⟨gb295, 2, none⟩ = some (.bool a1_2) := (blk_cell BK295.out 2).trans rfl
       have hcz91_3 : wc.cell? ⟨gb295, 3, none⟩ = some (.bool a1_3) := (blk_cell BK295.out 3).trans rfl
       have hcz91_4 : wc.cell? ⟨gb295, 4, none⟩ = some (.bool a1_4) := (blk_cell BK295.out 4).trans rfl
       have hcz91_5 : wc.cell? ⟨gb295, 5, none⟩ = some (.int .i64 a1_5) := (blk_cell BK295.out 5).trans rfl
       have hfz91_0 := blk_frozen BK295.out 0
       have hfz91_1 := blk_frozen BK295.out 1
       have hfz91_2 := blk_frozen BK295.out 2
       have hfz91_3 := blk_frozen BK295.out 3
       have hfz91_4 := blk_frozen BK295.out 4
       have hfz91_5 := blk_frozen BK295.out 5
       go_upto_if 46 with (fail)
       go_cut [6] (fun v6 wc => ∃ (kq : Nat) (x6_86 : Bool) (x1000_86 : ByteArray) (x1001_86 : Int) (x1002_86 : Int) (x1003_86 : Int) (x1004_86 : ByteArray) (x1005_86 : Int) (x1006_86 : Bool) (x1007_86 : Int) (x298003_86 : Int), v6 = .bool x6_86 ∧ Aside0 (cupelref20_reader_instr.j2 kq x6_86 x1000_86 x1001_86 x1002_86 x1003_86 x1004_86 x1005_86 x1006_86 x1007_86 a1_0 a1_1 a1_2 a1_3 a1_4 a1_5 a1_0 x298001_53 x298002_72 x298003_86 0 = some (r1, r2, r3, r4, r5, r6, r7, r8, r9, r10, r11, r12, r13)) ∧ Aside0 (kq ≤ kj72) ∧ Aside0 (wc.heap[gb295]? = some (.cells #[.int .i64 a1_0, .string a1_1, .bool a1_2, .bool a1_3, .bool a1_4, .int .i64 a1_5] 96 (0, 0))) ∧ Aside0 (wc.heap[gb296]? = some (.cells #[.int .i64 0, .int .i64 0, .int .i64 0, .int .i64 0, .int .i64 0] 67 (0, 0))) ∧ Aside0 (wc.heap[gb297]? = some (.cells #[.int .i64 a1_0, .int .i64 x298001_53, .int .i64 x298002_72, .int .i64 x298003_86, .int .i64 0] 67 (0, 0))) ∧ Aside0 (IsS105 w0 wc g x1000_86 x1001_86 x1002_86 x1003_86 x1004_86 x1005_86 x1006_86 x1007_86) ∧ Aside0 (KeepBut w wc g none) ∧ Aside0 (Below w0.heap.size w0 wc))
       case first =>
        have H := HC87.out
        clear HC87
        by_cases c92 : a1_4 = true
        ·subst c92
         rw [if_pos rfl] at H
         replace H := Option.bind_eq_some_iff.mp H
         obtain ⟨⟨t400, t401, t402, t403, t404, t405, t406, t407⟩, A930, H⟩ := H
         try dsimp only at H
         have A93 := Aside0.mk A930
         clear A930
         replace H := Option.bind_eq_some_iff.mp H
         obtain ⟨⟨t408, t409, t410, t411, t412, t413, t414, t415, t416⟩, A940, H⟩ := H
         try dsimp only at H
         have A94 := Aside0.mk A940
         clear A940
         have H' := Aside0.mk H
         clear H
         go_wp2_with (first | ((with_reducible refine gate_callee (f := 83) rfl ?_); refine goesL_ (some 49) rfl rfl Tryd.func83 (by kernel_rfl) rfl #[.pointer (some ⟨g, 0, none⟩), .bool x6_72] rfl ts47_ ?_; (with_reducible refine (cupelref20_reader_comma.calls kj72 g x1000_72 x1001_72 x1002_72 x1003_72 x1004_72 x1005_72 x1006_72 x1007_72 x6_72 t400 t401 t402 t403 t404 t405 t406 t407 w0 _ ?side1 ?side2 A93.out).mono ?_); (case side1 => exact ts6_ HI0.out NB0_295.out NB0_296.out NB0_297.out); (case side2 => exact ts28_ HB.out HI0.out GE295.out GE296.out GE297.out); rintro e w95 ⟨rfl, hi, hb, hk⟩; refine ⟨_, rfl, ?_⟩; have n0_ := Aside0.mk (KeepBut.blk hk (g' := gb295) (o := .cells #[.int .i64 a1_0, .string a1_1, .bool a1_2, .bool a1_3, .bool true, .int .i64 a1_5] 96 (0, 0)) (ts29_ BK295.out) NB295_0.out (by simp)); have n1_ := Aside0.mk (KeepBut.blk hk (g' := gb296) (o := .cells #[.int .i64 0, .int .i64 0, .int .i64 0, .int .i64 0, .int .i64 0] 67 (0, 0)) (ts29_ BK296.out) NB296_0.out (by simp)); have n2_ := Aside0.mk (KeepBut.blk hk (g' := gb297) (o := .cells #[.int .i64 a1_0, .int .i64 x298001_53, .int .i64 x298002_72, .int .i64 0, .int .i64 0] 67 (0, 0)) (ts29_ BK297.out) NB297_0.out (by simp)); have n3_ := Aside0.mk (KeepBut.trans (ts30_ HK.out GW295.out GW296.out GW297.out) hk (.inl rfl)); have n4_ := Aside0.mk (hb); have n5_ := Aside0.mk (hi); clear BK295; clear BK296; clear BK297; clear HK; clear HB; clear HI0; have BK295 := n0_; have BK296 := n1_; have BK297 := n2_; have HK := n3_; have HB := n4_; have HI0 := n5_; clear n0_ n1_ n2_ n3_ n4_ n5_; (try clear hb); (try clear hb2); (try clear hk); (try clear hi)) | ((with_reducible refine gate_callee (f := 81) rfl ?_); refine goesL_ (some 51) rfl rfl Tryd.func81 (by kernel_rfl) rfl #[.pointer (some ⟨g, 0, none⟩)] rfl ts47_ ?_; (with_reducible refine (cupelref20_reader_register.calls kj72 g t400 t401 t402 t403 t404 t405 t406 t407 t408 t409 t410 t411 t412 t413 t414 t415 t416 w0 _ ?side1 ?side2 A94.out).mono ?_); (case side1 => exact ts6_ HI0.out NB0_295.out NB0_296.out NB0_297.out); (case side2 => exact ts28_ HB.out HI0.out GE295.out GE296.out GE297.out); rintro e w96 ⟨rfl, hi, hb, hk⟩; refine ⟨_, rfl, ?_⟩; have n0_ := Aside0.mk (KeepBut.blk hk (g' := gb295) (o := .cells #[.int .i64 a1_0, .string a1_1, .bool a1_2, .bool a1_3, .bool true, .int .i64 a1_5] 96 (0, 0)) (ts29_ BK295.out) NB295_0.out (by simp)); have n1_ := Aside0.mk (KeepBut.blk hk (g' := gb296) (o := .cells #[.int .i64 0, .int .i64 0, .int .i64 0, .int .i64 0, .int .i64 0] 67 (0, 0)) (ts29_ BK296.out) NB296_0.out (by simp)); have n2_ := Aside0.mk (KeepBut.blk hk (g' := gb297) (o := .cells #[.int .i64 a1_0, .int .i64 x298001_53, .int .i64 x298002_72, .int .i64 0, .int .i64 0] 67 (0, 0)) (ts29_ BK297.out) NB297_0.out (by simp)); have n3_ := Aside0.mk (KeepBut.trans (ts30_ HK.out GW295.out GW296.out GW297.out) hk (.inl rfl)); have n4_ := Aside0.mk (hb); have n5_ := Aside0.mk (hi); clear BK295; clear BK296; clear BK297; clear HK; clear HB; clear HI0; have BK295 := n0_; have BK296 := n1_; have BK297 := n2_; have HK := n3_; have HB := n4_; have HI0 := n5_; clear n0_ n1_ n2_ n3_ n4_ n5_; (try clear hb); (try clear hb2); (try clear hk); (try clear hi); have hnb97 := NB297_295.out; have hnc97 := NB295_297.out; have hnb98 := NB297_296.out; have hnc98 := NB296_297.out; have hnb99 := NB297_0.out; have hnc99 := NB0_297.out; have hcz100_0 : w96.cell? ⟨gb297, 0, none⟩ = some (.int .i64 a1_0) := (blk_cell BK297.out 0).trans rfl; have hcz100_1 : w96.cell? ⟨gb297, 1, none⟩ = some (.int .i64 x298001_53) := (blk_cell BK297.out 1).trans rfl; have hcz100_2 : w96.cell? ⟨gb297, 2, none⟩ = some (.int .i64 x298002_72) := (blk_cell BK297.out 2).trans rfl; have hcz100_3 : w96.cell? ⟨gb297, 3, none⟩ = some (.int .i64 0) := (blk_cell BK297.out 3).trans rfl; have hcz100_4 : w96.cell? ⟨gb297, 4, none⟩ = some (.int .i64 0) := (blk_cell BK297.out 4).trans rfl; have hfz100_0 := blk_frozen BK297.out 0; have hfz100_1 := blk_frozen BK297.out 1; have hfz100_2 := blk_frozen BK297.out 2; have hfz100_3 := blk_frozen BK297.out 3; have hfz100_4 := blk_frozen BK297.out 4))
         go_meet
         case rel => exact ⟨_, (true), (t409), (t410), (t411), (t412), (t413), (t414), (t415), (t416), (t408), ts36_, H', ⟨ts25_ HJ53.out HJ72.out⟩, ⟨ts41_ NB295_297.out BK295.out⟩, ⟨ts41_ NB296_297.out BK296.out⟩, ⟨by (with_reducible repeat (first | refine blk_drewN ?_ _ | refine blk_drew ?_ | refine blk_alloc ?_ _)); refine blk_put (cs := #[.int .i64 a1_0, .int .i64 x298001_53, .int .i64 x298002_72, .int .i64 0, .int .i64 0]) ?_ 3 _ rfl; (with_reducible repeat (first | refine blk_drewN ?_ _ | refine blk_drew ?_ | refine blk_alloc ?_ _)); exact BK297.out⟩, ⟨ts6_ HI0.out NB0_295.out NB0_296.out NB0_297.out⟩, ⟨ts30_ HK.out GW295.out GW296.out GW297.out⟩, ⟨ts28_ HB.out HI0.out GE295.out GE296.out GE297.out⟩⟩
        ·replace c92 := Bool.eq_false_iff.mpr c92
         subst c92
         rw [if_neg Bool.false_ne_true] at H
         have H' := Aside0.mk H
         clear H
         go_wp2
         go_meet
         case rel => exact ⟨_, (x6_72), (x1000_72), (x1001_72), (x1002_72), (x1003_72), (x1004_72), (x1005_72), (x1006_72), (x1007_72), (0), ts36_, H', ⟨ts25_ HJ53.out HJ72.out⟩, ⟨ts29_ BK295.out⟩, ⟨ts29_ BK296.out⟩, ⟨ts29_ BK297.out⟩, ⟨ts6_ HI0.out NB0_295.out NB0_296.out NB0_297.out⟩, ⟨ts30_ HK.out GW295.out GW296.out GW297.out⟩, ⟨ts28_ HB.out HI0.out GE295.out GE296.out GE297.out⟩⟩
       case rest =>
        clear HC87
        try clear c1
        try clear c2
        try clear p2
        try clear c3
        try clear c3b0
        try clear c3b1
        try clear c4
        try clear c5
        try clear c6
        try clear c7
        try clear c8
        try clear c9
        try clear c10
        try clear c11
        try clear c14
        try clear c15
        try clear c16
        try clear c27
        try clear c29
        try clear c29b0
        try clear c29b1
        try clear c36
        try clear c37
        try clear c40
        try clear c41
        try clear c42
        try clear c52
        try clear c57
        try clear c58
        try clear c61
        try clear c62
        try clear c63
        try clear c66
        try clear c69
        try clear c70
        try clear c71
        try clear c73
        try clear c74
        try clear c75
        try clear c76
        try clear c78
        try clear c81
        try clear c82
        try clear c83
        try clear c84
        try clear c85
        try clear c88
        try clear c89
        try clear c90
        try clear c92
        try clear c97
        try clear c98
        try clear c99
        try clear hcz100_0
        try clear hcz100_1
        try clear hcz100_2
        try clear hcz100_3
        try clear hcz100_4
        try clear hcz12_0
        try clear hcz12_1
        try clear hcz12_2
        try clear hcz12_3
        try clear hcz12_4
        try clear hcz12_5
        try clear hcz17_0
        try clear hcz17_1
        try clear hcz17_2
        try clear hcz17_3
        try clear hcz17_4
        try clear hcz18_0
        try clear hcz18_1
        try clear hcz18_2
        try clear hcz18_3
        try clear hcz18_4
        try clear hcz18_5
        try clear hcz20_0
        try clear hcz20_1
        try clear hcz20_2
        try clear hcz20_3
        try clear hcz20_4
        try clear hcz22_0
        try clear hcz22_1
        try clear hcz22_2
        try clear hcz22_3
        try clear hcz22_4
        try clear hcz24_0
        try clear hcz24_1
        try clear hcz24_2
        try clear hcz24_3
        try clear hcz24_4
        try clear hcz26_0
        try clear hcz26_1
        try clear hcz26_2
        try clear hcz26_3
        try clear hcz26_4
        try clear hcz28_0
        try clear hcz28_1
        try clear hcz28_2
        try clear hcz28_3
        try clear hcz28_4
        try clear hcz38_0
        try clear hcz38_1
        try clear hcz38_2
        try clear hcz38_3
        try clear hcz38_4
        try clear hcz38_5
        try clear hcz43_0
        try clear hcz43_1
        try clear hcz43_2
        try clear hcz43_3
        try clear hcz43_4
        try clear hcz44_0
        try clear hcz44_1
        try clear hcz44_2
        try clear hcz44_3
        try clear hcz44_4
        try clear hcz44_5
        try clear hcz46_0
        try clear hcz46_1
        try clear hcz46_2
        try clear hcz46_3
        try clear hcz46_4
        try clear hcz49_0
        try clear hcz49_1
        try clear hcz49_2
        try clear hcz49_3
        try clear hcz49_4
        try clear hcz51_0
        try clear hcz51_1
        try clear hcz51_2
        try clear hcz51_3
        try clear hcz51_4
        try clear hcz53_0
        try clear hcz53_1
        try clear hcz53_2
        try clear hcz53_3
        try clear hcz53_4
        try clear hcz59_0
        try clear hcz59_1
        try clear hcz59_2
        try clear hcz59_3
        try clear hcz59_4
        try clear hcz59_5
        try clear hcz64_0
        try clear hcz64_1
        try clear hcz64_2
        try clear hcz64_3
        try clear hcz64_4
        try clear hcz65_0
        try clear hcz65_1
        try clear hcz65_2
        try clear hcz65_3
        try clear hcz65_4
        try clear hcz65_5
        try clear hcz72_0
        try clear hcz72_1
        try clear hcz72_2
        try clear hcz72_3
        try clear hcz72_4
        try clear hcz77_0
        try clear hcz77_1
        try clear hcz77_2
        try clear hcz77_3
        try clear hcz77_4
        try clear hcz77_5
        try clear hcz86_0
        try clear hcz86_1
        try clear hcz86_2
        try clear hcz86_3
        try clear hcz86_4
        try clear hcz91_0
        try clear hcz91_1
        try clear hcz91_2
        try clear hcz91_3
        try clear hcz91_4
        try clear hcz91_5
        try clear hfz100_0
        try clear hfz100_1
        try clear hfz100_2
        try clear hfz100_3
        try clear hfz100_4
        try clear hfz12_0
        try clear hfz12_1
        try clear hfz12_2
        try clear hfz12_3
        try clear hfz12_4
        try clear hfz12_5
        try clear hfz17_0
        try clear hfz17_1
        try clear hfz17_2
        try clear hfz17_3
        try clear hfz17_4
        try clear hfz18_0
        try clear hfz18_1
        try clear hfz18_2
        try clear hfz18_3
        try clear hfz18_4
        try clear hfz18_5
        try clear hfz20_0
        try clear hfz20_1
        try clear hfz20_2
        try clear hfz20_3
        try clear hfz20_4
        try clear hfz22_0
        try clear hfz22_1
        try clear hfz22_2
        try clear hfz22_3
        try clear hfz22_4
        try clear hfz24_0
        try clear hfz24_1
        try clear hfz24_2
        try clear hfz24_3
        try clear hfz24_4
        try clear hfz26_0
        try clear hfz26_1
        try clear hfz26_2
        try clear hfz26_3
        try clear hfz26_4
        try clear hfz28_0
        try clear hfz28_1
        try clear hfz28_2
        try clear hfz28_3
        try clear hfz28_4
        try clear hfz38_0
        try clear hfz38_1
        try clear hfz38_2
        try clear hfz38_3
        try clear hfz38_4
        try clear hfz38_5
        try clear hfz43_0
        try clear hfz43_1
        try clear hfz43_2
        try clear hfz43_3
        try clear hfz43_4
        try clear hfz44_0
        try clear hfz44_1
        try clear hfz44_2
        try clear hfz44_3
        try clear hfz44_4
        try clear hfz44_5
        try clear hfz46_0
        try clear hfz46_1
        try clear hfz46_2
        try clear hfz46_3
        try clear hfz46_4
        try clear hfz49_0
        try clear hfz49_1
        try clear hfz49_2
        try clear hfz49_3
        try clear hfz49_4
        try clear hfz51_0
        try clear hfz51_1
        try clear hfz51_2
        try clear hfz51_3
        try clear hfz51_4
        try clear hfz53_0
        try clear hfz53_1
        try clear hfz53_2
        try clear hfz53_3
        try clear hfz53_4
        try clear hfz59_0
        try clear hfz59_1
        try clear hfz59_2
        try clear hfz59_3
        try clear hfz59_4
        try clear hfz59_5
        try clear hfz64_0
        try clear hfz64_1
        try clear hfz64_2
        try clear hfz64_3
        try clear hfz64_4
        try clear hfz65_0
        try clear hfz65_1
        try clear hfz65_2
        try clear hfz65_3
        try clear hfz65_4
        try clear hfz65_5
        try clear hfz72_0
        try clear hfz72_1
        try clear hfz72_2
        try clear hfz72_3
        try clear hfz72_4
        try clear hfz77_0
        try clear hfz77_1
        try clear hfz77_2
        try clear hfz77_3
        try clear hfz77_4
        try clear hfz77_5
        try clear hfz86_0
        try clear hfz86_1
        try clear hfz86_2
        try clear hfz86_3
        try clear hfz86_4
        try clear hfz91_0
        try clear hfz91_1
        try clear hfz91_2
        try clear hfz91_3
        try clear hfz91_4
        try clear hfz91_5
        try clear p2
        obtain ⟨kq, x6_86, x1000_86, x1001_86, x1002_86, x1003_86, x1004_86, x1005_86, x1006_86, x1007_86, x298003_86, rfl, HA, HJ86, BK295, BK296, BK297, HI0, HK, HB⟩ := hcut
        cases kq with
        | zero => exact absurd HA.out (by simp [cupelref20_reader_instr.j2])
        | succ kj86 =>
         have H := HA.out
         clear HA
         simp only [cupelref20_reader_instr.j2] at H
         by_cases c101 : a1_5 = 0
         ·rw [if_pos c101] at H
          have c101b0 : (a1_5 == 0) = true := beq_iff_eq.mpr c101
          have c101b1 : (a1_5 != 0) = false := bne_eq_false_iff_eq.mpr c101
          clear c101
          replace H := Option.bind_eq_some_iff.mp H
          obtain ⟨⟨t417, t418, t419, t420, t421, t422, t423, t424⟩, A1020, H⟩ := H
          try dsimp only at H
          have A102 := Aside0.mk A1020
          clear A1020
          simp only [Option.some.injEq, Prod.mk.injEq] at H
          obtain ⟨rfl, rfl, rfl, rfl, rfl, rfl, rfl, rfl, rfl, rfl, rfl, rfl, rfl⟩ := H
          have hnb103 := NB295_296.out
          have hnc103 := NB296_295.out
          have hnb104 := NB295_297.out
          have hnc104 := NB297_295.out
          have hnb105 := NB295_0.out
          have hnc105 := NB0_295.out
          have hcz106_0 : wc.cell? ⟨gb295, 0, none⟩ = some (.int .i64 a1_0) := (blk_cell BK295.out 0).trans rfl
          have hcz106_1 : wc.cell? ⟨gb295, 1, none⟩ = some (.string a1_1) := (blk_cell BK295.out 1).trans rfl
          have hcz106_2 : wc.cell? ⟨gb295, 2, none⟩ = some (.bool a1_2) := (blk_cell BK295.out 2).trans rfl
          have hcz106_3 : wc.cell? ⟨gb295, 3, none⟩ = some (.bool a1_3) := (blk_cell BK295.out 3).trans rfl
          have hcz106_4 : wc.cell? ⟨gb295, 4, none⟩ = some (.bool a1_4) := (blk_cell BK295.out 4).trans rfl
          have hcz106_5 : wc.cell? ⟨gb295, 5, none⟩ = some (.int .i64 a1_5) := (blk_cell BK295.out 5).trans rfl
          have hfz106_0 := blk_frozen BK295.out 0
          have hfz106_1 := blk_frozen BK295.out 1
          have hfz106_2 := blk_frozen BK295.out 2
          have hfz106_3 := blk_frozen BK295.out 3
          have hfz106_4 := blk_frozen BK295.out 4
          have hfz106_5 := blk_frozen BK295.out 5
          go_wp2_with (first | ((with_reducible refine gate_callee (f := 69) rfl ?_); refine goesL_ (some 65) rfl rfl Tryd.func69 (by kernel_rfl) rfl #[.pointer (some ⟨g, 0, none⟩), .string (⟨#[59]⟩ : ByteArray)] rfl ts47_ ?_; (with_reducible refine (cupelref20_reader_want.calls kj86 g x1000_86 x1001_86 x1002_86 x1003_86 x1004_86 x1005_86 x1006_86 x1007_86 (⟨#[59]⟩ : ByteArray) t417 t418 t419 t420 t421 t422 t423 t424 w0 _ ?side1 ?side2 A102.out).mono ?_); (case side1 => exact ts6_ HI0.out NB0_295.out NB0_296.out NB0_297.out); (case side2 => exact ts28_ HB.out HI0.out GE295.out GE296.out GE297.out); rintro e w107 ⟨rfl, hi, hb, hk⟩; refine ⟨_, rfl, ?_⟩; have n0_ := Aside0.mk (KeepBut.blk hk (g' := gb295) (o := .cells #[.int .i64 a1_0, .string a1_1, .bool a1_2, .bool a1_3, .bool a1_4, .int .i64 a1_5] 96 (0, 0)) (ts29_ BK295.out) NB295_0.out (by simp)); have n1_ := Aside0.mk (KeepBut.blk hk (g' := gb296) (o := .cells #[.int .i64 0, .int .i64 0, .int .i64 0, .int .i64 0, .int .i64 0] 67 (0, 0)) (ts29_ BK296.out) NB296_0.out (by simp)); have n2_ := Aside0.mk (KeepBut.blk hk (g' := gb297) (o := .cells #[.int .i64 a1_0, .int .i64 x298001_53, .int .i64 x298002_72, .int .i64 x298003_86, .int .i64 0] 67 (0, 0)) (ts29_ BK297.out) NB297_0.out (by simp)); have n3_ := Aside0.mk (KeepBut.trans (ts30_ HK.out GW295.out GW296.out GW297.out) hk (.inl rfl)); have n4_ := Aside0.mk (hb); have n5_ := Aside0.mk (hi); clear BK295; clear BK296; clear BK297; clear HK; clear HB; clear HI0; have BK295 := n0_; have BK296 := n1_; have BK297 := n2_; have HK := n3_; have HB := n4_; have HI0 := n5_; clear n0_ n1_ n2_ n3_ n4_ n5_; (try clear hb); (try clear hb2); (try clear hk); (try clear hi); have hnb108 := NB297_296.out; have hnc108 := NB296_297.out; have hnb109 := NB297_0.out; have hnc109 := NB0_297.out; have hcz110_0 : w107.cell? ⟨gb297, 0, none⟩ = some (.int .i64 a1_0) := (blk_cell BK297.out 0).trans rfl; have hcz110_1 : w107.cell? ⟨gb297, 1, none⟩ = some (.int .i64 x298001_53) := (blk_cell BK297.out 1).trans rfl; have hcz110_2 : w107.cell? ⟨gb297, 2, none⟩ = some (.int .i64 x298002_72) := (blk_cell BK297.out 2).trans rfl; have hcz110_3 : w107.cell? ⟨gb297, 3, none⟩ = some (.int .i64 x298003_86) := (blk_cell BK297.out 3).trans rfl; have hcz110_4 : w107.cell? ⟨gb297, 4, none⟩ = some (.int .i64 0) := (blk_cell BK297.out 4).trans rfl; have hfz110_0 := blk_frozen BK297.out 0; have hfz110_1 := blk_frozen BK297.out 1; have hfz110_2 := blk_frozen BK297.out 2; have hfz110_3 := blk_frozen BK297.out 3; have hfz110_4 := blk_frozen BK297.out 4; have hnb111 := NB296_0.out; have hnc111 := NB0_296.out; have hcz112_0 : w107.cell? ⟨gb296, 0, none⟩ = some (.int .i64 0) := (blk_cell BK296.out 0).trans rfl; have hcz112_1 : w107.cell? ⟨gb296, 1, none⟩ = some (.int .i64 0) := (blk_cell BK296.out 1).trans rfl; have hcz112_2 : w107.cell? ⟨gb296, 2, none⟩ = some (.int .i64 0) := (blk_cell BK296.out 2).trans rfl; have hcz112_3 : w107.cell? ⟨gb296, 3, none⟩ = some (.int .i64 0) := (blk_cell BK296.out 3).trans rfl; have hcz112_4 : w107.cell? ⟨gb296, 4, none⟩ = some (.int .i64 0) := (blk_cell BK296.out 4).trans rfl; have hfz112_0 := blk_frozen BK296.out 0; have hfz112_1 := blk_frozen BK296.out 1; have hfz112_2 := blk_frozen BK296.out 2; have hfz112_3 := blk_frozen BK296.out 3; have hfz112_4 := blk_frozen BK296.out 4))
          refine bodyPost_ret (results_cell_row rfl _ _ gb296 67 #[.int .i64 a1_0, .int .i64 x298001_53, .int .i64 x298002_72, .int .i64 x298003_86, .int .i64 0] (0, 0) _ rfl (ts54_ BK296.out) Tryd.underlying67 rfl (by kernel_rfl)) rfl ?_
          exact ⟨ts9_, ts6_ HI0.out NB0_295.out NB0_296.out NB0_297.out, ts28_ HB.out HI0.out GE295.out GE296.out GE297.out, ts30_ HK.out GW295.out GW296.out GW297.out⟩
         ·rw [if_neg c101] at H
          have c101b0 : (a1_5 == 0) = false := beq_eq_false_iff_ne.mpr c101
          have c101b1 : (a1_5 != 0) = true := bne_iff_ne.mpr c101
          replace H := Option.bind_eq_some_iff.mp H
          obtain ⟨⟨t425, t426, t427, t428, t429, t430, t431, t432⟩, A1130, H⟩ := H
          try dsimp only at H
          have A113 := Aside0.mk A1130
          clear A1130
          replace H := Option.bind_eq_some_iff.mp H
          obtain ⟨⟨t433, t434, t435, t436, t437, t438, t439, t440, t441⟩, A1140, H⟩ := H
          try dsimp only at H
          have A114 := Aside0.mk A1140
          clear A1140
          replace H := Option.bind_eq_some_iff.mp H
          obtain ⟨⟨t442, t443, t444, t445, t446, t447, t448, t449⟩, A1150, H⟩ := H
          try dsimp only at H
          have A115 := Aside0.mk A1150
          clear A1150
          simp only [Option.some.injEq, Prod.mk.injEq] at H
          obtain ⟨rfl, rfl, rfl, rfl, rfl, rfl, rfl, rfl, rfl, rfl, rfl, rfl, rfl⟩ := H
          have hnb116 := NB295_296.out
          have hnc116 := NB296_295.out
          have hnb117 := NB295_297.out
          have hnc117 := NB297_295.out
          have hnb118 := NB295_0.out
          have hnc118 := NB0_295.out
          have hcz119_0 : wc.cell? ⟨gb295, 0, none⟩ = some (.int .i64 a1_0) := (blk_cell BK295.out 0).trans rfl
          have hcz119_1 : wc.cell? ⟨gb295, 1, none⟩ = some (.string a1_1) := (blk_cell BK295.out 1).trans rfl
          have hcz119_2 : wc.cell? ⟨gb295, 2, none⟩ = some (.bool a1_2) := (blk_cell BK295.out 2).trans rfl
          have hcz119_3 : wc.cell? ⟨gb295, 3, none⟩ = some (.bool a1_3) := (blk_cell BK295.out 3).trans rfl
          have hcz119_4 : wc.cell? ⟨gb295, 4, none⟩ = some (.bool a1_4) := (blk_cell BK295.out 4).trans rfl
          have hcz119_5 : wc.cell? ⟨gb295, 5, none⟩ = some (.int .i64 a1_5) := (blk_cell BK295.out 5).trans rfl
          have hfz119_0 := blk_frozen BK295.out 0
          have hfz119_1 := blk_frozen BK295.out 1
          have hfz119_2 := blk_frozen BK295.out 2
          have hfz119_3 := blk_frozen BK295.out 3
          have hfz119_4 := blk_frozen BK295.out 4
          have hfz119_5 := blk_frozen BK295.out 5
          go_wp2_with (first | ((with_reducible refine gate_callee (f := 83) rfl ?_); refine goesL_ (some 58) rfl rfl Tryd.func83 (by kernel_rfl) rfl #[.pointer (some ⟨g, 0, none⟩), .bool x6_86] rfl ts47_ ?_; (with_reducible refine (cupelref20_reader_comma.calls kj86 g x1000_86 x1001_86 x1002_86 x1003_86 x1004_86 x1005_86 x1006_86 x1007_86 x6_86 t425 t426 t427 t428 t429 t430 t431 t432 w0 _ ?side1 ?side2 A113.out).mono ?_); (case side1 => exact ts6_ HI0.out NB0_295.out NB0_296.out NB0_297.out); (case side2 => exact ts28_ HB.out HI0.out GE295.out GE296.out GE297.out); rintro e w120 ⟨rfl, hi, hb, hk⟩; refine ⟨_, rfl, ?_⟩; have n0_ := Aside0.mk (KeepBut.blk hk (g' := gb295) (o := .cells #[.int .i64 a1_0, .string a1_1, .bool a1_2, .bool a1_3, .bool a1_4, .int .i64 a1_5] 96 (0, 0)) (ts29_ BK295.out) NB295_0.out (by simp)); have n1_ := Aside0.mk (KeepBut.blk hk (g' := gb296) (o := .cells #[.int .i64 0, .int .i64 0, .int .i64 0, .int .i64 0, .int .i64 0] 67 (0, 0)) (ts29_ BK296.out) NB296_0.out (by simp)); have n2_ := Aside0.mk (KeepBut.blk hk (g' := gb297) (o := .cells #[.int .i64 a1_0, .int .i64 x298001_53, .int .i64 x298002_72, .int .i64 x298003_86, .int .i64 0] 67 (0, 0)) (ts29_ BK297.out) NB297_0.out (by simp)); have n3_ := Aside0.mk (KeepBut.trans (ts30_ HK.out GW295.out GW296.out GW297.out) hk (.inl rfl)); have n4_ := Aside0.mk (hb); have n5_ := Aside0.mk (hi); clear BK295; clear BK296; clear BK297; clear HK; clear HB; clear HI0; have BK295 := n0_; have BK296 := n1_; have BK297 := n2_; have HK := n3_; have HB := n4_; have HI0 := n5_; clear n0_ n1_ n2_ n3_ n4_ n5_; (try clear hb); (try clear hb2); (try clear hk); (try clear hi); have hcz121_0 : w120.cell? ⟨gb295, 0, none⟩ = some (.int .i64 a1_0) := (blk_cell BK295.out 0).trans rfl; have hcz121_1 : w120.cell? ⟨gb295, 1, none⟩ = some (.string a1_1) := (blk_cell BK295.out 1).trans rfl; have hcz121_2 : w120.cell? ⟨gb295, 2, none⟩ = some (.bool a1_2) := (blk_cell BK295.out 2).trans rfl; have hcz121_3 : w120.cell? ⟨gb295, 3, none⟩ = some (.bool a1_3) := (blk_cell BK295.out 3).trans rfl; have hcz121_4 : w120.cell? ⟨gb295, 4, none⟩ = some (.bool a1_4) := (blk_cell BK295.out 4).trans rfl; have hcz121_5 : w120.cell? ⟨gb295, 5, none⟩ = some (.int .i64 a1_5) := (blk_cell BK295.out 5).trans rfl; have hfz121_0 := blk_frozen BK295.out 0; have hfz121_1 := blk_frozen BK295.out 1; have hfz121_2 := blk_frozen BK295.out 2; have hfz121_3 := blk_frozen BK295.out 3; have hfz121_4 := blk_frozen BK295.out 4; have hfz121_5 := blk_frozen BK295.out 5) | ((with_reducible refine gate_callee (f := 70) rfl ?_); refine goesL_ (some 62) rfl rfl Tryd.func70 (by kernel_rfl) rfl #[.pointer (some ⟨g, 0, none⟩), .int .i64 a1_5] rfl ts47_ ?_; (with_reducible refine (cupelref20_reader_number.calls kj86 g t425 t426 t427 t428 t429 t430 t431 t432 a1_5 t433 t434 t435 t436 t437 t438 t439 t440 t441 w0 _ ?side1 ?side2 A114.out).mono ?_); (case side1 => exact ts6_ HI0.out NB0_295.out NB0_296.out NB0_297.out); (case side2 => exact ts28_ HB.out HI0.out GE295.out GE296.out GE297.out); rintro e w122 ⟨rfl, hi, hb, hk⟩; refine ⟨_, rfl, ?_⟩; have n0_ := Aside0.mk (KeepBut.blk hk (g' := gb295) (o := .cells #[.int .i64 a1_0, .string a1_1, .bool a1_2, .bool a1_3, .bool a1_4, .int .i64 a1_5] 96 (0, 0)) (ts29_ BK295.out) NB295_0.out (by simp)); have n1_ := Aside0.mk (KeepBut.blk hk (g' := gb296) (o := .cells #[.int .i64 0, .int .i64 0, .int .i64 0, .int .i64 0, .int .i64 0] 67 (0, 0)) (ts29_ BK296.out) NB296_0.out (by simp)); have n2_ := Aside0.mk (KeepBut.blk hk (g' := gb297) (o := .cells #[.int .i64 a1_0, .int .i64 x298001_53, .int .i64 x298002_72, .int .i64 x298003_86, .int .i64 0] 67 (0, 0)) (ts29_ BK297.out) NB297_0.out (by simp)); have n3_ := Aside0.mk (KeepBut.trans (ts30_ HK.out GW295.out GW296.out GW297.out) hk (.inl rfl)); have n4_ := Aside0.mk (hb); have n5_ := Aside0.mk (hi); clear BK295; clear BK296; clear BK297; clear HK; clear HB; clear HI0; have BK295 := n0_; have BK296 := n1_; have BK297 := n2_; have HK := n3_; have HB := n4_; have HI0 := n5_; clear n0_ n1_ n2_ n3_ n4_ n5_; (try clear hb); (try clear hb2); (try clear hk); (try clear hi); have hnb123 := NB297_296.out; have hnc123 := NB296_297.out; have hnb124 := NB297_0.out; have hnc124 := NB0_297.out; have hcz125_0 : w122.cell? ⟨gb297, 0, none⟩ = some (.int .i64 a1_0) := (blk_cell BK297.out 0).trans rfl; have hcz125_1 : w122.cell? ⟨gb297, 1, none⟩ = some (.int .i64 x298001_53) := (blk_cell BK297.out 1).trans rfl; have hcz125_2 : w122.cell? ⟨gb297, 2, none⟩ = some (.int .i64 x298002_72) := (blk_cell BK297.out 2).trans rfl; have hcz125_3 : w122.cell? ⟨gb297, 3, none⟩ = some (.int .i64 x298003_86) := (blk_cell BK297.out 3).trans rfl; have hcz125_4 : w122.cell? ⟨gb297, 4, none⟩ = some (.int .i64 0) := (blk_cell BK297.out 4).trans rfl; have hfz125_0 := blk_frozen BK297.out 0; have hfz125_1 := blk_frozen BK297.out 1; have hfz125_2 := blk_frozen BK297.out 2; have hfz125_3 := blk_frozen BK297.out 3; have hfz125_4 := blk_frozen BK297.out 4) | ((with_reducible refine gate_callee (f := 69) rfl ?_); refine goesL_ (some 65) rfl rfl Tryd.func69 (by kernel_rfl) rfl #[.pointer (some ⟨g, 0, none⟩), .string (⟨#[59]⟩ : ByteArray)] rfl ts47_ ?_; (with_reducible refine (cupelref20_reader_want.calls kj86 g t434 t435 t436 t437 t438 t439 t440 t441 (⟨#[59]⟩ : ByteArray) t442 t443 t444 t445 t446 t447 t448 t449 w0 _ ?side1 ?side2 A115.out).mono ?_); (case side1 => exact ts6_ HI0.out NB0_295.out NB0_296.out NB0_297.out); (case side2 => exact ts28_ HB.out HI0.out GE295.out GE296.out GE297.out); rintro e w126 ⟨rfl, hi, hb, hk⟩; refine ⟨_, rfl, ?_⟩; have n0_ := Aside0.mk (KeepBut.blk hk (g' := gb295) (o := .cells #[.int .i64 a1_0, .string a1_1, .bool a1_2, .bool a1_3, .bool a1_4, .int .i64 a1_5] 96 (0, 0)) (ts41_ NB295_297.out BK295.out) NB295_0.out (by simp)); have n1_ := Aside0.mk (KeepBut.blk hk (g' := gb296) (o := .cells #[.int .i64 0, .int .i64 0, .int .i64 0, .int .i64 0, .int .i64 0] 67 (0, 0)) (ts41_ NB296_297.out BK296.out) NB296_0.out (by simp)); have n2_ := Aside0.mk (KeepBut.blk hk (g' := gb297) (o := .cells #[.int .i64 a1_0, .int .i64 x298001_53, .int .i64 x298002_72, .int .i64 x298003_86, .int .i64 t433] 67 (0, 0)) (by (with_reducible repeat (first | refine blk_drewN ?_ _ | refine blk_drew ?_ | refine blk_alloc ?_ _)); refine blk_put (cs := #[.int .i64 a1_0, .int .i64 x298001_53, .int .i64 x298002_72, .int .i64 x298003_86, .int .i64 0]) ?_ 4 _ rfl; (with_reducible repeat (first | refine blk_drewN ?_ _ | refine blk_drew ?_ | refine blk_alloc ?_ _)); exact BK297.out) NB297_0.out (by simp)); have n3_ := Aside0.mk (KeepBut.trans (ts30_ HK.out GW295.out GW296.out GW297.out) hk (.inl rfl)); have n4_ := Aside0.mk (hb); have n5_ := Aside0.mk (hi); clear BK295; clear BK296; clear BK297; clear HK; clear HB; clear HI0; have BK295 := n0_; have BK296 := n1_; have BK297 := n2_; have HK := n3_; have HB := n4_; have HI0 := n5_; clear n0_ n1_ n2_ n3_ n4_ n5_; (try clear hb); (try clear hb2); (try clear hk); (try clear hi); have hcz127_0 : w126.cell? ⟨gb297, 0, none⟩ = some (.int .i64 a1_0) := (blk_cell BK297.out 0).trans rfl; have hcz127_1 : w126.cell? ⟨gb297, 1, none⟩ = some (.int .i64 x298001_53) := (blk_cell BK297.out 1).trans rfl; have hcz127_2 : w126.cell? ⟨gb297, 2, none⟩ = some (.int .i64 x298002_72) := (blk_cell BK297.out 2).trans rfl; have hcz127_3 : w126.cell? ⟨gb297, 3, none⟩ = some (.int .i64 x298003_86) := (blk_cell BK297.out 3).trans rfl; have hcz127_4 : w126.cell? ⟨gb297, 4, none⟩ = some (.int .i64 t433) := (blk_cell BK297.out 4).trans rfl; have hfz127_0 := blk_frozen BK297.out 0; have hfz127_1 := blk_frozen BK297.out 1; have hfz127_2 := blk_frozen BK297.out 2; have hfz127_3 := blk_frozen BK297.out 3; have hfz127_4 := blk_frozen BK297.out 4; have hnb128 := NB296_0.out; have hnc128 := NB0_296.out; have hcz129_0 : w126.cell? ⟨gb296, 0, none⟩ = some (.int .i64 0) := (blk_cell BK296.out 0).trans rfl; have hcz129_1 : w126.cell? ⟨gb296, 1, none⟩ = some (.int .i64 0) := (blk_cell BK296.out 1).trans rfl; have hcz129_2 : w126.cell? ⟨gb296, 2, none⟩ = some (.int .i64 0) := (blk_cell BK296.out 2).trans rfl; have hcz129_3 : w126.cell? ⟨gb296, 3, none⟩ = some (.int .i64 0) := (blk_cell BK296.out 3).trans rfl; have hcz129_4 : w126.cell? ⟨gb296, 4, none⟩ = some (.int .i64 0) := (blk_cell BK296.out 4).trans rfl; have hfz129_0 := blk_frozen BK296.out 0; have hfz129_1 := blk_frozen BK296.out 1; have hfz129_2 := blk_frozen BK296.out 2; have hfz129_3 := blk_frozen BK296.out 3; have hfz129_4 := blk_frozen BK296.out 4))
          refine bodyPost_ret (results_cell_row rfl _ _ gb296 67 #[.int .i64 a1_0, .int .i64 x298001_53, .int .i64 x298002_72, .int .i64 x298003_86, .int .i64 t433] (0, 0) _ rfl (ts54_ BK296.out) Tryd.underlying67 rfl (by kernel_rfl)) rfl ?_
          exact ⟨ts9_, ts6_ HI0.out NB0_295.out NB0_296.out NB0_297.out, ts28_ HB.out HI0.out GE295.out GE296.out GE297.out, ts30_ HK.out GW295.out GW296.out GW297.out⟩
end Go.Proofs.YtekhnkpjeofdpaaDoor.A
