/- Written by wip/tools/xprint.py, a program of this session that drives the kit's printer. Not trusted: Lean checks it. -/
import Derived.Test.YtlaijeeeblcinaaDoorAx0
import Derived.Test.YtlaijeeeblcinaaDoorAx2
import Derived.Test.YtlaijeeeblcinaaDoorRefNext
set_option linter.all false
set_option maxHeartbeats 8000000
set_option maxRecDepth 100000
namespace Go.Proofs.YtlaijeeeblcinaaDoor.A
open Go.RowKit Go.Proofs.YtlaijeeeblcinaaDoorW.PrintWords Go.Proofs.YtlaijeeeblcinaaDoorW.PrintLast Go.Proofs.YtlaijeeeblcinaaDoorW.PrintMore
attribute [local go_sem] max2_int min2_int max_two min_two max_three min_three max_four min_four   -- for this text's walks alone
set_option linter.unusedVariables false
set_option linter.unusedSimpArgs false
/-! ### cupelref20_reader_take: function 44 -/
def cupelref20_reader_take.f (k : Nat) (s0_0 : ByteArray) (s0_1 : Int) (s0_2 : Int) (s0_3 : Int) (s0_4 : ByteArray) (s0_5 : Int) (s0_6 : Bool) (s0_7 : Int) (a1 : ByteArray) : Option (Bool × ByteArray × Int × Int × Int × ByteArray × Int × Bool × Int) := if s0_6 = true then (some (false, s0_0, s0_1, s0_2, s0_3, s0_4, s0_5, s0_6, s0_7)) else (if s0_3 = 97 then (if s0_4.toList = a1.toList then ((cupelref20_reader_next.f k s0_0 s0_1 s0_2 s0_3 s0_4 s0_5 s0_6 s0_7).bind fun bt211 => (some (true, bt211.1, bt211.2.1, bt211.2.2.1, bt211.2.2.2.1, bt211.2.2.2.2.1, bt211.2.2.2.2.2.1, bt211.2.2.2.2.2.2.1, bt211.2.2.2.2.2.2.2))) else (some (false, s0_0, s0_1, s0_2, s0_3, s0_4, s0_5, s0_6, s0_7))) else (if s0_3 = 115 then (if s0_4.toList = a1.toList then ((cupelref20_reader_next.f k s0_0 s0_1 s0_2 s0_3 s0_4 s0_5 s0_6 s0_7).bind fun bt219 => (some (true, bt219.1, bt219.2.1, bt219.2.2.1, bt219.2.2.2.1, bt219.2.2.2.2.1, bt219.2.2.2.2.2.1, bt219.2.2.2.2.2.2.1, bt219.2.2.2.2.2.2.2))) else (some (false, s0_0, s0_1, s0_2, s0_3, s0_4, s0_5, s0_6, s0_7))) else (some (false, s0_0, s0_1, s0_2, s0_3, s0_4, s0_5, s0_6, s0_7))))
theorem cupelref20_reader_take.mono : ∀ a0 a1 a2 a3 a4 a5 a6 a7 a8 k, LeO (cupelref20_reader_take.f k a0 a1 a2 a3 a4 a5 a6 a7 a8) (cupelref20_reader_take.f (k + 1) a0 a1 a2 a3 a4 a5 a6 a7 a8) := by
 intro a0 a1 a2 a3 a4 a5 a6 a7 a8 k
 unfold cupelref20_reader_take.f
 repeat' first
   | (with_reducible exact cupelref20_reader_next.mono _ _ _ _ _ _ _ _ _)
   | (with_reducible exact LeO.refl _)
   | (with_reducible exact LeO.none _)
   | (with_reducible refine LeO.ite ?_ ?_)
   | (with_reducible refine LeO.bind ?_ (fun _ => ?_))
   | exact LeO.none _
   | refine LeO.ite ?_ ?_
   | refine LeO.bind ?_ (fun _ => ?_)
theorem cupelref20_reader_take.calls (k : Nat) (g : Nat) (s0_0 : ByteArray) (s0_1 : Int) (s0_2 : Int) (s0_3 : Int) (s0_4 : ByteArray) (s0_5 : Int) (s0_6 : Bool) (s0_7 : Int) (a1 : ByteArray) (r1 : Bool) (r2 : ByteArray) (r3 : Int) (r4 : Int) (r5 : Int) (r6 : ByteArray) (r7 : Int) (r8 : Bool) (r9 : Int) (w0 w : World) (hI : IsS80 w0 w g s0_0 s0_1 s0_2 s0_3 s0_4 s0_5 s0_6 s0_7) (hB : Below w0.heap.size w0 w) (h : cupelref20_reader_take.f k s0_0 s0_1 s0_2 s0_3 s0_4 s0_5 s0_6 s0_7 a1 = some (r1, r2, r3, r4, r5, r6, r7, r8, r9)) :
  Calls Tryd.prog 44 #[.pointer (some ⟨g, 0, none⟩), .string a1] w fun e w' => e = .returned (.bool r1) ∧ IsS80 w0 w' g r2 r3 r4 r5 r6 r7 r8 r9 ∧ Below w0.heap.size w0 w' ∧ KeepBut w w' g none := by
 have HI0 := Aside0.mk hI
 have HK := Aside0.mk (KeepBut.refl w g none)
 have HL := Aside0.mk hB.size
 clear hI
 have HW0 := Aside0.mk hB.size
 have HB := Aside0.mk hB
 clear hB
 have H : (if s0_6 = true then (some (false, s0_0, s0_1, s0_2, s0_3, s0_4, s0_5, s0_6, s0_7)) else (if s0_3 = 97 then (if s0_4.toList = a1.toList then ((cupelref20_reader_next.f k s0_0 s0_1 s0_2 s0_3 s0_4 s0_5 s0_6 s0_7).bind fun bt211 => (some (true, bt211.1, bt211.2.1, bt211.2.2.1, bt211.2.2.2.1, bt211.2.2.2.2.1, bt211.2.2.2.2.2.1, bt211.2.2.2.2.2.2.1, bt211.2.2.2.2.2.2.2))) else (some (false, s0_0, s0_1, s0_2, s0_3, s0_4, s0_5, s0_6, s0_7))) else (if s0_3 = 115 then (if s0_4.toList = a1.toList then ((cupelref20_reader_next.f k s0_0 s0_1 s0_2 s0_3 s0_4 s0_5 s0_6 s0_7).bind fun bt219 => (some (true, bt219.1, bt219.2.1, bt219.2.2.1, bt219.2.2.2.1, bt219.2.2.2.2.1, bt219.2.2.2.2.2.1, bt219.2.2.2.2.2.2.1, bt219.2.2.2.2.2.2.2))) else (some (false, s0_0, s0_1, s0_2, s0_3, s0_4, s0_5, s0_6, s0_7))) else (some (false, s0_0, s0_1, s0_2, s0_3, s0_4, s0_5, s0_6, s0_7))))) = some (r1, r2, r3, r4, r5, r6, r7, r8, r9) := h
 clear h
 by_cases c3 : s0_6 = true
 ·subst c3
  rw [if_pos rfl] at H
  simp only [Option.some.injEq, Prod.mk.injEq] at H
  obtain ⟨rfl, rfl, rfl, rfl, rfl, rfl, rfl, rfl, rfl⟩ := H
  obtain ⟨HGz4, hgz4⟩ := HI0.out
  have hcz4_0 := cellS80_0 HGz4
  have hcz4_1 := cellS80_1 HGz4
  have hcz4_2 := cellS80_2 HGz4
  have hcz4_3 := cellS80_3 HGz4
  have hcz4_4 := cellS80_4 HGz4
  have hcz4_5 := cellS80_5 HGz4
  have hcz4_6 := cellS80_6 HGz4
  have hcz4_7 := cellS80_7 HGz4
  have hfz4_0 := blk_frozen HGz4 0
  have hfz4_1 := blk_frozen HGz4 1
  have hfz4_2 := blk_frozen HGz4 2
  have hfz4_3 := blk_frozen HGz4 3
  have hfz4_4 := blk_frozen HGz4 4
  have hfz4_5 := blk_frozen HGz4 5
  have hfz4_6 := blk_frozen HGz4 6
  have hfz4_7 := blk_frozen HGz4 7
  clear HGz4 hgz4
  go_enter Tryd.func44, Tryd.ntmps44
  go_wp2
  go_ret
  exact ⟨ts42_, ts50_ HI0.out, ts12_ HB.out HI0.out, ts53_ HK.out⟩
 replace c3 := Bool.eq_false_iff.mpr c3
 subst c3
 rw [if_neg Bool.false_ne_true] at H
 by_cases c5 : s0_3 = 97
 ·rw [if_pos c5] at H
  have c5b0 : (s0_3 == 97) = true := beq_iff_eq.mpr c5
  have c5b1 : (s0_3 != 97) = false := bne_eq_false_iff_eq.mpr c5
  clear c5
  by_cases c6 : s0_4.toList = a1.toList
  ·rw [if_pos c6] at H
   have c6b0 : (s0_4.toList == a1.toList) = true := beq_iff_eq.mpr c6
   have c6b1 : (s0_4.toList != a1.toList) = false := bne_eq_false_iff_eq.mpr c6
   clear c6
   obtain ⟨⟨t211, t212, t213, t214, t215, t216, t217, t218⟩, A7, H⟩ := bsA_ H
   try dsimp only at H
   simp only [Option.some.injEq, Prod.mk.injEq] at H
   obtain ⟨rfl, rfl, rfl, rfl, rfl, rfl, rfl, rfl, rfl⟩ := H
   obtain ⟨HGz8, hgz8⟩ := HI0.out
   have hcz8_0 := cellS80_0 HGz8
   have hcz8_1 := cellS80_1 HGz8
   have hcz8_2 := cellS80_2 HGz8
   have hcz8_3 := cellS80_3 HGz8
   have hcz8_4 := cellS80_4 HGz8
   have hcz8_5 := cellS80_5 HGz8
   have hcz8_6 := cellS80_6 HGz8
   have hcz8_7 := cellS80_7 HGz8
   have hfz8_0 := blk_frozen HGz8 0
   have hfz8_1 := blk_frozen HGz8 1
   have hfz8_2 := blk_frozen HGz8 2
   have hfz8_3 := blk_frozen HGz8 3
   have hfz8_4 := blk_frozen HGz8 4
   have hfz8_5 := blk_frozen HGz8 5
   have hfz8_6 := blk_frozen HGz8 6
   have hfz8_7 := blk_frozen HGz8 7
   clear HGz8 hgz8
   go_enter Tryd.func44, Tryd.ntmps44
   go_wp2_with (first | ((with_reducible refine gate_callee (f := 41) rfl ?_); refine goesL_ (some 35) rfl rfl Tryd.func41 (by kernel_rfl) rfl #[.pointer (some ⟨g, 0, none⟩)] rfl ts17_ ?_; (with_reducible refine (cupelref20_reader_next.calls k g s0_0 s0_1 s0_2 s0_3 s0_4 s0_5 false s0_7 t211 t212 t213 t214 t215 t216 t217 t218 w0 _ ?side1 ?side2 A7.out).mono ?_); (case side1 => exact ts50_ HI0.out); (case side2 => exact ts12_ HB.out HI0.out); rintro e w9 ⟨rfl, hi, hb, hk⟩; refine ⟨_, rfl, ?_⟩; replace HK := Aside0.mk (KeepBut.trans (ts53_ HK.out) hk (.inl rfl)); replace HB := Aside0.mk (hb); replace HI0 := Aside0.mk (hi); clear hi hb hk))
   go_ret
   exact ⟨ts42_, ts50_ HI0.out, ts12_ HB.out HI0.out, ts53_ HK.out⟩
  rw [if_neg c6] at H
  have c6b0 : (s0_4.toList == a1.toList) = false := beq_eq_false_iff_ne.mpr c6
  have c6b1 : (s0_4.toList != a1.toList) = true := bne_iff_ne.mpr c6
  simp only [Option.some.injEq, Prod.mk.injEq] at H
  obtain ⟨rfl, rfl, rfl, rfl, rfl, rfl, rfl, rfl, rfl⟩ := H
  obtain ⟨HGz10, hgz10⟩ := HI0.out
  have hcz10_0 := cellS80_0 HGz10
  have hcz10_1 := cellS80_1 HGz10
  have hcz10_2 := cellS80_2 HGz10
  have hcz10_3 := cellS80_3 HGz10
  have hcz10_4 := cellS80_4 HGz10
  have hcz10_5 := cellS80_5 HGz10
  have hcz10_6 := cellS80_6 HGz10
  have hcz10_7 := cellS80_7 HGz10
  have hfz10_0 := blk_frozen HGz10 0
  have hfz10_1 := blk_frozen HGz10 1
  have hfz10_2 := blk_frozen HGz10 2
  have hfz10_3 := blk_frozen HGz10 3
  have hfz10_4 := blk_frozen HGz10 4
  have hfz10_5 := blk_frozen HGz10 5
  have hfz10_6 := blk_frozen HGz10 6
  have hfz10_7 := blk_frozen HGz10 7
  clear HGz10 hgz10
  go_enter Tryd.func44, Tryd.ntmps44
  go_wp2
  go_ret
  exact ⟨ts42_, ts50_ HI0.out, ts12_ HB.out HI0.out, ts53_ HK.out⟩
 rw [if_neg c5] at H
 have c5b0 : (s0_3 == 97) = false := beq_eq_false_iff_ne.mpr c5
 have c5b1 : (s0_3 != 97) = true := bne_iff_ne.mpr c5
 by_cases c11 : s0_3 = 115
 ·rw [if_pos c11] at H
  have c11b0 : (s0_3 == 115) = true := beq_iff_eq.mpr c11
  have c11b1 : (s0_3 != 115) = false := bne_eq_false_iff_eq.mpr c11
  clear c11
  by_cases c12 : s0_4.toList = a1.toList
  ·rw [if_pos c12] at H
   have c12b0 : (s0_4.toList == a1.toList) = true := beq_iff_eq.mpr c12
   have c12b1 : (s0_4.toList != a1.toList) = false := bne_eq_false_iff_eq.mpr c12
   clear c12
   obtain ⟨⟨t219, t220, t221, t222, t223, t224, t225, t226⟩, A13, H⟩ := bsA_ H
   try dsimp only at H
   simp only [Option.some.injEq, Prod.mk.injEq] at H
   obtain ⟨rfl, rfl, rfl, rfl, rfl, rfl, rfl, rfl, rfl⟩ := H
   obtain ⟨HGz14, hgz14⟩ := HI0.out
   have hcz14_0 := cellS80_0 HGz14
   have hcz14_1 := cellS80_1 HGz14
   have hcz14_2 := cellS80_2 HGz14
   have hcz14_3 := cellS80_3 HGz14
   have hcz14_4 := cellS80_4 HGz14
   have hcz14_5 := cellS80_5 HGz14
   have hcz14_6 := cellS80_6 HGz14
   have hcz14_7 := cellS80_7 HGz14
   have hfz14_0 := blk_frozen HGz14 0
   have hfz14_1 := blk_frozen HGz14 1
   have hfz14_2 := blk_frozen HGz14 2
   have hfz14_3 := blk_frozen HGz14 3
   have hfz14_4 := blk_frozen HGz14 4
   have hfz14_5 := blk_frozen HGz14 5
   have hfz14_6 := blk_frozen HGz14 6
   have hfz14_7 := blk_frozen HGz14 7
   clear HGz14 hgz14
   go_enter Tryd.func44, Tryd.ntmps44
   go_wp2_with (first | ((with_reducible refine gate_callee (f := 41) rfl ?_); refine goesL_ (some 35) rfl rfl Tryd.func41 (by kernel_rfl) rfl #[.pointer (some ⟨g, 0, none⟩)] rfl ts17_ ?_; (with_reducible refine (cupelref20_reader_next.calls k g s0_0 s0_1 s0_2 s0_3 s0_4 s0_5 false s0_7 t219 t220 t221 t222 t223 t224 t225 t226 w0 _ ?side1 ?side2 A13.out).mono ?_); (case side1 => exact ts50_ HI0.out); (case side2 => exact ts12_ HB.out HI0.out); rintro e w15 ⟨rfl, hi, hb, hk⟩; refine ⟨_, rfl, ?_⟩; replace HK := Aside0.mk (KeepBut.trans (ts53_ HK.out) hk (.inl rfl)); replace HB := Aside0.mk (hb); replace HI0 := Aside0.mk (hi); clear hi hb hk))
   go_ret
   exact ⟨ts42_, ts50_ HI0.out, ts12_ HB.out HI0.out, ts53_ HK.out⟩
  rw [if_neg c12] at H
  have c12b0 : (s0_4.toList == a1.toList) = false := beq_eq_false_iff_ne.mpr c12
  have c12b1 : (s0_4.toList != a1.toList) = true := bne_iff_ne.mpr c12
  simp only [Option.some.injEq, Prod.mk.injEq] at H
  obtain ⟨rfl, rfl, rfl, rfl, rfl, rfl, rfl, rfl, rfl⟩ := H
  obtain ⟨HGz16, hgz16⟩ := HI0.out
  have hcz16_0 := cellS80_0 HGz16
  have hcz16_1 := cellS80_1 HGz16
  have hcz16_2 := cellS80_2 HGz16
  have hcz16_3 := cellS80_3 HGz16
  have hcz16_4 := cellS80_4 HGz16
  have hcz16_5 := cellS80_5 HGz16
  have hcz16_6 := cellS80_6 HGz16
  have hcz16_7 := cellS80_7 HGz16
  have hfz16_0 := blk_frozen HGz16 0
  have hfz16_1 := blk_frozen HGz16 1
  have hfz16_2 := blk_frozen HGz16 2
  have hfz16_3 := blk_frozen HGz16 3
  have hfz16_4 := blk_frozen HGz16 4
  have hfz16_5 := blk_frozen HGz16 5
  have hfz16_6 := blk_frozen HGz16 6
  have hfz16_7 := blk_frozen HGz16 7
  clear HGz16 hgz16
  go_enter Tryd.func44, Tryd.ntmps44
  go_wp2
  go_ret
  exact ⟨ts42_, ts50_ HI0.out, ts12_ HB.out HI0.out, ts53_ HK.out⟩
 rw [if_neg c11] at H
 have c11b0 : (s0_3 == 115) = false := beq_eq_false_iff_ne.mpr c11
 have c11b1 : (s0_3 != 115) = true := bne_iff_ne.mpr c11
 simp only [Option.some.injEq, Prod.mk.injEq] at H
 obtain ⟨rfl, rfl, rfl, rfl, rfl, rfl, rfl, rfl, rfl⟩ := H
 obtain ⟨HGz17, hgz17⟩ := HI0.out
 have hcz17_0 := cellS80_0 HGz17
 have hcz17_1 := cellS80_1 HGz17
 have hcz17_2 := cellS80_2 HGz17
 have hcz17_3 := cellS80_3 HGz17
 have hcz17_4 := cellS80_4 HGz17
 have hcz17_5 := cellS80_5 HGz17
 have hcz17_6 := cellS80_6 HGz17
 have hcz17_7 := cellS80_7 HGz17
 have hfz17_0 := blk_frozen HGz17 0
 have hfz17_1 := blk_frozen HGz17 1
 have hfz17_2 := blk_frozen HGz17 2
 have hfz17_3 := blk_frozen HGz17 3
 have hfz17_4 := blk_frozen HGz17 4
 have hfz17_5 := blk_frozen HGz17 5
 have hfz17_6 := blk_frozen HGz17 6
 have hfz17_7 := blk_frozen HGz17 7
 clear HGz17 hgz17
 go_enter Tryd.func44, Tryd.ntmps44
 go_wp2
 go_ret
 exact ⟨ts42_, ts50_ HI0.out, ts12_ HB.out HI0.out, ts53_ HK.out⟩
/-! ### cupelref20_reader_want: function 42 -/
def cupelref20_reader_want.f (k : Nat) (s0_0 : ByteArray) (s0_1 : Int) (s0_2 : Int) (s0_3 : Int) (s0_4 : ByteArray) (s0_5 : Int) (s0_6 : Bool) (s0_7 : Int) (a1 : ByteArray) : Option (ByteArray × Int × Int × Int × ByteArray × Int × Bool × Int) := (cupelref20_reader_take.f k s0_0 s0_1 s0_2 s0_3 s0_4 s0_5 s0_6 s0_7 a1).bind fun bt227 => (if bt227.1 = true then (some (bt227.2.1, bt227.2.2.1, bt227.2.2.2.1, bt227.2.2.2.2.1, bt227.2.2.2.2.2.1, bt227.2.2.2.2.2.2.1, bt227.2.2.2.2.2.2.2.1, bt227.2.2.2.2.2.2.2.2)) else ((cupelref20_reader_wrong.f bt227.2.1 bt227.2.2.1 bt227.2.2.2.1 bt227.2.2.2.2.1 bt227.2.2.2.2.2.1 bt227.2.2.2.2.2.2.1 bt227.2.2.2.2.2.2.2.1 bt227.2.2.2.2.2.2.2.2).bind fun bt236 => (some (bt236.1, bt236.2.1, bt236.2.2.1, bt236.2.2.2.1, bt236.2.2.2.2.1, bt236.2.2.2.2.2.1, bt236.2.2.2.2.2.2.1, bt236.2.2.2.2.2.2.2))))
theorem cupelref20_reader_want.mono : ∀ a0 a1 a2 a3 a4 a5 a6 a7 a8 k, LeO (cupelref20_reader_want.f k a0 a1 a2 a3 a4 a5 a6 a7 a8) (cupelref20_reader_want.f (k + 1) a0 a1 a2 a3 a4 a5 a6 a7 a8) := by
 intro a0 a1 a2 a3 a4 a5 a6 a7 a8 k
 unfold cupelref20_reader_want.f
 repeat' first
   | (with_reducible exact cupelref20_reader_take.mono _ _ _ _ _ _ _ _ _ _)
   | (with_reducible exact LeO.refl _)
   | (with_reducible exact LeO.none _)
   | (with_reducible refine LeO.ite ?_ ?_)
   | (with_reducible refine LeO.bind ?_ (fun _ => ?_))
   | exact LeO.none _
   | refine LeO.ite ?_ ?_
   | refine LeO.bind ?_ (fun _ => ?_)
theorem cupelref20_reader_want.calls (k : Nat) (g : Nat) (s0_0 : ByteArray) (s0_1 : Int) (s0_2 : Int) (s0_3 : Int) (s0_4 : ByteArray) (s0_5 : Int) (s0_6 : Bool) (s0_7 : Int) (a1 : ByteArray) (r1 : ByteArray) (r2 : Int) (r3 : Int) (r4 : Int) (r5 : ByteArray) (r6 : Int) (r7 : Bool) (r8 : Int) (w0 w : World) (hI : IsS80 w0 w g s0_0 s0_1 s0_2 s0_3 s0_4 s0_5 s0_6 s0_7) (hB : Below w0.heap.size w0 w) (h : cupelref20_reader_want.f k s0_0 s0_1 s0_2 s0_3 s0_4 s0_5 s0_6 s0_7 a1 = some (r1, r2, r3, r4, r5, r6, r7, r8)) :
  Calls Tryd.prog 42 #[.pointer (some ⟨g, 0, none⟩), .string a1] w fun e w' => e = .returned (.tuple #[]) ∧ IsS80 w0 w' g r1 r2 r3 r4 r5 r6 r7 r8 ∧ Below w0.heap.size w0 w' ∧ KeepBut w w' g none := by
 have HI0 := Aside0.mk hI
 have HK := Aside0.mk (KeepBut.refl w g none)
 have HL := Aside0.mk hB.size
 clear hI
 have HW0 := Aside0.mk hB.size
 have HB := Aside0.mk hB
 clear hB
 have H : ((cupelref20_reader_take.f k s0_0 s0_1 s0_2 s0_3 s0_4 s0_5 s0_6 s0_7 a1).bind fun bt227 => (if bt227.1 = true then (some (bt227.2.1, bt227.2.2.1, bt227.2.2.2.1, bt227.2.2.2.2.1, bt227.2.2.2.2.2.1, bt227.2.2.2.2.2.2.1, bt227.2.2.2.2.2.2.2.1, bt227.2.2.2.2.2.2.2.2)) else ((cupelref20_reader_wrong.f bt227.2.1 bt227.2.2.1 bt227.2.2.2.1 bt227.2.2.2.2.1 bt227.2.2.2.2.2.1 bt227.2.2.2.2.2.2.1 bt227.2.2.2.2.2.2.2.1 bt227.2.2.2.2.2.2.2.2).bind fun bt236 => (some (bt236.1, bt236.2.1, bt236.2.2.1, bt236.2.2.2.1, bt236.2.2.2.2.1, bt236.2.2.2.2.2.1, bt236.2.2.2.2.2.2.1, bt236.2.2.2.2.2.2.2))))) = some (r1, r2, r3, r4, r5, r6, r7, r8) := h
 clear h
 obtain ⟨⟨t227, t228, t229, t230, t231, t232, t233, t234, t235⟩, A3, H⟩ := bsA_ H
 try dsimp only at H
 by_cases c4 : t227 = true
 ·subst c4
  rw [if_pos rfl] at H
  simp only [Option.some.injEq, Prod.mk.injEq] at H
  obtain ⟨rfl, rfl, rfl, rfl, rfl, rfl, rfl, rfl⟩ := H
  go_enter Tryd.func42, Tryd.ntmps42
  go_wp2_with (first | ((with_reducible refine gate_callee (f := 44) rfl ?_); refine goesL_ (some 6) rfl rfl Tryd.func44 (by kernel_rfl) rfl #[.pointer (some ⟨g, 0, none⟩), .string a1] rfl ts17_ ?_; (with_reducible refine (cupelref20_reader_take.calls k g s0_0 s0_1 s0_2 s0_3 s0_4 s0_5 s0_6 s0_7 a1 true t228 t229 t230 t231 t232 t233 t234 t235 w0 _ ?side1 ?side2 A3.out).mono ?_); (case side1 => exact ts50_ HI0.out); (case side2 => exact ts12_ HB.out HI0.out); rintro e w5 ⟨rfl, hi, hb, hk⟩; refine ⟨_, rfl, ?_⟩; replace HK := Aside0.mk (KeepBut.trans (ts53_ HK.out) hk (.inl rfl)); replace HB := Aside0.mk (hb); replace HI0 := Aside0.mk (hi); clear hi hb hk))
  first | go_end0 | ((try simp only [Exit.inBlock, Exit.then]); refine bodyPost_ret (results_none rfl _ _ _) rfl ?_)
  exact ⟨ts42_, ts50_ HI0.out, ts12_ HB.out HI0.out, ts53_ HK.out⟩
 replace c4 := Bool.eq_false_iff.mpr c4
 subst c4
 rw [if_neg Bool.false_ne_true] at H
 obtain ⟨⟨t236, t237, t238, t239, t240, t241, t242, t243⟩, A6, H⟩ := bsA_ H
 try dsimp only at H
 simp only [Option.some.injEq, Prod.mk.injEq] at H
 obtain ⟨rfl, rfl, rfl, rfl, rfl, rfl, rfl, rfl⟩ := H
 go_enter Tryd.func42, Tryd.ntmps42
 go_wp2_with (first | ((with_reducible refine gate_callee (f := 44) rfl ?_); refine goesL_ (some 6) rfl rfl Tryd.func44 (by kernel_rfl) rfl #[.pointer (some ⟨g, 0, none⟩), .string a1] rfl ts17_ ?_; (with_reducible refine (cupelref20_reader_take.calls k g s0_0 s0_1 s0_2 s0_3 s0_4 s0_5 s0_6 s0_7 a1 false t228 t229 t230 t231 t232 t233 t234 t235 w0 _ ?side1 ?side2 A3.out).mono ?_); (case side1 => exact ts50_ HI0.out); (case side2 => exact ts12_ HB.out HI0.out); rintro e w7 ⟨rfl, hi, hb, hk⟩; refine ⟨_, rfl, ?_⟩; replace HK := Aside0.mk (KeepBut.trans (ts53_ HK.out) hk (.inl rfl)); replace HB := Aside0.mk (hb); replace HI0 := Aside0.mk (hi); clear hi hb hk) | ((with_reducible refine gate_callee (f := 47) rfl ?_); refine goesL_ (some 9) rfl rfl Tryd.func47 (by kernel_rfl) rfl #[.pointer (some ⟨g, 0, none⟩)] rfl ts17_ ?_; (with_reducible refine (cupelref20_reader_wrong.calls g t228 t229 t230 t231 t232 t233 t234 t235 t236 t237 t238 t239 t240 t241 t242 t243 w0 _ ?side1 ?side2 A6.out).mono ?_); (case side1 => exact ts50_ HI0.out); (case side2 => exact ts12_ HB.out HI0.out); rintro e w8 ⟨rfl, hi, hb, hk⟩; refine ⟨_, rfl, ?_⟩; replace HK := Aside0.mk (KeepBut.trans (ts53_ HK.out) hk (.inl rfl)); replace HB := Aside0.mk (hb); replace HI0 := Aside0.mk (hi); clear hi hb hk))
 first | go_end0 | ((try simp only [Exit.inBlock, Exit.then]); refine bodyPost_ret (results_none rfl _ _ _) rfl ?_)
 exact ⟨ts42_, ts50_ HI0.out, ts12_ HB.out HI0.out, ts53_ HK.out⟩
/-! ### cupelref20_reader_number: function 43 -/
def cupelref20_reader_number.j0 : Nat → Int → Bool → ByteArray → Int → Int → Int → ByteArray → Int → Bool → Int → Option (Int × ByteArray × Int × Int × Int × ByteArray × Int × Bool × Int)
 | 0, _, _, _, _, _, _, _, _, _, _ => none
 | k + 1, x5, x28, x1000, x1001, x1002, x1003, x1004, x1005, x1006, x1007 => if x28 = true then ((cupelref20_reader_wrong.f x1000 x1001 x1002 x1003 x1004 x1005 x1006 x1007).bind fun bt245 => (some (0, bt245.1, bt245.2.1, bt245.2.2.1, bt245.2.2.2.1, bt245.2.2.2.2.1, bt245.2.2.2.2.2.1, bt245.2.2.2.2.2.2.1, bt245.2.2.2.2.2.2.2))) else ((cupelref20_reader_next.f k x1000 x1001 x1002 x1003 x1004 x1005 x1006 x1007).bind fun bt253 => (some (x5, bt253.1, bt253.2.1, bt253.2.2.1, bt253.2.2.2.1, bt253.2.2.2.2.1, bt253.2.2.2.2.2.1, bt253.2.2.2.2.2.2.1, bt253.2.2.2.2.2.2.2)))
def cupelref20_reader_number.f (k : Nat) (s0_0 : ByteArray) (s0_1 : Int) (s0_2 : Int) (s0_3 : Int) (s0_4 : ByteArray) (s0_5 : Int) (s0_6 : Bool) (s0_7 : Int) (a1 : Int) : Option (Int × ByteArray × Int × Int × Int × ByteArray × Int × Bool × Int) := if s0_6 = true then (cupelref20_reader_number.j0 k s0_5 true s0_0 s0_1 s0_2 s0_3 s0_4 s0_5 s0_6 s0_7) else (if s0_3 = 48 then ((cupelref20_immediate.f a1 s0_5).bind fun t244 => (cupelref20_reader_number.j0 k s0_5 (!t244) s0_0 s0_1 s0_2 s0_3 s0_4 s0_5 s0_6 s0_7)) else (cupelref20_reader_number.j0 k s0_5 true s0_0 s0_1 s0_2 s0_3 s0_4 s0_5 s0_6 s0_7))
theorem cupelref20_reader_number.mono_l : ∀ k, (∀ y0 y1 y2 y3 y4 y5 y6 y7 y8 y9, LeO (cupelref20_reader_number.j0 k y0 y1 y2 y3 y4 y5 y6 y7 y8 y9) (cupelref20_reader_number.j0 (k + 1) y0 y1 y2 y3 y4 y5 y6 y7 y8 y9))
 | 0 => fun _ _ _ _ _ _ _ _ _ _ r h => by simp [cupelref20_reader_number.j0] at h
 | k + 1 => by
  have ih0 := cupelref20_reader_number.mono_l k
  ·intro y0 y1 y2 y3 y4 y5 y6 y7 y8 y9
   unfold cupelref20_reader_number.j0
   repeat' first
   | (with_reducible exact ih0 _ _ _ _ _ _ _ _ _ _)
   | (with_reducible exact cupelref20_reader_next.mono _ _ _ _ _ _ _ _ _)
   | (with_reducible exact LeO.refl _)
   | (with_reducible exact LeO.none _)
   | (with_reducible refine LeO.ite ?_ ?_)
   | (with_reducible refine LeO.bind ?_ (fun _ => ?_))
   | exact LeO.none _
   | refine LeO.ite ?_ ?_
   | refine LeO.bind ?_ (fun _ => ?_)
theorem cupelref20_reader_number.mono : ∀ a0 a1 a2 a3 a4 a5 a6 a7 a8 k, LeO (cupelref20_reader_number.f k a0 a1 a2 a3 a4 a5 a6 a7 a8) (cupelref20_reader_number.f (k + 1) a0 a1 a2 a3 a4 a5 a6 a7 a8) := by
 intro a0 a1 a2 a3 a4 a5 a6 a7 a8 k
 have ih0 := cupelref20_reader_number.mono_l k
 unfold cupelref20_reader_number.f
 repeat' first
   | (with_reducible exact ih0 _ _ _ _ _ _ _ _ _ _)
   | (with_reducible exact cupelref20_reader_next.mono _ _ _ _ _ _ _ _ _)
   | (with_reducible exact LeO.refl _)
   | (with_reducible exact LeO.none _)
   | (with_reducible refine LeO.ite ?_ ?_)
   | (with_reducible refine LeO.bind ?_ (fun _ => ?_))
   | exact LeO.none _
   | refine LeO.ite ?_ ?_
   | refine LeO.bind ?_ (fun _ => ?_)
theorem cupelref20_reader_number.calls (k : Nat) (g : Nat) (s0_0 : ByteArray) (s0_1 : Int) (s0_2 : Int) (s0_3 : Int) (s0_4 : ByteArray) (s0_5 : Int) (s0_6 : Bool) (s0_7 : Int) (a1 : Int) (r1 : Int) (r2 : ByteArray) (r3 : Int) (r4 : Int) (r5 : Int) (r6 : ByteArray) (r7 : Int) (r8 : Bool) (r9 : Int) (w0 w : World) (hI : IsS80 w0 w g s0_0 s0_1 s0_2 s0_3 s0_4 s0_5 s0_6 s0_7) (hB : Below w0.heap.size w0 w) (h : cupelref20_reader_number.f k s0_0 s0_1 s0_2 s0_3 s0_4 s0_5 s0_6 s0_7 a1 = some (r1, r2, r3, r4, r5, r6, r7, r8, r9)) :
  Calls Tryd.prog 43 #[.pointer (some ⟨g, 0, none⟩), .int .i64 a1] w fun e w' => e = .returned (.int .i64 r1) ∧ IsS80 w0 w' g r2 r3 r4 r5 r6 r7 r8 r9 ∧ Below w0.heap.size w0 w' ∧ KeepBut w w' g none := by
 have HI0 := Aside0.mk hI
 have HK := Aside0.mk (KeepBut.refl w g none)
 have HL := Aside0.mk hB.size
 clear hI
 have HW0 := Aside0.mk hB.size
 have HB := Aside0.mk hB
 clear hB
 have H : (if s0_6 = true then (cupelref20_reader_number.j0 k s0_5 true s0_0 s0_1 s0_2 s0_3 s0_4 s0_5 s0_6 s0_7) else (if s0_3 = 48 then ((cupelref20_immediate.f a1 s0_5).bind fun t244 => (cupelref20_reader_number.j0 k s0_5 (!t244) s0_0 s0_1 s0_2 s0_3 s0_4 s0_5 s0_6 s0_7)) else (cupelref20_reader_number.j0 k s0_5 true s0_0 s0_1 s0_2 s0_3 s0_4 s0_5 s0_6 s0_7))) = some (r1, r2, r3, r4, r5, r6, r7, r8, r9) := h
 clear h
 have HC3 := Aside0.mk H
 clear H
 obtain ⟨HGz4, hgz4⟩ := HI0.out
 have hcz4_0 := cellS80_0 HGz4
 have hcz4_1 := cellS80_1 HGz4
 have hcz4_2 := cellS80_2 HGz4
 have hcz4_3 := cellS80_3 HGz4
 have hcz4_4 := cellS80_4 HGz4
 have hcz4_5 := cellS80_5 HGz4
 have hcz4_6 := cellS80_6 HGz4
 have hcz4_7 := cellS80_7 HGz4
 have hfz4_0 := blk_frozen HGz4 0
 have hfz4_1 := blk_frozen HGz4 1
 have hfz4_2 := blk_frozen HGz4 2
 have hfz4_3 := blk_frozen HGz4 3
 have hfz4_4 := blk_frozen HGz4 4
 have hfz4_5 := blk_frozen HGz4 5
 have hfz4_6 := blk_frozen HGz4 6
 have hfz4_7 := blk_frozen HGz4 7
 clear HGz4 hgz4
 go_enter Tryd.func43, Tryd.ntmps43
 go_upto_region 2 with (fail)
 go_cut [28] (fun v28 wc => ∃ (kq : Nat) (x28_2 : Bool), v28 = .bool x28_2 ∧ Aside0 (cupelref20_reader_number.j0 kq s0_5 x28_2 s0_0 s0_1 s0_2 s0_3 s0_4 s0_5 s0_6 s0_7 = some (r1, r2, r3, r4, r5, r6, r7, r8, r9)) ∧ Aside0 (kq ≤ k) ∧ Aside0 (IsS80 w0 wc g s0_0 s0_1 s0_2 s0_3 s0_4 s0_5 s0_6 s0_7) ∧ Aside0 (KeepBut w wc g none) ∧ Aside0 (Below w0.heap.size w0 wc))
 case first =>
  have H := HC3.out
  clear HC3
  by_cases c5 : s0_6 = true
  ·subst c5
   rw [if_pos rfl] at H
   have H' := Aside0.mk H
   clear H
   obtain ⟨HGz6, hgz6⟩ := HI0.out
   have hcz6_0 := cellS80_0 HGz6
   have hcz6_1 := cellS80_1 HGz6
   have hcz6_2 := cellS80_2 HGz6
   have hcz6_3 := cellS80_3 HGz6
   have hcz6_4 := cellS80_4 HGz6
   have hcz6_5 := cellS80_5 HGz6
   have hcz6_6 := cellS80_6 HGz6
   have hcz6_7 := cellS80_7 HGz6
   have hfz6_0 := blk_frozen HGz6 0
   have hfz6_1 := blk_frozen HGz6 1
   have hfz6_2 := blk_frozen HGz6 2
   have hfz6_3 := blk_frozen HGz6 3
   have hfz6_4 := blk_frozen HGz6 4
   have hfz6_5 := blk_frozen HGz6 5
   have hfz6_6 := blk_frozen HGz6 6
   have hfz6_7 := blk_frozen HGz6 7
   clear HGz6 hgz6
   go_wp2
   go_meet
   case rel => exact ⟨_, (true), ts51_, H', ⟨ts4_⟩, ⟨ts50_ HI0.out⟩, ⟨ts53_ HK.out⟩, ⟨ts12_ HB.out HI0.out⟩⟩
  replace c5 := Bool.eq_false_iff.mpr c5
  subst c5
  rw [if_neg Bool.false_ne_true] at H
  by_cases c7 : s0_3 = 48
  ·rw [if_pos c7] at H
   have c7b0 : (s0_3 == 48) = true := beq_iff_eq.mpr c7
   have c7b1 : (s0_3 != 48) = false := bne_eq_false_iff_eq.mpr c7
   clear c7
   (first | rw [c7b0] | (simp only [i64_w, i32_w]; rw [c7b0]) | skip)
   obtain ⟨t244, A8, H⟩ := bsA_ H
   try dsimp only at H
   have H' := Aside0.mk H
   clear H
   obtain ⟨HGz9, hgz9⟩ := HI0.out
   have hcz9_0 := cellS80_0 HGz9
   have hcz9_1 := cellS80_1 HGz9
   have hcz9_2 := cellS80_2 HGz9
   have hcz9_3 := cellS80_3 HGz9
   have hcz9_4 := cellS80_4 HGz9
   have hcz9_5 := cellS80_5 HGz9
   have hcz9_6 := cellS80_6 HGz9
   have hcz9_7 := cellS80_7 HGz9
   have hfz9_0 := blk_frozen HGz9 0
   have hfz9_1 := blk_frozen HGz9 1
   have hfz9_2 := blk_frozen HGz9 2
   have hfz9_3 := blk_frozen HGz9 3
   have hfz9_4 := blk_frozen HGz9 4
   have hfz9_5 := blk_frozen HGz9 5
   have hfz9_6 := blk_frozen HGz9 6
   have hfz9_7 := blk_frozen HGz9 7
   clear HGz9 hgz9
   go_wp2_with (first | (go_at_call 29; (with_reducible refine (cupelref20_immediate.calls a1 s0_5 t244 _ A8.out).mono ?_); rintro e w' ⟨rfl, ⟨nd, rfl⟩⟩))
   go_meet
   case rel => exact ⟨_, (!t244), ts51_, H', ⟨ts4_⟩, ⟨ts50_ HI0.out⟩, ⟨ts53_ HK.out⟩, ⟨ts12_ HB.out HI0.out⟩⟩
  rw [if_neg c7] at H
  have c7b0 : (s0_3 == 48) = false := beq_eq_false_iff_ne.mpr c7
  have c7b1 : (s0_3 != 48) = true := bne_iff_ne.mpr c7
  (first | rw [c7b0] | (simp only [i64_w, i32_w]; rw [c7b0]) | skip)
  have H' := Aside0.mk H
  clear H
  obtain ⟨HGz10, hgz10⟩ := HI0.out
  have hcz10_0 := cellS80_0 HGz10
  have hcz10_1 := cellS80_1 HGz10
  have hcz10_2 := cellS80_2 HGz10
  have hcz10_3 := cellS80_3 HGz10
  have hcz10_4 := cellS80_4 HGz10
  have hcz10_5 := cellS80_5 HGz10
  have hcz10_6 := cellS80_6 HGz10
  have hcz10_7 := cellS80_7 HGz10
  have hfz10_0 := blk_frozen HGz10 0
  have hfz10_1 := blk_frozen HGz10 1
  have hfz10_2 := blk_frozen HGz10 2
  have hfz10_3 := blk_frozen HGz10 3
  have hfz10_4 := blk_frozen HGz10 4
  have hfz10_5 := blk_frozen HGz10 5
  have hfz10_6 := blk_frozen HGz10 6
  have hfz10_7 := blk_frozen HGz10 7
  clear HGz10 hgz10
  go_wp2
  go_meet
  case rel => exact ⟨_, (true), ts51_, H', ⟨ts4_⟩, ⟨ts50_ HI0.out⟩, ⟨ts53_ HK.out⟩, ⟨ts12_ HB.out HI0.out⟩⟩
 case rest =>
  clear HC3 hcz4_0 hcz4_1 hcz4_2 hcz4_3 hcz4_4 hcz4_5 hcz4_6 hcz4_7 hfz4_0 hfz4_1 hfz4_2 hfz4_3 hfz4_4 hfz4_5 hfz4_6 hfz4_7
  obtain ⟨kq, x28_2, rfl, HA, HJ2, HI0, HK, HB⟩ := hcut
  cases kq with
  | zero => exact absurd HA.out (by simp [cupelref20_reader_number.j0])
  | succ kj2 =>
   have H := HA.out
   clear HA
   simp only [cupelref20_reader_number.j0] at H
   by_cases c11 : x28_2 = true
   ·subst c11
    rw [if_pos rfl] at H
    obtain ⟨⟨t245, t246, t247, t248, t249, t250, t251, t252⟩, A12, H⟩ := bsA_ H
    try dsimp only at H
    simp only [Option.some.injEq, Prod.mk.injEq] at H
    obtain ⟨rfl, rfl, rfl, rfl, rfl, rfl, rfl, rfl, rfl⟩ := H
    go_wp2_with (first | ((with_reducible refine gate_callee (f := 47) rfl ?_); refine goesL_ (some 30) rfl rfl Tryd.func47 (by kernel_rfl) rfl #[.pointer (some ⟨g, 0, none⟩)] rfl ts17_ ?_; (with_reducible refine (cupelref20_reader_wrong.calls g s0_0 s0_1 s0_2 s0_3 s0_4 s0_5 s0_6 s0_7 t245 t246 t247 t248 t249 t250 t251 t252 w0 _ ?side1 ?side2 A12.out).mono ?_); (case side1 => exact ts50_ HI0.out); (case side2 => exact ts12_ HB.out HI0.out); rintro e w13 ⟨rfl, hi, hb, hk⟩; refine ⟨_, rfl, ?_⟩; replace HK := Aside0.mk (KeepBut.trans (ts53_ HK.out) hk (.inl rfl)); replace HB := Aside0.mk (hb); replace HI0 := Aside0.mk (hi); clear hi hb hk))
    go_ret
    exact ⟨ts42_, ts50_ HI0.out, ts12_ HB.out HI0.out, ts53_ HK.out⟩
   replace c11 := Bool.eq_false_iff.mpr c11
   subst c11
   rw [if_neg Bool.false_ne_true] at H
   obtain ⟨⟨t253, t254, t255, t256, t257, t258, t259, t260⟩, A14, H⟩ := bsA_ H
   try dsimp only at H
   simp only [Option.some.injEq, Prod.mk.injEq] at H
   obtain ⟨rfl, rfl, rfl, rfl, rfl, rfl, rfl, rfl, rfl⟩ := H
   go_wp2_with (first | ((with_reducible refine gate_callee (f := 41) rfl ?_); refine goesL_ (some 32) rfl rfl Tryd.func41 (by kernel_rfl) rfl #[.pointer (some ⟨g, 0, none⟩)] rfl ts17_ ?_; (with_reducible refine (cupelref20_reader_next.calls kj2 g s0_0 s0_1 s0_2 s0_3 s0_4 s0_5 s0_6 s0_7 t253 t254 t255 t256 t257 t258 t259 t260 w0 _ ?side1 ?side2 A14.out).mono ?_); (case side1 => exact ts50_ HI0.out); (case side2 => exact ts12_ HB.out HI0.out); rintro e w15 ⟨rfl, hi, hb, hk⟩; refine ⟨_, rfl, ?_⟩; replace HK := Aside0.mk (KeepBut.trans (ts53_ HK.out) hk (.inl rfl)); replace HB := Aside0.mk (hb); replace HI0 := Aside0.mk (hi); clear hi hb hk))
   go_ret
   exact ⟨ts42_, ts50_ HI0.out, ts12_ HB.out HI0.out, ts53_ HK.out⟩
end Go.Proofs.YtlaijeeeblcinaaDoor.A
