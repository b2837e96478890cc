/- Written by wip/tools/xprint.py, a program of this session that drives the kit's printer. Not trusted: Lean checks it. -/
import Derived.Test.YtlaijeeeblcinaaDoorAx0
import Derived.Test.YtlaijeeeblcinaaDoorAx4
import Derived.Test.YtlaijeeeblcinaaDoorRefNext
import Derived.Test.YtlaijeeeblcinaaDoorAx8
set_option linter.all false
set_option maxHeartbeats 8000000
set_option maxRecDepth 100000
namespace Go.Proofs.YtlaijeeeblcinaaDoor.A
open Go.RowKit Go.Proofs.YtlaijeeeblcinaaDoorW.PrintWords Go.Proofs.YtlaijeeeblcinaaDoorW.PrintLast Go.Proofs.YtlaijeeeblcinaaDoorW.PrintMore
attribute [local go_sem] max2_int min2_int max_two min_two max_three min_three max_four min_four   -- for this text's walks alone
set_option linter.unusedVariables false
set_option linter.unusedSimpArgs false
/-! ### cupelref20_reader_register: function 67 -/
def cupelref20_reader_register.j0 : Nat → ByteArray → Bool → ByteArray → Int → Int → Int → ByteArray → Int → Bool → Int → Option (Int × ByteArray × Int × Int × Int × ByteArray × Int × Bool × Int)
 | 0, _, _, _, _, _, _, _, _, _, _ => none
 | k + 1, x3, x36, x1000, x1001, x1002, x1003, x1004, x1005, x1006, x1007 => if x36 = true then ((cupelref20_reader_wrong.f x1000 x1001 x1002 x1003 x1004 x1005 x1006 x1007).bind fun bt262 => (some (0, bt262.1, bt262.2.1, bt262.2.2.1, bt262.2.2.2.1, bt262.2.2.2.2.1, bt262.2.2.2.2.2.1, bt262.2.2.2.2.2.2.1, bt262.2.2.2.2.2.2.2))) else ((cupelref20_reader_next.f k x1000 x1001 x1002 x1003 x1004 x1005 x1006 x1007).bind fun bt270 => (if 1 < (x3.size : Int) then (some (((bt x3 1) - 48) % 256, bt270.1, bt270.2.1, bt270.2.2.1, bt270.2.2.2.1, bt270.2.2.2.2.1, bt270.2.2.2.2.2.1, bt270.2.2.2.2.2.2.1, bt270.2.2.2.2.2.2.2)) else (none)))
def cupelref20_reader_register.f (k : Nat) (s0_0 : ByteArray) (s0_1 : Int) (s0_2 : Int) (s0_3 : Int) (s0_4 : ByteArray) (s0_5 : Int) (s0_6 : Bool) (s0_7 : Int) : Option (Int × ByteArray × Int × Int × Int × ByteArray × Int × Bool × Int) := if s0_6 = true then (cupelref20_reader_register.j0 k s0_4 true s0_0 s0_1 s0_2 s0_3 s0_4 s0_5 s0_6 s0_7) else (if s0_3 = 97 then (if (s0_4.size : Int) = 2 then (if 0 < (s0_4.size : Int) then (if (bt s0_4 0) = 114 then (if 1 < (s0_4.size : Int) then ((cupelref20_digit.f (bt s0_4 1)).bind fun t261 => (cupelref20_reader_register.j0 k s0_4 (!t261) s0_0 s0_1 s0_2 s0_3 s0_4 s0_5 s0_6 s0_7)) else (none)) else (cupelref20_reader_register.j0 k s0_4 true s0_0 s0_1 s0_2 s0_3 s0_4 s0_5 s0_6 s0_7)) else (none)) else (cupelref20_reader_register.j0 k s0_4 true s0_0 s0_1 s0_2 s0_3 s0_4 s0_5 s0_6 s0_7)) else (cupelref20_reader_register.j0 k s0_4 true s0_0 s0_1 s0_2 s0_3 s0_4 s0_5 s0_6 s0_7))
theorem cupelref20_reader_register.mono_l : ∀ k, (∀ y0 y1 y2 y3 y4 y5 y6 y7 y8 y9, LeO (cupelref20_reader_register.j0 k y0 y1 y2 y3 y4 y5 y6 y7 y8 y9) (cupelref20_reader_register.j0 (k + 1) y0 y1 y2 y3 y4 y5 y6 y7 y8 y9))
 | 0 => fun _ _ _ _ _ _ _ _ _ _ r h => by simp [cupelref20_reader_register.j0] at h
 | k + 1 => by
  have ih0 := cupelref20_reader_register.mono_l k
  ·intro y0 y1 y2 y3 y4 y5 y6 y7 y8 y9
   unfold cupelref20_reader_register.j0
   repeat' first
   | (with_reducible exact ih0 _ _ _ _ _ _ _ _ _ _)
   | (with_reducible exact cupelref20_reader_next.mono _ _ _ _ _ _ _ _ _)
   | (with_reducible exact LeO.refl _)
   | (with_reducible exact LeO.none _)
   | (with_reducible refine LeO.ite ?_ ?_)
   | (with_reducible refine LeO.bind ?_ (fun _ => ?_))
   | exact LeO.none _
   | refine LeO.ite ?_ ?_
   | refine LeO.bind ?_ (fun _ => ?_)
theorem cupelref20_reader_register.mono : ∀ a0 a1 a2 a3 a4 a5 a6 a7 k, LeO (cupelref20_reader_register.f k a0 a1 a2 a3 a4 a5 a6 a7) (cupelref20_reader_register.f (k + 1) a0 a1 a2 a3 a4 a5 a6 a7) := by
 intro a0 a1 a2 a3 a4 a5 a6 a7 k
 have ih0 := cupelref20_reader_register.mono_l k
 unfold cupelref20_reader_register.f
 repeat' first
   | (with_reducible exact ih0 _ _ _ _ _ _ _ _ _ _)
   | (with_reducible exact cupelref20_reader_next.mono _ _ _ _ _ _ _ _ _)
   | (with_reducible exact LeO.refl _)
   | (with_reducible exact LeO.none _)
   | (with_reducible refine LeO.ite ?_ ?_)
   | (with_reducible refine LeO.bind ?_ (fun _ => ?_))
   | exact LeO.none _
   | refine LeO.ite ?_ ?_
   | refine LeO.bind ?_ (fun _ => ?_)
theorem cupelref20_reader_register.calls (k : Nat) (g : Nat) (s0_0 : ByteArray) (s0_1 : Int) (s0_2 : Int) (s0_3 : Int) (s0_4 : ByteArray) (s0_5 : Int) (s0_6 : Bool) (s0_7 : Int) (r1 : Int) (r2 : ByteArray) (r3 : Int) (r4 : Int) (r5 : Int) (r6 : ByteArray) (r7 : Int) (r8 : Bool) (r9 : Int) (w0 w : World) (hI : IsS80 w0 w g s0_0 s0_1 s0_2 s0_3 s0_4 s0_5 s0_6 s0_7) (hB : Below w0.heap.size w0 w) (h : cupelref20_reader_register.f k s0_0 s0_1 s0_2 s0_3 s0_4 s0_5 s0_6 s0_7 = some (r1, r2, r3, r4, r5, r6, r7, r8, r9)) :
  Calls Tryd.prog 67 #[.pointer (some ⟨g, 0, none⟩)] w fun e w' => e = .returned (.int .i64 r1) ∧ IsS80 w0 w' g r2 r3 r4 r5 r6 r7 r8 r9 ∧ Below w0.heap.size w0 w' ∧ KeepBut w w' g none := by
 have HI0 := Aside0.mk hI
 have HK := Aside0.mk (KeepBut.refl w g none)
 have HL := Aside0.mk hB.size
 clear hI
 have HW0 := Aside0.mk hB.size
 have HB := Aside0.mk hB
 clear hB
 have H : (if s0_6 = true then (cupelref20_reader_register.j0 k s0_4 true s0_0 s0_1 s0_2 s0_3 s0_4 s0_5 s0_6 s0_7) else (if s0_3 = 97 then (if (s0_4.size : Int) = 2 then (if 0 < (s0_4.size : Int) then (if (bt s0_4 0) = 114 then (if 1 < (s0_4.size : Int) then ((cupelref20_digit.f (bt s0_4 1)).bind fun t261 => (cupelref20_reader_register.j0 k s0_4 (!t261) s0_0 s0_1 s0_2 s0_3 s0_4 s0_5 s0_6 s0_7)) else (none)) else (cupelref20_reader_register.j0 k s0_4 true s0_0 s0_1 s0_2 s0_3 s0_4 s0_5 s0_6 s0_7)) else (none)) else (cupelref20_reader_register.j0 k s0_4 true s0_0 s0_1 s0_2 s0_3 s0_4 s0_5 s0_6 s0_7)) else (cupelref20_reader_register.j0 k s0_4 true s0_0 s0_1 s0_2 s0_3 s0_4 s0_5 s0_6 s0_7))) = some (r1, r2, r3, r4, r5, r6, r7, r8, r9) := h
 clear h
 have HC2 := Aside0.mk H
 clear H
 obtain ⟨HGz3, hgz3⟩ := HI0.out
 have hcz3_0 := cellS80_0 HGz3
 have hcz3_1 := cellS80_1 HGz3
 have hcz3_2 := cellS80_2 HGz3
 have hcz3_3 := cellS80_3 HGz3
 have hcz3_4 := cellS80_4 HGz3
 have hcz3_5 := cellS80_5 HGz3
 have hcz3_6 := cellS80_6 HGz3
 have hcz3_7 := cellS80_7 HGz3
 have hfz3_0 := blk_frozen HGz3 0
 have hfz3_1 := blk_frozen HGz3 1
 have hfz3_2 := blk_frozen HGz3 2
 have hfz3_3 := blk_frozen HGz3 3
 have hfz3_4 := blk_frozen HGz3 4
 have hfz3_5 := blk_frozen HGz3 5
 have hfz3_6 := blk_frozen HGz3 6
 have hfz3_7 := blk_frozen HGz3 7
 clear HGz3 hgz3
 go_enter Tryd.func67, Tryd.ntmps67
 go_upto_region 2 with (fail)
 go_cut [36] (fun v36 wc => ∃ (kq : Nat) (x36_1 : Bool), v36 = .bool x36_1 ∧ Aside0 (cupelref20_reader_register.j0 kq s0_4 x36_1 s0_0 s0_1 s0_2 s0_3 s0_4 s0_5 s0_6 s0_7 = some (r1, r2, r3, r4, r5, r6, r7, r8, r9)) ∧ Aside0 (kq ≤ k) ∧ Aside0 (IsS80 w0 wc g s0_0 s0_1 s0_2 s0_3 s0_4 s0_5 s0_6 s0_7) ∧ Aside0 (KeepBut w wc g none) ∧ Aside0 (Below w0.heap.size w0 wc))
 case first =>
  have H := HC2.out
  clear HC2
  by_cases c4 : s0_6 = true
  ·subst c4
   rw [if_pos rfl] at H
   have H' := Aside0.mk H
   clear H
   obtain ⟨HGz5, hgz5⟩ := HI0.out
   have hcz5_0 := cellS80_0 HGz5
   have hcz5_1 := cellS80_1 HGz5
   have hcz5_2 := cellS80_2 HGz5
   have hcz5_3 := cellS80_3 HGz5
   have hcz5_4 := cellS80_4 HGz5
   have hcz5_5 := cellS80_5 HGz5
   have hcz5_6 := cellS80_6 HGz5
   have hcz5_7 := cellS80_7 HGz5
   have hfz5_0 := blk_frozen HGz5 0
   have hfz5_1 := blk_frozen HGz5 1
   have hfz5_2 := blk_frozen HGz5 2
   have hfz5_3 := blk_frozen HGz5 3
   have hfz5_4 := blk_frozen HGz5 4
   have hfz5_5 := blk_frozen HGz5 5
   have hfz5_6 := blk_frozen HGz5 6
   have hfz5_7 := blk_frozen HGz5 7
   clear HGz5 hgz5
   go_wp2
   go_meet
   case rel => exact ⟨_, (true), ts51_, H', ⟨ts4_⟩, ⟨ts50_ HI0.out⟩, ⟨ts53_ HK.out⟩, ⟨ts12_ HB.out HI0.out⟩⟩
  replace c4 := Bool.eq_false_iff.mpr c4
  subst c4
  rw [if_neg Bool.false_ne_true] at H
  by_cases c6 : s0_3 = 97
  ·rw [if_pos c6] at H
   have c6b0 : (s0_3 == 97) = true := beq_iff_eq.mpr c6
   have c6b1 : (s0_3 != 97) = false := bne_eq_false_iff_eq.mpr c6
   clear c6
   (first | rw [c6b0] | (simp only [i64_w, i32_w]; rw [c6b0]) | skip)
   by_cases c7 : (s0_4.size : Int) = 2
   ·rw [if_pos c7] at H
    have c7b0 : ((s0_4.size : Int) == 2) = true := beq_iff_eq.mpr c7
    have c7b1 : ((s0_4.size : Int) != 2) = false := bne_eq_false_iff_eq.mpr c7
    clear c7
    by_cases c8 : 0 < (s0_4.size : Int)
    ·rw [if_pos c8] at H
     have c8b0 : decide (0 < (s0_4.size : Int)) = true := decide_eq_true c8
     have c8b1 : decide (0 < s0_4.size) = true := decide_eq_true (by omega)
     clear c8
     by_cases c10 : (bt s0_4 0) = 114
     ·rw [if_pos c10] at H
      have c10b0 : ((bt s0_4 0) == 114) = true := beq_iff_eq.mpr c10
      have c10b1 : ((bt s0_4 0) != 114) = false := bne_eq_false_iff_eq.mpr c10
      clear c10
      by_cases c11 : 1 < (s0_4.size : Int)
      ·rw [if_pos c11] at H
       have c11b0 : decide (1 < (s0_4.size : Int)) = true := decide_eq_true c11
       have c11b1 : decide (1 < s0_4.size) = true := decide_eq_true (by omega)
       clear c11
       obtain ⟨t261, A13, H⟩ := bsA_ H
       try dsimp only at H
       have H' := Aside0.mk H
       clear H
       obtain ⟨HGz14, hgz14⟩ := HI0.out
       have hcz14_0 := cellS80_0 HGz14
       have hcz14_1 := cellS80_1 HGz14
       have hcz14_2 := cellS80_2 HGz14
       have hcz14_3 := cellS80_3 HGz14
       have hcz14_4 := cellS80_4 HGz14
       have hcz14_5 := cellS80_5 HGz14
       have hcz14_6 := cellS80_6 HGz14
       have hcz14_7 := cellS80_7 HGz14
       have hfz14_0 := blk_frozen HGz14 0
       have hfz14_1 := blk_frozen HGz14 1
       have hfz14_2 := blk_frozen HGz14 2
       have hfz14_3 := blk_frozen HGz14 3
       have hfz14_4 := blk_frozen HGz14 4
       have hfz14_5 := blk_frozen HGz14 5
       have hfz14_6 := blk_frozen HGz14 6
       have hfz14_7 := blk_frozen HGz14 7
       clear HGz14 hgz14
       have p9 : 0 ≤ (0 : Int) := (by omega)
       have q9 : 0 < s0_4.size := (by have : (0 : Int) < (s0_4.size : Int) := of_decide_eq_true ts37_; omega)
       have hx9 : ∀ h : 0 < s0_4.size, ((s0_4[0]'h).toNat : Int) = bt s0_4 0 := bt_at s0_4 0
       clear p9
       have qi9 : (0 < (s0_4.size : Int)) = True := eq_true (of_decide_eq_true ts37_)
       replace q9 := eq_true q9
       have p12 : 0 ≤ (1 : Int) := (by omega)
       have q12 : 1 < s0_4.size := (by have : (1 : Int) < (s0_4.size : Int) := of_decide_eq_true ts37_; omega)
       have hx12 : ∀ h : 1 < s0_4.size, ((s0_4[1]'h).toNat : Int) = bt s0_4 1 := bt_at s0_4 1
       clear p12
       have qi12 : (1 < (s0_4.size : Int)) = True := eq_true (of_decide_eq_true ts37_)
       replace q12 := eq_true q12
       go_wp2_with (first | (go_at_call 82; (with_reducible refine (cupelref20_digit.calls (bt s0_4 1) t261 _ A13.out).mono ?_); rintro e w' ⟨rfl, ⟨nd, rfl⟩⟩))
       go_meet
       case rel => exact ⟨_, (!t261), ts51_, H', ⟨ts4_⟩, ⟨ts50_ HI0.out⟩, ⟨ts53_ HK.out⟩, ⟨ts12_ HB.out HI0.out⟩⟩
      rw [if_neg c11] at H
      exact absurd H (by simp)
     rw [if_neg c10] at H
     have c10b0 : ((bt s0_4 0) == 114) = false := beq_eq_false_iff_ne.mpr c10
     have c10b1 : ((bt s0_4 0) != 114) = true := bne_iff_ne.mpr c10
     have H' := Aside0.mk H
     clear H
     obtain ⟨HGz15, hgz15⟩ := HI0.out
     have hcz15_0 := cellS80_0 HGz15
     have hcz15_1 := cellS80_1 HGz15
     have hcz15_2 := cellS80_2 HGz15
     have hcz15_3 := cellS80_3 HGz15
     have hcz15_4 := cellS80_4 HGz15
     have hcz15_5 := cellS80_5 HGz15
     have hcz15_6 := cellS80_6 HGz15
     have hcz15_7 := cellS80_7 HGz15
     have hfz15_0 := blk_frozen HGz15 0
     have hfz15_1 := blk_frozen HGz15 1
     have hfz15_2 := blk_frozen HGz15 2
     have hfz15_3 := blk_frozen HGz15 3
     have hfz15_4 := blk_frozen HGz15 4
     have hfz15_5 := blk_frozen HGz15 5
     have hfz15_6 := blk_frozen HGz15 6
     have hfz15_7 := blk_frozen HGz15 7
     clear HGz15 hgz15
     have p9 : 0 ≤ (0 : Int) := (by omega)
     have q9 : 0 < s0_4.size := (by have : (0 : Int) < (s0_4.size : Int) := of_decide_eq_true ts37_; omega)
     have hx9 : ∀ h : 0 < s0_4.size, ((s0_4[0]'h).toNat : Int) = bt s0_4 0 := bt_at s0_4 0
     clear p9
     have qi9 : (0 < (s0_4.size : Int)) = True := eq_true (of_decide_eq_true ts37_)
     replace q9 := eq_true q9
     go_wp2
     go_meet
     case rel => exact ⟨_, (true), ts51_, H', ⟨ts4_⟩, ⟨ts50_ HI0.out⟩, ⟨ts53_ HK.out⟩, ⟨ts12_ HB.out HI0.out⟩⟩
    rw [if_neg c8] at H
    exact absurd H (by simp)
   rw [if_neg c7] at H
   have c7b0 : ((s0_4.size : Int) == 2) = false := beq_eq_false_iff_ne.mpr c7
   have c7b1 : ((s0_4.size : Int) != 2) = true := bne_iff_ne.mpr c7
   have H' := Aside0.mk H
   clear H
   obtain ⟨HGz16, hgz16⟩ := HI0.out
   have hcz16_0 := cellS80_0 HGz16
   have hcz16_1 := cellS80_1 HGz16
   have hcz16_2 := cellS80_2 HGz16
   have hcz16_3 := cellS80_3 HGz16
   have hcz16_4 := cellS80_4 HGz16
   have hcz16_5 := cellS80_5 HGz16
   have hcz16_6 := cellS80_6 HGz16
   have hcz16_7 := cellS80_7 HGz16
   have hfz16_0 := blk_frozen HGz16 0
   have hfz16_1 := blk_frozen HGz16 1
   have hfz16_2 := blk_frozen HGz16 2
   have hfz16_3 := blk_frozen HGz16 3
   have hfz16_4 := blk_frozen HGz16 4
   have hfz16_5 := blk_frozen HGz16 5
   have hfz16_6 := blk_frozen HGz16 6
   have hfz16_7 := blk_frozen HGz16 7
   clear HGz16 hgz16
   go_wp2
   go_meet
   case rel => exact ⟨_, (true), ts51_, H', ⟨ts4_⟩, ⟨ts50_ HI0.out⟩, ⟨ts53_ HK.out⟩, ⟨ts12_ HB.out HI0.out⟩⟩
  rw [if_neg c6] at H
  have c6b0 : (s0_3 == 97) = false := beq_eq_false_iff_ne.mpr c6
  have c6b1 : (s0_3 != 97) = true := bne_iff_ne.mpr c6
  (first | rw [c6b0] | (simp only [i64_w, i32_w]; rw [c6b0]) | skip)
  have H' := Aside0.mk H
  clear H
  obtain ⟨HGz17, hgz17⟩ := HI0.out
  have hcz17_0 := cellS80_0 HGz17
  have hcz17_1 := cellS80_1 HGz17
  have hcz17_2 := cellS80_2 HGz17
  have hcz17_3 := cellS80_3 HGz17
  have hcz17_4 := cellS80_4 HGz17
  have hcz17_5 := cellS80_5 HGz17
  have hcz17_6 := cellS80_6 HGz17
  have hcz17_7 := cellS80_7 HGz17
  have hfz17_0 := blk_frozen HGz17 0
  have hfz17_1 := blk_frozen HGz17 1
  have hfz17_2 := blk_frozen HGz17 2
  have hfz17_3 := blk_frozen HGz17 3
  have hfz17_4 := blk_frozen HGz17 4
  have hfz17_5 := blk_frozen HGz17 5
  have hfz17_6 := blk_frozen HGz17 6
  have hfz17_7 := blk_frozen HGz17 7
  clear HGz17 hgz17
  go_wp2
  go_meet
  case rel => exact ⟨_, (true), ts51_, H', ⟨ts4_⟩, ⟨ts50_ HI0.out⟩, ⟨ts53_ HK.out⟩, ⟨ts12_ HB.out HI0.out⟩⟩
 case rest =>
  clear HC2 hcz3_0 hcz3_1 hcz3_2 hcz3_3 hcz3_4 hcz3_5 hcz3_6 hcz3_7 hfz3_0 hfz3_1 hfz3_2 hfz3_3 hfz3_4 hfz3_5 hfz3_6 hfz3_7
  obtain ⟨kq, x36_1, rfl, HA, HJ1, HI0, HK, HB⟩ := hcut
  cases kq with
  | zero => exact absurd HA.out (by simp [cupelref20_reader_register.j0])
  | succ kj1 =>
   have H := HA.out
   clear HA
   simp only [cupelref20_reader_register.j0] at H
   by_cases c18 : x36_1 = true
   ·subst c18
    rw [if_pos rfl] at H
    obtain ⟨⟨t262, t263, t264, t265, t266, t267, t268, t269⟩, A19, H⟩ := bsA_ H
    try dsimp only at H
    simp only [Option.some.injEq, Prod.mk.injEq] at H
    obtain ⟨rfl, rfl, rfl, rfl, rfl, rfl, rfl, rfl, rfl⟩ := H
    go_wp2_with (first | ((with_reducible refine gate_callee (f := 47) rfl ?_); refine goesL_ (some 38) rfl rfl Tryd.func47 (by kernel_rfl) rfl #[.pointer (some ⟨g, 0, none⟩)] rfl ts17_ ?_; (with_reducible refine (cupelref20_reader_wrong.calls g s0_0 s0_1 s0_2 s0_3 s0_4 s0_5 s0_6 s0_7 t262 t263 t264 t265 t266 t267 t268 t269 w0 _ ?side1 ?side2 A19.out).mono ?_); (case side1 => exact ts50_ HI0.out); (case side2 => exact ts12_ HB.out HI0.out); rintro e w20 ⟨rfl, hi, hb, hk⟩; refine ⟨_, rfl, ?_⟩; replace HK := Aside0.mk (KeepBut.trans (ts53_ HK.out) hk (.inl rfl)); replace HB := Aside0.mk (hb); replace HI0 := Aside0.mk (hi); clear hi hb hk))
    go_ret
    exact ⟨ts42_, ts50_ HI0.out, ts12_ HB.out HI0.out, ts53_ HK.out⟩
   replace c18 := Bool.eq_false_iff.mpr c18
   subst c18
   rw [if_neg Bool.false_ne_true] at H
   obtain ⟨⟨t270, t271, t272, t273, t274, t275, t276, t277⟩, A21, H⟩ := bsA_ H
   try dsimp only at H
   by_cases c22 : 1 < (s0_4.size : Int)
   ·rw [if_pos c22] at H
    have c22b0 : decide (1 < (s0_4.size : Int)) = true := decide_eq_true c22
    have c22b1 : decide (1 < s0_4.size) = true := decide_eq_true (by omega)
    clear c22
    simp only [Option.some.injEq, Prod.mk.injEq] at H
    obtain ⟨rfl, rfl, rfl, rfl, rfl, rfl, rfl, rfl, rfl⟩ := H
    go_wp2_with (first | ((with_reducible refine gate_callee (f := 41) rfl ?_); refine goesL_ (some 40) rfl rfl Tryd.func41 (by kernel_rfl) rfl #[.pointer (some ⟨g, 0, none⟩)] rfl ts17_ ?_; (with_reducible refine (cupelref20_reader_next.calls kj1 g s0_0 s0_1 s0_2 s0_3 s0_4 s0_5 s0_6 s0_7 t270 t271 t272 t273 t274 t275 t276 t277 w0 _ ?side1 ?side2 A21.out).mono ?_); (case side1 => exact ts50_ HI0.out); (case side2 => exact ts12_ HB.out HI0.out); rintro e w24 ⟨rfl, hi, hb, hk⟩; refine ⟨_, rfl, ?_⟩; replace HK := Aside0.mk (KeepBut.trans (ts53_ HK.out) hk (.inl rfl)); replace HB := Aside0.mk (hb); replace HI0 := Aside0.mk (hi); clear hi hb hk; have p23 : 0 ≤ (1 : Int) := (by omega); have q23 : 1 < s0_4.size := (by have : (1 : Int) < (s0_4.size : Int) := of_decide_eq_true ts37_; omega); have hx23 : ∀ h : 1 < s0_4.size, ((s0_4[1]'h).toNat : Int) = bt s0_4 1 := bt_at s0_4 1; clear p23; have qi23 : (1 < (s0_4.size : Int)) = True := eq_true (of_decide_eq_true ts37_); replace q23 := eq_true q23))
    go_ret
    exact ⟨ts42_, ts50_ HI0.out, ts12_ HB.out HI0.out, ts53_ HK.out⟩
   rw [if_neg c22] at H
   exact absurd H (by simp)
/-! ### cupelref20_reader_place: function 68 -/
def cupelref20_reader_place.f (k : Nat) (s0_0 : ByteArray) (s0_1 : Int) (s0_2 : Int) (s0_3 : Int) (s0_4 : ByteArray) (s0_5 : Int) (s0_6 : Bool) (s0_7 : Int) (a1_0 : Int) (a1_1 : Int) (a1_2 : Int) (a1_3 : Int) (a1_4 : Int) : Option (Int × Int × Int × Int × Int × ByteArray × Int × Int × Int × ByteArray × Int × Bool × Int) := (cupelref20_reader_number.f k s0_0 s0_1 s0_2 s0_3 s0_4 s0_5 s0_6 s0_7 1).bind fun bt280 => ((cupelref20_reader_want.f k bt280.2.1 bt280.2.2.1 bt280.2.2.2.1 bt280.2.2.2.2.1 bt280.2.2.2.2.2.1 bt280.2.2.2.2.2.2.1 bt280.2.2.2.2.2.2.2.1 bt280.2.2.2.2.2.2.2.2 (⟨#[40]⟩ : ByteArray)).bind fun bt289 => ((cupelref20_reader_register.f k bt289.1 bt289.2.1 bt289.2.2.1 bt289.2.2.2.1 bt289.2.2.2.2.1 bt289.2.2.2.2.2.1 bt289.2.2.2.2.2.2.1 bt289.2.2.2.2.2.2.2).bind fun bt297 => ((cupelref20_reader_want.f k bt297.2.1 bt297.2.2.1 bt297.2.2.2.1 bt297.2.2.2.2.1 bt297.2.2.2.2.2.1 bt297.2.2.2.2.2.2.1 bt297.2.2.2.2.2.2.2.1 bt297.2.2.2.2.2.2.2.2 (⟨#[41]⟩ : ByteArray)).bind fun bt306 => (some (a1_0, a1_1, bt297.1, a1_3, bt280.1, bt306.1, bt306.2.1, bt306.2.2.1, bt306.2.2.2.1, bt306.2.2.2.2.1, bt306.2.2.2.2.2.1, bt306.2.2.2.2.2.2.1, bt306.2.2.2.2.2.2.2)))))
theorem cupelref20_reader_place.mono : ∀ a0 a1 a2 a3 a4 a5 a6 a7 a8 a9 a10 a11 a12 k, LeO (cupelref20_reader_place.f k a0 a1 a2 a3 a4 a5 a6 a7 a8 a9 a10 a11 a12) (cupelref20_reader_place.f (k + 1) a0 a1 a2 a3 a4 a5 a6 a7 a8 a9 a10 a11 a12) := by
 intro a0 a1 a2 a3 a4 a5 a6 a7 a8 a9 a10 a11 a12 k
 unfold cupelref20_reader_place.f
 repeat' first
   | (with_reducible exact cupelref20_reader_number.mono _ _ _ _ _ _ _ _ _ _)
   | (with_reducible exact cupelref20_reader_register.mono _ _ _ _ _ _ _ _ _)
   | (with_reducible exact cupelref20_reader_want.mono _ _ _ _ _ _ _ _ _ _)
   | (with_reducible exact LeO.refl _)
   | (with_reducible exact LeO.none _)
   | (with_reducible refine LeO.ite ?_ ?_)
   | (with_reducible refine LeO.bind ?_ (fun _ => ?_))
   | exact LeO.none _
   | refine LeO.ite ?_ ?_
   | refine LeO.bind ?_ (fun _ => ?_)
theorem cupelref20_reader_place.calls (k : Nat) (g : Nat) (s0_0 : ByteArray) (s0_1 : Int) (s0_2 : Int) (s0_3 : Int) (s0_4 : ByteArray) (s0_5 : Int) (s0_6 : Bool) (s0_7 : Int) (a1_0 : Int) (a1_1 : Int) (a1_2 : Int) (a1_3 : Int) (a1_4 : Int) (r1 : Int) (r2 : Int) (r3 : Int) (r4 : Int) (r5 : Int) (r6 : ByteArray) (r7 : Int) (r8 : Int) (r9 : Int) (r10 : ByteArray) (r11 : Int) (r12 : Bool) (r13 : Int) (w0 w : World) (hI : IsS80 w0 w g s0_0 s0_1 s0_2 s0_3 s0_4 s0_5 s0_6 s0_7) (hB : Below w0.heap.size w0 w) (h : cupelref20_reader_place.f k s0_0 s0_1 s0_2 s0_3 s0_4 s0_5 s0_6 s0_7 a1_0 a1_1 a1_2 a1_3 a1_4 = some (r1, r2, r3, r4, r5, r6, r7, r8, r9, r10, r11, r12, r13)) :
  Calls Tryd.prog 68 #[.pointer (some ⟨g, 0, none⟩), .agg #[.int .i64 a1_0, .int .i64 a1_1, .int .i64 a1_2, .int .i64 a1_3, .int .i64 a1_4]] w fun e w' => e = .returned (.agg #[.int .i64 r1, .int .i64 r2, .int .i64 r3, .int .i64 r4, .int .i64 r5]) ∧ IsS80 w0 w' g r6 r7 r8 r9 r10 r11 r12 r13 ∧ Below w0.heap.size w0 w' ∧ KeepBut w w' g none := by
 have hu26 := Tryd.underlying26
 have HI0 := Aside0.mk hI
 have HK := Aside0.mk (KeepBut.refl w g none)
 have HL := Aside0.mk hB.size
 clear hI
 have HW0 := Aside0.mk hB.size
 have HB := Aside0.mk hB
 clear hB
 have H : ((cupelref20_reader_number.f k s0_0 s0_1 s0_2 s0_3 s0_4 s0_5 s0_6 s0_7 1).bind fun bt280 => ((cupelref20_reader_want.f k bt280.2.1 bt280.2.2.1 bt280.2.2.2.1 bt280.2.2.2.2.1 bt280.2.2.2.2.2.1 bt280.2.2.2.2.2.2.1 bt280.2.2.2.2.2.2.2.1 bt280.2.2.2.2.2.2.2.2 (⟨#[40]⟩ : ByteArray)).bind fun bt289 => ((cupelref20_reader_register.f k bt289.1 bt289.2.1 bt289.2.2.1 bt289.2.2.2.1 bt289.2.2.2.2.1 bt289.2.2.2.2.2.1 bt289.2.2.2.2.2.2.1 bt289.2.2.2.2.2.2.2).bind fun bt297 => ((cupelref20_reader_want.f k bt297.2.1 bt297.2.2.1 bt297.2.2.2.1 bt297.2.2.2.2.1 bt297.2.2.2.2.2.1 bt297.2.2.2.2.2.2.1 bt297.2.2.2.2.2.2.2.1 bt297.2.2.2.2.2.2.2.2 (⟨#[41]⟩ : ByteArray)).bind fun bt306 => (some (a1_0, a1_1, bt297.1, a1_3, bt280.1, bt306.1, bt306.2.1, bt306.2.2.1, bt306.2.2.2.1, bt306.2.2.2.2.1, bt306.2.2.2.2.2.1, bt306.2.2.2.2.2.2.1, bt306.2.2.2.2.2.2.2)))))) = some (r1, r2, r3, r4, r5, r6, r7, r8, r9, r10, r11, r12, r13) := h
 clear h
 obtain ⟨⟨t280, t281, t282, t283, t284, t285, t286, t287, t288⟩, A3, H⟩ := bsA_ H
 try dsimp only at H
 obtain ⟨⟨t289, t290, t291, t292, t293, t294, t295, t296⟩, A4, H⟩ := bsA_ H
 try dsimp only at H
 obtain ⟨⟨t297, t298, t299, t300, t301, t302, t303, t304, t305⟩, A5, H⟩ := bsA_ H
 try dsimp only at H
 obtain ⟨⟨t306, t307, t308, t309, t310, t311, t312, t313⟩, A6, H⟩ := bsA_ H
 try dsimp only at H
 simp only [Option.some.injEq, Prod.mk.injEq] at H
 obtain ⟨rfl, rfl, rfl, rfl, rfl, rfl, rfl, rfl, rfl, rfl, rfl, rfl, rfl⟩ := H
 go_enter Tryd.func68, Tryd.ntmps68
 go_wp2_with (first | ((with_reducible refine gate_dst (N := 3) rfl ?_); refine box_event ?hg (N := 3) ?hd (cs := #[.int .i64 a1_0, .int .i64 a1_1, .int .i64 a1_2, .int .i64 a1_3, .int .i64 a1_4]) (t := 26) ?hr ?_; (case hd => rfl); (case hg => rfl); (case hr => exact ts26_); intro gb278 hg w7 hbox hb; replace HB := Aside0.mk (below_step (ts12_ HB.out HI0.out) hb); have BK278 := Aside0.mk (hbox); have GW278 := Aside0.mk ((ts63_ HK.out : w.heap.size ≤ gb278)); have GE278 := Aside0.mk ((Nat.le_trans HW0.out (ts63_ HK.out : w.heap.size ≤ gb278) : w0.heap.size ≤ gb278)); replace HK := Aside0.mk (KeepBut.trans (ts53_ HK.out) (KeepBut.of_below hb g none) (.inl rfl)); have NB0_278 := Aside0.mk ((ts79_ HI0.out : g ≠ gb278)); have NB278_0 := Aside0.mk ((ts65_ HI0.out : gb278 ≠ g)); replace HI0 := Aside0.mk (IsS80.below (ts50_ HI0.out) hb); clear hb hbox hg) | ((with_reducible refine gate_dst (N := 4) rfl ?_); refine box_event ?hg (N := 4) ?hd (cs := #[.int .i64 0, .int .i64 0, .int .i64 0, .int .i64 0, .int .i64 0]) (t := 26) ?hr ?_; (case hd => rfl); (case hg => rfl); (case hr => exact ts26_); intro gb279 hg w8 hbox hb; replace HB := Aside0.mk (below_step (ts9_ HB.out HI0.out GE278.out) hb); have BK279 := Aside0.mk (hbox); have GW279 := Aside0.mk ((ts67_ HK.out GW278.out : w.heap.size ≤ gb279)); have GE279 := Aside0.mk ((Nat.le_trans HW0.out (ts67_ HK.out GW278.out : w.heap.size ≤ gb279) : w0.heap.size ≤ gb279)); replace HK := Aside0.mk (KeepBut.trans (ts28_ HK.out GW278.out) (KeepBut.of_below hb g none) (.inl rfl)); have NB278_279 := Aside0.mk ((by rw [hg]; exact Nat.ne_of_lt (blk_lt (g := gb278) (o := .cells #[.int .i64 a1_0, .int .i64 a1_1, .int .i64 a1_2, .int .i64 a1_3, .int .i64 a1_4] 26 (0, 0)) (ts25_ BK278.out)) : gb278 ≠ gb279)); have NB279_278 := Aside0.mk ((by rw [hg]; exact Nat.ne_of_gt (blk_lt (g := gb278) (o := .cells #[.int .i64 a1_0, .int .i64 a1_1, .int .i64 a1_2, .int .i64 a1_3, .int .i64 a1_4] 26 (0, 0)) (ts25_ BK278.out)) : gb279 ≠ gb278)); replace BK278 := Aside0.mk (blk_below (g := gb278) (o := .cells #[.int .i64 a1_0, .int .i64 a1_1, .int .i64 a1_2, .int .i64 a1_3, .int .i64 a1_4] 26 (0, 0)) (ts25_ BK278.out) hb); have NB0_279 := Aside0.mk ((ts83_ HI0.out NB0_278.out : g ≠ gb279)); have NB279_0 := Aside0.mk ((ts60_ HI0.out NB0_278.out : gb279 ≠ g)); replace HI0 := Aside0.mk (IsS80.below (ts6_ HI0.out NB0_278.out) hb); clear hb hbox hg) | ((with_reducible refine gate_callee (f := 43) rfl ?_); refine goesL_ (some 6) rfl rfl Tryd.func43 (by kernel_rfl) rfl #[.pointer (some ⟨g, 0, none⟩), .int .i64 1] rfl ts17_ ?_; (with_reducible refine (cupelref20_reader_number.calls k g s0_0 s0_1 s0_2 s0_3 s0_4 s0_5 s0_6 s0_7 1 t280 t281 t282 t283 t284 t285 t286 t287 t288 w0 _ ?side1 ?side2 A3.out).mono ?_); (case side1 => exact ts39_ HI0.out NB0_278.out NB0_279.out); (case side2 => exact ts20_ HB.out HI0.out GE278.out GE279.out); rintro e w9 ⟨rfl, hi, hb, hk⟩; refine ⟨_, rfl, ?_⟩; replace BK278 := Aside0.mk (KeepBut.blk hk (g' := gb278) (o := .cells #[.int .i64 a1_0, .int .i64 a1_1, .int .i64 a1_2, .int .i64 a1_3, .int .i64 a1_4] 26 (0, 0)) (ts25_ BK278.out) NB278_0.out (by simp)); replace BK279 := Aside0.mk (KeepBut.blk hk (g' := gb279) (o := .cells #[.int .i64 0, .int .i64 0, .int .i64 0, .int .i64 0, .int .i64 0] 26 (0, 0)) (ts25_ BK279.out) NB279_0.out (by simp)); replace HK := Aside0.mk (KeepBut.trans (ts31_ HK.out GW278.out GW279.out) hk (.inl rfl)); replace HB := Aside0.mk (hb); replace HI0 := Aside0.mk (hi); clear hi hb hk; have hnb10 := NB278_279.out; have hnc10 := NB279_278.out; have hnb11 := NB278_0.out; have hnc11 := NB0_278.out; have hcz12_0 : w9.cell? ⟨gb278, 0, none⟩ = some (.int .i64 a1_0) := (blk_cell BK278.out 0).trans rfl; have hcz12_1 : w9.cell? ⟨gb278, 1, none⟩ = some (.int .i64 a1_1) := (blk_cell BK278.out 1).trans rfl; have hcz12_2 : w9.cell? ⟨gb278, 2, none⟩ = some (.int .i64 a1_2) := (blk_cell BK278.out 2).trans rfl; have hcz12_3 : w9.cell? ⟨gb278, 3, none⟩ = some (.int .i64 a1_3) := (blk_cell BK278.out 3).trans rfl; have hcz12_4 : w9.cell? ⟨gb278, 4, none⟩ = some (.int .i64 a1_4) := (blk_cell BK278.out 4).trans rfl; have hfz12_0 := blk_frozen BK278.out 0; have hfz12_1 := blk_frozen BK278.out 1; have hfz12_2 := blk_frozen BK278.out 2; have hfz12_3 := blk_frozen BK278.out 3; have hfz12_4 := blk_frozen BK278.out 4) | ((with_reducible refine gate_callee (f := 42) rfl ?_); refine goesL_ (some 9) rfl rfl Tryd.func42 (by kernel_rfl) rfl #[.pointer (some ⟨g, 0, none⟩), .string (⟨#[40]⟩ : ByteArray)] rfl ts17_ ?_; (with_reducible refine (cupelref20_reader_want.calls k g t281 t282 t283 t284 t285 t286 t287 t288 (⟨#[40]⟩ : ByteArray) t289 t290 t291 t292 t293 t294 t295 t296 w0 _ ?side1 ?side2 A4.out).mono ?_); (case side1 => exact ts39_ HI0.out NB0_278.out NB0_279.out); (case side2 => exact ts20_ HB.out HI0.out GE278.out GE279.out); rintro e w13 ⟨rfl, hi, hb, hk⟩; refine ⟨_, rfl, ?_⟩; replace BK278 := Aside0.mk (KeepBut.blk hk (g' := gb278) (o := .cells #[.int .i64 a1_0, .int .i64 a1_1, .int .i64 a1_2, .int .i64 a1_3, .int .i64 t280] 26 (0, 0)) (by (with_reducible repeat (first | refine blk_drewN ?_ _ | refine blk_drew ?_ | refine blk_alloc ?_ _)); refine blk_put (cs := #[.int .i64 a1_0, .int .i64 a1_1, .int .i64 a1_2, .int .i64 a1_3, .int .i64 a1_4]) ?_ 4 _ rfl; (with_reducible repeat (first | refine blk_drewN ?_ _ | refine blk_drew ?_ | refine blk_alloc ?_ _)); exact BK278.out) NB278_0.out (by simp)); replace BK279 := Aside0.mk (KeepBut.blk hk (g' := gb279) (o := .cells #[.int .i64 0, .int .i64 0, .int .i64 0, .int .i64 0, .int .i64 0] 26 (0, 0)) (ts19_ NB279_278.out BK279.out) NB279_0.out (by simp)); replace HK := Aside0.mk (KeepBut.trans (ts31_ HK.out GW278.out GW279.out) hk (.inl rfl)); replace HB := Aside0.mk (hb); replace HI0 := Aside0.mk (hi); clear hi hb hk) | ((with_reducible refine gate_callee (f := 67) rfl ?_); refine goesL_ (some 11) rfl rfl Tryd.func67 (by kernel_rfl) rfl #[.pointer (some ⟨g, 0, none⟩)] rfl ts17_ ?_; (with_reducible refine (cupelref20_reader_register.calls k g t289 t290 t291 t292 t293 t294 t295 t296 t297 t298 t299 t300 t301 t302 t303 t304 t305 w0 _ ?side1 ?side2 A5.out).mono ?_); (case side1 => exact ts39_ HI0.out NB0_278.out NB0_279.out); (case side2 => exact ts20_ HB.out HI0.out GE278.out GE279.out); rintro e w14 ⟨rfl, hi, hb, hk⟩; refine ⟨_, rfl, ?_⟩; replace BK278 := Aside0.mk (KeepBut.blk hk (g' := gb278) (o := .cells #[.int .i64 a1_0, .int .i64 a1_1, .int .i64 a1_2, .int .i64 a1_3, .int .i64 t280] 26 (0, 0)) (ts25_ BK278.out) NB278_0.out (by simp)); replace BK279 := Aside0.mk (KeepBut.blk hk (g' := gb279) (o := .cells #[.int .i64 0, .int .i64 0, .int .i64 0, .int .i64 0, .int .i64 0] 26 (0, 0)) (ts25_ BK279.out) NB279_0.out (by simp)); replace HK := Aside0.mk (KeepBut.trans (ts31_ HK.out GW278.out GW279.out) hk (.inl rfl)); replace HB := Aside0.mk (hb); replace HI0 := Aside0.mk (hi); clear hi hb hk; have hcz15_0 : w14.cell? ⟨gb278, 0, none⟩ = some (.int .i64 a1_0) := (blk_cell BK278.out 0).trans rfl; have hcz15_1 : w14.cell? ⟨gb278, 1, none⟩ = some (.int .i64 a1_1) := (blk_cell BK278.out 1).trans rfl; have hcz15_2 : w14.cell? ⟨gb278, 2, none⟩ = some (.int .i64 a1_2) := (blk_cell BK278.out 2).trans rfl; have hcz15_3 : w14.cell? ⟨gb278, 3, none⟩ = some (.int .i64 a1_3) := (blk_cell BK278.out 3).trans rfl; have hcz15_4 : w14.cell? ⟨gb278, 4, none⟩ = some (.int .i64 t280) := (blk_cell BK278.out 4).trans rfl; have hfz15_0 := blk_frozen BK278.out 0; have hfz15_1 := blk_frozen BK278.out 1; have hfz15_2 := blk_frozen BK278.out 2; have hfz15_3 := blk_frozen BK278.out 3; have hfz15_4 := blk_frozen BK278.out 4) | ((with_reducible refine gate_callee (f := 42) rfl ?_); refine goesL_ (some 14) rfl rfl Tryd.func42 (by kernel_rfl) rfl #[.pointer (some ⟨g, 0, none⟩), .string (⟨#[41]⟩ : ByteArray)] rfl ts17_ ?_; (with_reducible refine (cupelref20_reader_want.calls k g t298 t299 t300 t301 t302 t303 t304 t305 (⟨#[41]⟩ : ByteArray) t306 t307 t308 t309 t310 t311 t312 t313 w0 _ ?side1 ?side2 A6.out).mono ?_); (case side1 => exact ts39_ HI0.out NB0_278.out NB0_279.out); (case side2 => exact ts20_ HB.out HI0.out GE278.out GE279.out); rintro e w16 ⟨rfl, hi, hb, hk⟩; refine ⟨_, rfl, ?_⟩; replace BK278 := Aside0.mk (KeepBut.blk hk (g' := gb278) (o := .cells #[.int .i64 a1_0, .int .i64 a1_1, .int .i64 t297, .int .i64 a1_3, .int .i64 t280] 26 (0, 0)) (by (with_reducible repeat (first | refine blk_drewN ?_ _ | refine blk_drew ?_ | refine blk_alloc ?_ _)); refine blk_put (cs := #[.int .i64 a1_0, .int .i64 a1_1, .int .i64 a1_2, .int .i64 a1_3, .int .i64 t280]) ?_ 2 _ rfl; (with_reducible repeat (first | refine blk_drewN ?_ _ | refine blk_drew ?_ | refine blk_alloc ?_ _)); exact BK278.out) NB278_0.out (by simp)); replace BK279 := Aside0.mk (KeepBut.blk hk (g' := gb279) (o := .cells #[.int .i64 0, .int .i64 0, .int .i64 0, .int .i64 0, .int .i64 0] 26 (0, 0)) (ts19_ NB279_278.out BK279.out) NB279_0.out (by simp)); replace HK := Aside0.mk (KeepBut.trans (ts31_ HK.out GW278.out GW279.out) hk (.inl rfl)); replace HB := Aside0.mk (hb); replace HI0 := Aside0.mk (hi); clear hi hb hk; have hcz17_0 : w16.cell? ⟨gb278, 0, none⟩ = some (.int .i64 a1_0) := (blk_cell BK278.out 0).trans rfl; have hcz17_1 : w16.cell? ⟨gb278, 1, none⟩ = some (.int .i64 a1_1) := (blk_cell BK278.out 1).trans rfl; have hcz17_2 : w16.cell? ⟨gb278, 2, none⟩ = some (.int .i64 t297) := (blk_cell BK278.out 2).trans rfl; have hcz17_3 : w16.cell? ⟨gb278, 3, none⟩ = some (.int .i64 a1_3) := (blk_cell BK278.out 3).trans rfl; have hcz17_4 : w16.cell? ⟨gb278, 4, none⟩ = some (.int .i64 t280) := (blk_cell BK278.out 4).trans rfl; have hfz17_0 := blk_frozen BK278.out 0; have hfz17_1 := blk_frozen BK278.out 1; have hfz17_2 := blk_frozen BK278.out 2; have hfz17_3 := blk_frozen BK278.out 3; have hfz17_4 := blk_frozen BK278.out 4; have hnb18 := NB279_0.out; have hnc18 := NB0_279.out; have hcz19_0 : w16.cell? ⟨gb279, 0, none⟩ = some (.int .i64 0) := (blk_cell BK279.out 0).trans rfl; have hcz19_1 : w16.cell? ⟨gb279, 1, none⟩ = some (.int .i64 0) := (blk_cell BK279.out 1).trans rfl; have hcz19_2 : w16.cell? ⟨gb279, 2, none⟩ = some (.int .i64 0) := (blk_cell BK279.out 2).trans rfl; have hcz19_3 : w16.cell? ⟨gb279, 3, none⟩ = some (.int .i64 0) := (blk_cell BK279.out 3).trans rfl; have hcz19_4 : w16.cell? ⟨gb279, 4, none⟩ = some (.int .i64 0) := (blk_cell BK279.out 4).trans rfl; have hfz19_0 := blk_frozen BK279.out 0; have hfz19_1 := blk_frozen BK279.out 1; have hfz19_2 := blk_frozen BK279.out 2; have hfz19_3 := blk_frozen BK279.out 3; have hfz19_4 := blk_frozen BK279.out 4))
 refine bodyPost_ret (results_cell_row rfl _ _ gb279 26 #[.int .i64 a1_0, .int .i64 a1_1, .int .i64 t297, .int .i64 a1_3, .int .i64 t280] (0, 0) _ rfl (by (with_reducible repeat (first | refine blk_drewN ?_ _ | refine blk_drew ?_ | refine blk_alloc ?_ _)); refine blk_put (cs := #[.int .i64 a1_0, .int .i64 a1_1, .int .i64 t297, .int .i64 a1_3, .int .i64 0]) ?_ 4 _ rfl; (with_reducible repeat (first | refine blk_drewN ?_ _ | refine blk_drew ?_ | refine blk_alloc ?_ _)); refine blk_put (cs := #[.int .i64 a1_0, .int .i64 a1_1, .int .i64 t297, .int .i64 0, .int .i64 0]) ?_ 3 _ rfl; (with_reducible repeat (first | refine blk_drewN ?_ _ | refine blk_drew ?_ | refine blk_alloc ?_ _)); refine blk_put (cs := #[.int .i64 a1_0, .int .i64 a1_1, .int .i64 0, .int .i64 0, .int .i64 0]) ?_ 2 _ rfl; (with_reducible repeat (first | refine blk_drewN ?_ _ | refine blk_drew ?_ | refine blk_alloc ?_ _)); refine blk_put (cs := #[.int .i64 a1_0, .int .i64 0, .int .i64 0, .int .i64 0, .int .i64 0]) ?_ 1 _ rfl; (with_reducible repeat (first | refine blk_drewN ?_ _ | refine blk_drew ?_ | refine blk_alloc ?_ _)); refine blk_put (cs := #[.int .i64 0, .int .i64 0, .int .i64 0, .int .i64 0, .int .i64 0]) ?_ 0 _ rfl; (with_reducible repeat (first | refine blk_drewN ?_ _ | refine blk_drew ?_ | refine blk_alloc ?_ _)); exact BK279.out) Tryd.underlying26 rfl (by kernel_rfl)) rfl ?_
 exact ⟨ts42_, ts39_ HI0.out NB0_278.out NB0_279.out, ts20_ HB.out HI0.out GE278.out GE279.out, ts31_ HK.out GW278.out GW279.out⟩
/-! ### cupelref20_reader_comma: function 69 -/
def cupelref20_reader_comma.f (k : Nat) (s0_0 : ByteArray) (s0_1 : Int) (s0_2 : Int) (s0_3 : Int) (s0_4 : ByteArray) (s0_5 : Int) (s0_6 : Bool) (s0_7 : Int) (a1 : Bool) : Option (ByteArray × Int × Int × Int × ByteArray × Int × Bool × Int) := if a1 = true then ((cupelref20_reader_want.f k s0_0 s0_1 s0_2 s0_3 s0_4 s0_5 s0_6 s0_7 (⟨#[44]⟩ : ByteArray)).bind fun bt314 => (some (bt314.1, bt314.2.1, bt314.2.2.1, bt314.2.2.2.1, bt314.2.2.2.2.1, bt314.2.2.2.2.2.1, bt314.2.2.2.2.2.2.1, bt314.2.2.2.2.2.2.2))) else (some (s0_0, s0_1, s0_2, s0_3, s0_4, s0_5, s0_6, s0_7))
theorem cupelref20_reader_comma.mono : ∀ a0 a1 a2 a3 a4 a5 a6 a7 a8 k, LeO (cupelref20_reader_comma.f k a0 a1 a2 a3 a4 a5 a6 a7 a8) (cupelref20_reader_comma.f (k + 1) a0 a1 a2 a3 a4 a5 a6 a7 a8) := by
 intro a0 a1 a2 a3 a4 a5 a6 a7 a8 k
 unfold cupelref20_reader_comma.f
 repeat' first
   | (with_reducible exact cupelref20_reader_want.mono _ _ _ _ _ _ _ _ _ _)
   | (with_reducible exact LeO.refl _)
   | (with_reducible exact LeO.none _)
   | (with_reducible refine LeO.ite ?_ ?_)
   | (with_reducible refine LeO.bind ?_ (fun _ => ?_))
   | exact LeO.none _
   | refine LeO.ite ?_ ?_
   | refine LeO.bind ?_ (fun _ => ?_)
theorem cupelref20_reader_comma.calls (k : Nat) (g : Nat) (s0_0 : ByteArray) (s0_1 : Int) (s0_2 : Int) (s0_3 : Int) (s0_4 : ByteArray) (s0_5 : Int) (s0_6 : Bool) (s0_7 : Int) (a1 : Bool) (r1 : ByteArray) (r2 : Int) (r3 : Int) (r4 : Int) (r5 : ByteArray) (r6 : Int) (r7 : Bool) (r8 : Int) (w0 w : World) (hI : IsS80 w0 w g s0_0 s0_1 s0_2 s0_3 s0_4 s0_5 s0_6 s0_7) (hB : Below w0.heap.size w0 w) (h : cupelref20_reader_comma.f k s0_0 s0_1 s0_2 s0_3 s0_4 s0_5 s0_6 s0_7 a1 = some (r1, r2, r3, r4, r5, r6, r7, r8)) :
  Calls Tryd.prog 69 #[.pointer (some ⟨g, 0, none⟩), .bool a1] w fun e w' => e = .returned (.tuple #[]) ∧ IsS80 w0 w' g r1 r2 r3 r4 r5 r6 r7 r8 ∧ Below w0.heap.size w0 w' ∧ KeepBut w w' g none := by
 have HI0 := Aside0.mk hI
 have HK := Aside0.mk (KeepBut.refl w g none)
 have HL := Aside0.mk hB.size
 clear hI
 have HW0 := Aside0.mk hB.size
 have HB := Aside0.mk hB
 clear hB
 have H : (if a1 = true then ((cupelref20_reader_want.f k s0_0 s0_1 s0_2 s0_3 s0_4 s0_5 s0_6 s0_7 (⟨#[44]⟩ : ByteArray)).bind fun bt314 => (some (bt314.1, bt314.2.1, bt314.2.2.1, bt314.2.2.2.1, bt314.2.2.2.2.1, bt314.2.2.2.2.2.1, bt314.2.2.2.2.2.2.1, bt314.2.2.2.2.2.2.2))) else (some (s0_0, s0_1, s0_2, s0_3, s0_4, s0_5, s0_6, s0_7))) = some (r1, r2, r3, r4, r5, r6, r7, r8) := h
 clear h
 by_cases c3 : a1 = true
 ·subst c3
  rw [if_pos rfl] at H
  obtain ⟨⟨t314, t315, t316, t317, t318, t319, t320, t321⟩, A4, H⟩ := bsA_ H
  try dsimp only at H
  simp only [Option.some.injEq, Prod.mk.injEq] at H
  obtain ⟨rfl, rfl, rfl, rfl, rfl, rfl, rfl, rfl⟩ := H
  go_enter Tryd.func69, Tryd.ntmps69
  go_wp2_with (first | ((with_reducible refine gate_callee (f := 42) rfl ?_); refine goesL_ (some 6) rfl rfl Tryd.func42 (by kernel_rfl) rfl #[.pointer (some ⟨g, 0, none⟩), .string (⟨#[44]⟩ : ByteArray)] rfl ts17_ ?_; (with_reducible refine (cupelref20_reader_want.calls k g s0_0 s0_1 s0_2 s0_3 s0_4 s0_5 s0_6 s0_7 (⟨#[44]⟩ : ByteArray) t314 t315 t316 t317 t318 t319 t320 t321 w0 _ ?side1 ?side2 A4.out).mono ?_); (case side1 => exact ts50_ HI0.out); (case side2 => exact ts12_ HB.out HI0.out); rintro e w5 ⟨rfl, hi, hb, hk⟩; refine ⟨_, rfl, ?_⟩; replace HK := Aside0.mk (KeepBut.trans (ts53_ HK.out) hk (.inl rfl)); replace HB := Aside0.mk (hb); replace HI0 := Aside0.mk (hi); clear hi hb hk))
  first | go_end0 | ((try simp only [Exit.inBlock, Exit.then]); refine bodyPost_ret (results_none rfl _ _ _) rfl ?_)
  exact ⟨ts42_, ts50_ HI0.out, ts12_ HB.out HI0.out, ts53_ HK.out⟩
 replace c3 := Bool.eq_false_iff.mpr c3
 subst c3
 rw [if_neg Bool.false_ne_true] at H
 simp only [Option.some.injEq, Prod.mk.injEq] at H
 obtain ⟨rfl, rfl, rfl, rfl, rfl, rfl, rfl, rfl⟩ := H
 go_enter Tryd.func69, Tryd.ntmps69
 go_wp2
 first | go_end0 | ((try simp only [Exit.inBlock, Exit.then]); refine bodyPost_ret (results_none rfl _ _ _) rfl ?_)
 exact ⟨ts42_, ts50_ HI0.out, ts12_ HB.out HI0.out, ts53_ HK.out⟩
end Go.Proofs.YtlaijeeeblcinaaDoor.A
