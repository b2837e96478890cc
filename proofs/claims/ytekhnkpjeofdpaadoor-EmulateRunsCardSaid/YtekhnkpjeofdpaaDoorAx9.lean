/- Written by wip/tools/xprint.py, a program of this session that drives the kit's printer. Not trusted: Lean checks it. -/
import Derived.Test.YtekhnkpjeofdpaaDoorAx0
import Derived.Test.YtekhnkpjeofdpaaDoorAx4
import Derived.Test.YtekhnkpjeofdpaaDoorAx7
import Derived.Test.YtekhnkpjeofdpaaDoorAx8
import Derived.Test.YtekhnkpjeofdpaaDoorRefNext
namespace Go.Proofs.YtekhnkpjeofdpaaDoor.A
open Go.RowKit Go.Proofs.YtekhnkpjeofdpaaDoorW.PrintWords Go.Proofs.YtekhnkpjeofdpaaDoorW.PrintLast Go.Proofs.YtekhnkpjeofdpaaDoorW.PrintMore
attribute [local go_sem] max2_int min2_int max_two min_two max_three min_three max_four min_four   -- for this text's walks alone
set_option linter.unusedVariables false
set_option linter.unusedSimpArgs false
/-! ### cupelref20_reader_register: function 81 -/
def cupelref20_reader_register.j0 : Nat → ByteArray → Bool → ByteArray → Int → Int → Int → ByteArray → Int → Bool → Int → Option (Int × ByteArray × Int × Int × Int × ByteArray × Int × Bool × Int)
 | 0, _, _, _, _, _, _, _, _, _, _ => none
 | k + 1, x3, x36, x1000, x1001, x1002, x1003, x1004, x1005, x1006, x1007 => if x36 = true then ((cupelref20_reader_wrong.f x1000 x1001 x1002 x1003 x1004 x1005 x1006 x1007).bind fun bt235 => (some (0, bt235.1, bt235.2.1, bt235.2.2.1, bt235.2.2.2.1, bt235.2.2.2.2.1, bt235.2.2.2.2.2.1, bt235.2.2.2.2.2.2.1, bt235.2.2.2.2.2.2.2))) else ((cupelref20_reader_next.f k x1000 x1001 x1002 x1003 x1004 x1005 x1006 x1007).bind fun bt243 => (if 1 < (x3.size : Int) then (some (((bt x3 1) - 48) % 256, bt243.1, bt243.2.1, bt243.2.2.1, bt243.2.2.2.1, bt243.2.2.2.2.1, bt243.2.2.2.2.2.1, bt243.2.2.2.2.2.2.1, bt243.2.2.2.2.2.2.2)) else (none)))
def cupelref20_reader_register.f (k : Nat) (s0_0 : ByteArray) (s0_1 : Int) (s0_2 : Int) (s0_3 : Int) (s0_4 : ByteArray) (s0_5 : Int) (s0_6 : Bool) (s0_7 : Int) : Option (Int × ByteArray × Int × Int × Int × ByteArray × Int × Bool × Int) := if s0_6 = true then (cupelref20_reader_register.j0 k s0_4 true s0_0 s0_1 s0_2 s0_3 s0_4 s0_5 s0_6 s0_7) else (if s0_3 = 97 then (if (s0_4.size : Int) = 2 then (if 0 < (s0_4.size : Int) then (if (bt s0_4 0) = 114 then (if 1 < (s0_4.size : Int) then ((cupelref20_digit.f (bt s0_4 1)).bind fun t234 => (cupelref20_reader_register.j0 k s0_4 (!t234) s0_0 s0_1 s0_2 s0_3 s0_4 s0_5 s0_6 s0_7)) else (none)) else (cupelref20_reader_register.j0 k s0_4 true s0_0 s0_1 s0_2 s0_3 s0_4 s0_5 s0_6 s0_7)) else (none)) else (cupelref20_reader_register.j0 k s0_4 true s0_0 s0_1 s0_2 s0_3 s0_4 s0_5 s0_6 s0_7)) else (cupelref20_reader_register.j0 k s0_4 true s0_0 s0_1 s0_2 s0_3 s0_4 s0_5 s0_6 s0_7))
set_option maxHeartbeats 8000000 in
set_option maxRecDepth 100000 in
theorem cupelref20_reader_register.calls (k : Nat) (g : Nat) (s0_0 : ByteArray) (s0_1 : Int) (s0_2 : Int) (s0_3 : Int) (s0_4 : ByteArray) (s0_5 : Int) (s0_6 : Bool) (s0_7 : Int) (r1 : Int) (r2 : ByteArray) (r3 : Int) (r4 : Int) (r5 : Int) (r6 : ByteArray) (r7 : Int) (r8 : Bool) (r9 : Int) (w0 w : World) (hI : IsS105 w0 w g s0_0 s0_1 s0_2 s0_3 s0_4 s0_5 s0_6 s0_7) (hB : Below w0.heap.size w0 w) (h : cupelref20_reader_register.f k s0_0 s0_1 s0_2 s0_3 s0_4 s0_5 s0_6 s0_7 = some (r1, r2, r3, r4, r5, r6, r7, r8, r9)) :
  Calls Tryd.prog 81 #[.pointer (some ⟨g, 0, none⟩)] w fun e w' => e = .returned (.int .i64 r1) ∧ IsS105 w0 w' g r2 r3 r4 r5 r6 r7 r8 r9 ∧ Below w0.heap.size w0 w' ∧ KeepBut w w' g none := by
 have HI0 := Aside0.mk hI
 have HK := Aside0.mk (KeepBut.refl w g none)
 have HL := Aside0.mk hB.size
 clear hI
 have HW0 := Aside0.mk hB.size
 have HB := Aside0.mk hB
 clear hB
 have H : (if s0_6 = true then (cupelref20_reader_register.j0 k s0_4 true s0_0 s0_1 s0_2 s0_3 s0_4 s0_5 s0_6 s0_7) else (if s0_3 = 97 then (if (s0_4.size : Int) = 2 then (if 0 < (s0_4.size : Int) then (if (bt s0_4 0) = 114 then (if 1 < (s0_4.size : Int) then ((cupelref20_digit.f (bt s0_4 1)).bind fun t234 => (cupelref20_reader_register.j0 k s0_4 (!t234) s0_0 s0_1 s0_2 s0_3 s0_4 s0_5 s0_6 s0_7)) else (none)) else (cupelref20_reader_register.j0 k s0_4 true s0_0 s0_1 s0_2 s0_3 s0_4 s0_5 s0_6 s0_7)) else (none)) else (cupelref20_reader_register.j0 k s0_4 true s0_0 s0_1 s0_2 s0_3 s0_4 s0_5 s0_6 s0_7)) else (cupelref20_reader_register.j0 k s0_4 true s0_0 s0_1 s0_2 s0_3 s0_4 s0_5 s0_6 s0_7))) = some (r1, r2, r3, r4, r5, r6, r7, r8, r9) := h
 clear h
 have HC2 := Aside0.mk H
 clear H
 obtain ⟨HGz3, hgz3⟩ := HI0.out
 have hcz3_0 := cellS105_0 HGz3
 have hcz3_1 := cellS105_1 HGz3
 have hcz3_2 := cellS105_2 HGz3
 have hcz3_3 := cellS105_3 HGz3
 have hcz3_4 := cellS105_4 HGz3
 have hcz3_5 := cellS105_5 HGz3
 have hcz3_6 := cellS105_6 HGz3
 have hcz3_7 := cellS105_7 HGz3
 have hfz3_0 := blk_frozen HGz3 0
 have hfz3_1 := blk_frozen HGz3 1
 have hfz3_2 := blk_frozen HGz3 2
 have hfz3_3 := blk_frozen HGz3 3
 have hfz3_4 := blk_frozen HGz3 4
 have hfz3_5 := blk_frozen HGz3 5
 have hfz3_6 := blk_frozen HGz3 6
 have hfz3_7 := blk_frozen HGz3 7
 clear HGz3 hgz3
 go_enter Tryd.func81, Tryd.ntmps81
 go_upto_region 2 with (fail)
 go_cut [36] (fun v36 wc => ∃ (kq : Nat) (x36_1 : Bool), v36 = .bool x36_1 ∧ Aside0 (cupelref20_reader_register.j0 kq s0_4 x36_1 s0_0 s0_1 s0_2 s0_3 s0_4 s0_5 s0_6 s0_7 = some (r1, r2, r3, r4, r5, r6, r7, r8, r9)) ∧ Aside0 (kq ≤ k) ∧ Aside0 (IsS105 w0 wc g s0_0 s0_1 s0_2 s0_3 s0_4 s0_5 s0_6 s0_7) ∧ Aside0 (KeepBut w wc g none) ∧ Aside0 (Below w0.heap.size w0 wc))
 case first =>
  have H := HC2.out
  clear HC2
  by_cases c4 : s0_6 = true
  ·subst c4
   rw [if_pos rfl] at H
   have H' := Aside0.mk H
   clear H
   obtain ⟨HGz5, hgz5⟩ := HI0.out
   have hcz5_0 := cellS105_0 HGz5
   have hcz5_1 := cellS105_1 HGz5
   have hcz5_2 := cellS105_2 HGz5
   have hcz5_3 := cellS105_3 HGz5
   have hcz5_4 := cellS105_4 HGz5
   have hcz5_5 := cellS105_5 HGz5
   have hcz5_6 := cellS105_6 HGz5
   have hcz5_7 := cellS105_7 HGz5
   have hfz5_0 := blk_frozen HGz5 0
   have hfz5_1 := blk_frozen HGz5 1
   have hfz5_2 := blk_frozen HGz5 2
   have hfz5_3 := blk_frozen HGz5 3
   have hfz5_4 := blk_frozen HGz5 4
   have hfz5_5 := blk_frozen HGz5 5
   have hfz5_6 := blk_frozen HGz5 6
   have hfz5_7 := blk_frozen HGz5 7
   clear HGz5 hgz5
   go_wp2
   go_meet
   case rel => exact ⟨_, (true), ts36_, H', ⟨ts18_⟩, ⟨ts55_ HI0.out⟩, ⟨ts51_ HK.out⟩, ⟨ts5_ HB.out HI0.out⟩⟩
  ·replace c4 := Bool.eq_false_iff.mpr c4
   subst c4
   rw [if_neg Bool.false_ne_true] at H
   by_cases c6 : s0_3 = 97
   ·rw [if_pos c6] at H
    have c6b0 : (s0_3 == 97) = true := beq_iff_eq.mpr c6
    have c6b1 : (s0_3 != 97) = false := bne_eq_false_iff_eq.mpr c6
    clear c6
    (first | rw [c6b0] | (simp only [i64_w, i32_w]; rw [c6b0]) | skip)
    by_cases c7 : (s0_4.size : Int) = 2
    ·rw [if_pos c7] at H
     have c7b0 : ((s0_4.size : Int) == 2) = true := beq_iff_eq.mpr c7
     have c7b1 : ((s0_4.size : Int) != 2) = false := bne_eq_false_iff_eq.mpr c7
     clear c7
     by_cases c8 : 0 < (s0_4.size : Int)
     ·rw [if_pos c8] at H
      have c8b0 : decide (0 < (s0_4.size : Int)) = true := decide_eq_true c8
      have c8b1 : decide (0 < s0_4.size) = true := decide_eq_true (by omega)
      clear c8
      by_cases c10 : (bt s0_4 0) = 114
      ·rw [if_pos c10] at H
       have c10b0 : ((bt s0_4 0) == 114) = true := beq_iff_eq.mpr c10
       have c10b1 : ((bt s0_4 0) != 114) = false := bne_eq_false_iff_eq.mpr c10
       clear c10
       by_cases c11 : 1 < (s0_4.size : Int)
       ·rw [if_pos c11] at H
        have c11b0 : decide (1 < (s0_4.size : Int)) = true := decide_eq_true c11
        have c11b1 : decide (1 < s0_4.size) = true := decide_eq_true (by omega)
        clear c11
        replace H := Option.bind_eq_some_iff.mp H
        obtain ⟨t234, A130, H⟩ := H
        try dsimp only at H
        have A13 := Aside0.mk A130
        clear A130
        have H' := Aside0.mk H
        clear H
        obtain ⟨HGz14, hgz14⟩ := HI0.out
        have hcz14_0 := cellS105_0 HGz14
        have hcz14_1 := cellS105_1 HGz14
        have hcz14_2 := cellS105_2 HGz14
        have hcz14_3 := cellS105_3 HGz14
        have hcz14_4 := cellS105_4 HGz14
        have hcz14_5 := cellS105_5 HGz14
        have hcz14_6 := cellS105_6 HGz14
        have hcz14_7 := cellS105_7 HGz14
        have hfz14_0 := blk_frozen HGz14 0
        have hfz14_1 := blk_frozen HGz14 1
        have hfz14_2 := blk_frozen HGz14 2
        have hfz14_3 := blk_frozen HGz14 3
        have hfz14_4 := blk_frozen HGz14 4
        have hfz14_5 := blk_frozen HGz14 5
        have hfz14_6 := blk_frozen HGz14 6
        have hfz14_7 := blk_frozen HGz14 7
        clear HGz14 hgz14
        have p9 : 0 ≤ (0 : Int) := (by omega)
        have q9 : 0 < s0_4.size := (by have : (0 : Int) < (s0_4.size : Int) := of_decide_eq_true ts7_; omega)
        have hx9 : ∀ h : 0 < s0_4.size, ((s0_4[0]'h).toNat : Int) = bt s0_4 0 := bt_at s0_4 0
        clear p9
        have qi9 : (0 < (s0_4.size : Int)) = True := eq_true (of_decide_eq_true ts7_)
        replace q9 := eq_true q9
        have p12 : 0 ≤ (1 : Int) := (by omega)
        have q12 : 1 < s0_4.size := (by have : (1 : Int) < (s0_4.size : Int) := of_decide_eq_true ts7_; omega)
        have hx12 : ∀ h : 1 < s0_4.size, ((s0_4[1]'h).toNat : Int) = bt s0_4 1 := bt_at s0_4 1
        clear p12
        have qi12 : (1 < (s0_4.size : Int)) = True := eq_true (of_decide_eq_true ts7_)
        replace q12 := eq_true q12
        go_wp2_with (first | (go_at_call 86; (with_reducible refine (cupelref20_digit.calls (bt s0_4 1) t234 _ A13.out).mono ?_); rintro e w' ⟨rfl, ⟨nd, rfl⟩⟩))
        go_meet
        case rel => exact ⟨_, (!t234), ts36_, H', ⟨ts18_⟩, ⟨ts55_ HI0.out⟩, ⟨ts51_ HK.out⟩, ⟨ts5_ HB.out HI0.out⟩⟩
       ·rw [if_neg c11] at H
        exact absurd H (by simp)
      ·rw [if_neg c10] at H
       have c10b0 : ((bt s0_4 0) == 114) = false := beq_eq_false_iff_ne.mpr c10
       have c10b1 : ((bt s0_4 0) != 114) = true := bne_iff_ne.mpr c10
       have H' := Aside0.mk H
       clear H
       obtain ⟨HGz15, hgz15⟩ := HI0.out
       have hcz15_0 := cellS105_0 HGz15
       have hcz15_1 := cellS105_1 HGz15
       have hcz15_2 := cellS105_2 HGz15
       have hcz15_3 := cellS105_3 HGz15
       have hcz15_4 := cellS105_4 HGz15
       have hcz15_5 := cellS105_5 HGz15
       have hcz15_6 := cellS105_6 HGz15
       have hcz15_7 := cellS105_7 HGz15
       have hfz15_0 := blk_frozen HGz15 0
       have hfz15_1 := blk_frozen HGz15 1
       have hfz15_2 := blk_frozen HGz15 2
       have hfz15_3 := blk_frozen HGz15 3
       have hfz15_4 := blk_frozen HGz15 4
       have hfz15_5 := blk_frozen HGz15 5
       have hfz15_6 := blk_frozen HGz15 6
       have hfz15_7 := blk_frozen HGz15 7
       clear HGz15 hgz15
       have p9 : 0 ≤ (0 : Int) := (by omega)
       have q9 : 0 < s0_4.size := (by have : (0 : Int) < (s0_4.size : Int) := of_decide_eq_true ts7_; omega)
       have hx9 : ∀ h : 0 < s0_4.size, ((s0_4[0]'h).toNat : Int) = bt s0_4 0 := bt_at s0_4 0
       clear p9
       have qi9 : (0 < (s0_4.size : Int)) = True := eq_true (of_decide_eq_true ts7_)
       replace q9 := eq_true q9
       go_wp2
       go_meet
       case rel => exact ⟨_, (true), ts36_, H', ⟨ts18_⟩, ⟨ts55_ HI0.out⟩, ⟨ts51_ HK.out⟩, ⟨ts5_ HB.out HI0.out⟩⟩
     ·rw [if_neg c8] at H
      exact absurd H (by simp)
    ·rw [if_neg c7] at H
     have c7b0 : ((s0_4.size : Int) == 2) = false := beq_eq_false_iff_ne.mpr c7
     have c7b1 : ((s0_4.size : Int) != 2) = true := bne_iff_ne.mpr c7
     have H' := Aside0.mk H
     clear H
     obtain ⟨HGz16, hgz16⟩ := HI0.out
     have hcz16_0 := cellS105_0 HGz16
     have hcz16_1 := cellS105_1 HGz16
     have hcz16_2 := cellS105_2 HGz16
     have hcz16_3 := cellS105_3 HGz16
     have hcz16_4 := cellS105_4 HGz16
     have hcz16_5 := cellS105_5 HGz16
     have hcz16_6 := cellS105_6 HGz16
     have hcz16_7 := cellS105_7 HGz16
     have hfz16_0 := blk_frozen HGz16 0
     have hfz16_1 := blk_frozen HGz16 1
     have hfz16_2 := blk_frozen HGz16 2
     have hfz16_3 := blk_frozen HGz16 3
     have hfz16_4 := blk_frozen HGz16 4
     have hfz16_5 := blk_frozen HGz16 5
     have hfz16_6 := blk_frozen HGz16 6
     have hfz16_7 := blk_frozen HGz16 7
     clear HGz16 hgz16
     go_wp2
     go_meet
     case rel => exact ⟨_, (true), ts36_, H', ⟨ts18_⟩, ⟨ts55_ HI0.out⟩, ⟨ts51_ HK.out⟩, ⟨ts5_ HB.out HI0.out⟩⟩
   ·rw [if_neg c6] at H
    have c6b0 : (s0_3 == 97) = false := beq_eq_false_iff_ne.mpr c6
    have c6b1 : (s0_3 != 97) = true := bne_iff_ne.mpr c6
    (first | rw [c6b0] | (simp only [i64_w, i32_w]; rw [c6b0]) | skip)
    have H' := Aside0.mk H
    clear H
    obtain ⟨HGz17, hgz17⟩ := HI0.out
    have hcz17_0 := cellS105_0 HGz17
    have hcz17_1 := cellS105_1 HGz17
    have hcz17_2 := cellS105_2 HGz17
    have hcz17_3 := cellS105_3 HGz17
    have hcz17_4 := cellS105_4 HGz17
    have hcz17_5 := cellS105_5 HGz17
    have hcz17_6 := cellS105_6 HGz17
    have hcz17_7 := cellS105_7 HGz17
    have hfz17_0 := blk_frozen HGz17 0
    have hfz17_1 := blk_frozen HGz17 1
    have hfz17_2 := blk_frozen HGz17 2
    have hfz17_3 := blk_frozen HGz17 3
    have hfz17_4 := blk_frozen HGz17 4
    have hfz17_5 := blk_frozen HGz17 5
    have hfz17_6 := blk_frozen HGz17 6
    have hfz17_7 := blk_frozen HGz17 7
    clear HGz17 hgz17
    go_wp2
    go_meet
    case rel => exact ⟨_, (true), ts36_, H', ⟨ts18_⟩, ⟨ts55_ HI0.out⟩, ⟨ts51_ HK.out⟩, ⟨ts5_ HB.out HI0.out⟩⟩
 case rest =>
  clear HC2
  try clear c1
  try clear p1
  try clear q1
  try clear hx1
  try clear qi1
  try clear p2
  try clear c4
  try clear c6
  try clear c6b0
  try clear c6b1
  try clear c7
  try clear c7b0
  try clear c7b1
  try clear c8
  try clear c8b0
  try clear c8b1
  try clear p9
  try clear q9
  try clear hx9
  try clear qi9
  try clear c10
  try clear c10b0
  try clear c10b1
  try clear c11
  try clear c11b0
  try clear c11b1
  try clear p12
  try clear q12
  try clear hx12
  try clear qi12
  try clear hcz14_0
  try clear hcz14_1
  try clear hcz14_2
  try clear hcz14_3
  try clear hcz14_4
  try clear hcz14_5
  try clear hcz14_6
  try clear hcz14_7
  try clear hcz15_0
  try clear hcz15_1
  try clear hcz15_2
  try clear hcz15_3
  try clear hcz15_4
  try clear hcz15_5
  try clear hcz15_6
  try clear hcz15_7
  try clear hcz16_0
  try clear hcz16_1
  try clear hcz16_2
  try clear hcz16_3
  try clear hcz16_4
  try clear hcz16_5
  try clear hcz16_6
  try clear hcz16_7
  try clear hcz17_0
  try clear hcz17_1
  try clear hcz17_2
  try clear hcz17_3
  try clear hcz17_4
  try clear hcz17_5
  try clear hcz17_6
  try clear hcz17_7
  try clear hcz3_0
  try clear hcz3_1
  try clear hcz3_2
  try clear hcz3_3
  try clear hcz3_4
  try clear hcz3_5
  try clear hcz3_6
  try clear hcz3_7
  try clear hcz5_0
  try clear hcz5_1
  try clear hcz5_2
  try clear hcz5_3
  try clear hcz5_4
  try clear hcz5_5
  try clear hcz5_6
  try clear hcz5_7
  try clear hfz14_0
  try clear hfz14_1
  try clear hfz14_2
  try clear hfz14_3
  try clear hfz14_4
  try clear hfz14_5
  try clear hfz14_6
  try clear hfz14_7
  try clear hfz15_0
  try clear hfz15_1
  try clear hfz15_2
  try clear hfz15_3
  try clear hfz15_4
  try clear hfz15_5
  try clear hfz15_6
  try clear hfz15_7
  try clear hfz16_0
  try clear hfz16_1
  try clear hfz16_2
  try clear hfz16_3
  try clear hfz16_4
  try clear hfz16_5
  try clear hfz16_6
  try clear hfz16_7
  try clear hfz17_0
  try clear hfz17_1
  try clear hfz17_2
  try clear hfz17_3
  try clear hfz17_4
  try clear hfz17_5
  try clear hfz17_6
  try clear hfz17_7
  try clear hfz3_0
  try clear hfz3_1
  try clear hfz3_2
  try clear hfz3_3
  try clear hfz3_4
  try clear hfz3_5
  try clear hfz3_6
  try clear hfz3_7
  try clear hfz5_0
  try clear hfz5_1
  try clear hfz5_2
  try clear hfz5_3
  try clear hfz5_4
  try clear hfz5_5
  try clear hfz5_6
  try clear hfz5_7
  try clear p12
  try clear p9
  try clear q12
  try clear q9
  obtain ⟨kq, x36_1, rfl, HA, HJ1, HI0, HK, HB⟩ := hcut
  cases kq with
  | zero => exact absurd HA.out (by simp [cupelref20_reader_register.j0])
  | succ kj1 =>
   have H := HA.out
   clear HA
   simp only [cupelref20_reader_register.j0] at H
   by_cases c18 : x36_1 = true
   ·subst c18
    rw [if_pos rfl] at H
    replace H := Option.bind_eq_some_iff.mp H
    obtain ⟨⟨t235, t236, t237, t238, t239, t240, t241, t242⟩, A190, H⟩ := H
    try dsimp only at H
    have A19 := Aside0.mk A190
    clear A190
    simp only [Option.some.injEq, Prod.mk.injEq] at H
    obtain ⟨rfl, rfl, rfl, rfl, rfl, rfl, rfl, rfl, rfl⟩ := H
    go_wp2_with (first | ((with_reducible refine gate_callee (f := 74) rfl ?_); refine goesL_ (some 38) rfl rfl Tryd.func74 (by kernel_rfl) rfl #[.pointer (some ⟨g, 0, none⟩)] rfl ts47_ ?_; (with_reducible refine (cupelref20_reader_wrong.calls g s0_0 s0_1 s0_2 s0_3 s0_4 s0_5 s0_6 s0_7 t235 t236 t237 t238 t239 t240 t241 t242 w0 _ ?side1 ?side2 A19.out).mono ?_); (case side1 => exact ts55_ HI0.out); (case side2 => exact ts5_ HB.out HI0.out); rintro e w20 ⟨rfl, hi, hb, hk⟩; refine ⟨_, rfl, ?_⟩; have n0_ := Aside0.mk (KeepBut.trans (ts51_ HK.out) hk (.inl rfl)); have n1_ := Aside0.mk (hb); have n2_ := Aside0.mk (hi); clear HK; clear HB; clear HI0; have HK := n0_; have HB := n1_; have HI0 := n2_; clear n0_ n1_ n2_; (try clear hb); (try clear hb2); (try clear hk); (try clear hi)))
    go_ret
    exact ⟨ts9_, ts55_ HI0.out, ts5_ HB.out HI0.out, ts51_ HK.out⟩
   ·replace c18 := Bool.eq_false_iff.mpr c18
    subst c18
    rw [if_neg Bool.false_ne_true] at H
    replace H := Option.bind_eq_some_iff.mp H
    obtain ⟨⟨t243, t244, t245, t246, t247, t248, t249, t250⟩, A210, H⟩ := H
    try dsimp only at H
    have A21 := Aside0.mk A210
    clear A210
    by_cases c22 : 1 < (s0_4.size : Int)
    ·rw [if_pos c22] at H
     have c22b0 : decide (1 < (s0_4.size : Int)) = true := decide_eq_true c22
     have c22b1 : decide (1 < s0_4.size) = true := decide_eq_true (by omega)
     clear c22
     simp only [Option.some.injEq, Prod.mk.injEq] at H
     obtain ⟨rfl, rfl, rfl, rfl, rfl, rfl, rfl, rfl, rfl⟩ := H
     go_wp2_with (first | ((with_reducible refine gate_callee (f := 68) rfl ?_); refine goesL_ (some 40) rfl rfl Tryd.func68 (by kernel_rfl) rfl #[.pointer (some ⟨g, 0, none⟩)] rfl ts47_ ?_; (with_reducible refine (cupelref20_reader_next.calls kj1 g s0_0 s0_1 s0_2 s0_3 s0_4 s0_5 s0_6 s0_7 t243 t244 t245 t246 t247 t248 t249 t250 w0 _ ?side1 ?side2 A21.out).mono ?_); (case side1 => exact ts55_ HI0.out); (case side2 => exact ts5_ HB.out HI0.out); rintro e w24 ⟨rfl, hi, hb, hk⟩; refine ⟨_, rfl, ?_⟩; have n0_ := Aside0.mk (KeepBut.trans (ts51_ HK.out) hk (.inl rfl)); have n1_ := Aside0.mk (hb); have n2_ := Aside0.mk (hi); clear HK; clear HB; clear HI0; have HK := n0_; have HB := n1_; have HI0 := n2_; clear n0_ n1_ n2_; (try clear hb); (try clear hb2); (try clear hk); (try clear hi); have p23 : 0 ≤ (1 : Int) := (by omega); have q23 : 1 < s0_4.size := (by have : (1 : Int) < (s0_4.size : Int) := of_decide_eq_true ts7_; omega); have hx23 : ∀ h : 1 < s0_4.size, ((s0_4[1]'h).toNat : Int) = bt s0_4 1 := bt_at s0_4 1; clear p23; have qi23 : (1 < (s0_4.size : Int)) = True := eq_true (of_decide_eq_true ts7_); replace q23 := eq_true q23))
     go_ret
     exact ⟨ts9_, ts55_ HI0.out, ts5_ HB.out HI0.out, ts51_ HK.out⟩
    ·rw [if_neg c22] at H
     exact absurd H (by simp)
/-! ### cupelref20_reader_place: function 82 -/
def cupelref20_reader_place.f (k : Nat) (s0_0 : ByteArray) (s0_1 : Int) (s0_2 : Int) (s0_3 : Int) (s0_4 : ByteArray) (s0_5 : Int) (s0_6 : Bool) (s0_7 : Int) (a1_0 : Int) (a1_1 : Int) (a1_2 : Int) (a1_3 : Int) (a1_4 : Int) : Option (Int × Int × Int × Int × Int × ByteArray × Int × Int × Int × ByteArray × Int × Bool × Int) := (cupelref20_reader_number.f k s0_0 s0_1 s0_2 s0_3 s0_4 s0_5 s0_6 s0_7 1).bind fun bt253 => ((cupelref20_reader_want.f k bt253.2.1 bt253.2.2.1 bt253.2.2.2.1 bt253.2.2.2.2.1 bt253.2.2.2.2.2.1 bt253.2.2.2.2.2.2.1 bt253.2.2.2.2.2.2.2.1 bt253.2.2.2.2.2.2.2.2 (⟨#[40]⟩ : ByteArray)).bind fun bt262 => ((cupelref20_reader_register.f k bt262.1 bt262.2.1 bt262.2.2.1 bt262.2.2.2.1 bt262.2.2.2.2.1 bt262.2.2.2.2.2.1 bt262.2.2.2.2.2.2.1 bt262.2.2.2.2.2.2.2).bind fun bt270 => ((cupelref20_reader_want.f k bt270.2.1 bt270.2.2.1 bt270.2.2.2.1 bt270.2.2.2.2.1 bt270.2.2.2.2.2.1 bt270.2.2.2.2.2.2.1 bt270.2.2.2.2.2.2.2.1 bt270.2.2.2.2.2.2.2.2 (⟨#[41]⟩ : ByteArray)).bind fun bt279 => (some (a1_0, a1_1, bt270.1, a1_3, bt253.1, bt279.1, bt279.2.1, bt279.2.2.1, bt279.2.2.2.1, bt279.2.2.2.2.1, bt279.2.2.2.2.2.1, bt279.2.2.2.2.2.2.1, bt279.2.2.2.2.2.2.2)))))
set_option maxHeartbeats 8000000 in
set_option maxRecDepth 100000 in
theorem cupelref20_reader_place.calls (k : Nat) (g : Nat) (s0_0 : ByteArray) (s0_1 : Int) (s0_2 : Int) (s0_3 : Int) (s0_4 : ByteArray) (s0_5 : Int) (s0_6 : Bool) (s0_7 : Int) (a1_0 : Int) (a1_1 : Int) (a1_2 : Int) (a1_3 : Int) (a1_4 : Int) (r1 : Int) (r2 : Int) (r3 : Int) (r4 : Int) (r5 : Int) (r6 : ByteArray) (r7 : Int) (r8 : Int) (r9 : Int) (r10 : ByteArray) (r11 : Int) (r12 : Bool) (r13 : Int) (w0 w : World) (hI : IsS105 w0 w g s0_0 s0_1 s0_2 s0_3 s0_4 s0_5 s0_6 s0_7) (hB : Below w0.heap.size w0 w) (h : cupelref20_reader_place.f k s0_0 s0_1 s0_2 s0_3 s0_4 s0_5 s0_6 s0_7 a1_0 a1_1 a1_2 a1_3 a1_4 = some (r1, r2, r3, r4, r5, r6, r7, r8, r9, r10, r11, r12, r13)) :
  Calls Tryd.prog 82 #[.pointer (some ⟨g, 0, none⟩), .agg #[.int .i64 a1_0, .int .i64 a1_1, .int .i64 a1_2, .int .i64 a1_3, .int .i64 a1_4]] w fun e w' => e = .returned (.agg #[.int .i64 r1, .int .i64 r2, .int .i64 r3, .int .i64 r4, .int .i64 r5]) ∧ IsS105 w0 w' g r6 r7 r8 r9 r10 r11 r12 r13 ∧ Below w0.heap.size w0 w' ∧ KeepBut w w' g none := by
 have hu67 := Tryd.underlying67
 have HI0 := Aside0.mk hI
 have HK := Aside0.mk (KeepBut.refl w g none)
 have HL := Aside0.mk hB.size
 clear hI
 have HW0 := Aside0.mk hB.size
 have HB := Aside0.mk hB
 clear hB
 have H : ((cupelref20_reader_number.f k s0_0 s0_1 s0_2 s0_3 s0_4 s0_5 s0_6 s0_7 1).bind fun bt253 => ((cupelref20_reader_want.f k bt253.2.1 bt253.2.2.1 bt253.2.2.2.1 bt253.2.2.2.2.1 bt253.2.2.2.2.2.1 bt253.2.2.2.2.2.2.1 bt253.2.2.2.2.2.2.2.1 bt253.2.2.2.2.2.2.2.2 (⟨#[40]⟩ : ByteArray)).bind fun bt262 => ((cupelref20_reader_register.f k bt262.1 bt262.2.1 bt262.2.2.1 bt262.2.2.2.1 bt262.2.2.2.2.1 bt262.2.2.2.2.2.1 bt262.2.2.2.2.2.2.1 bt262.2.2.2.2.2.2.2).bind fun bt270 => ((cupelref20_reader_want.f k bt270.2.1 bt270.2.2.1 bt270.2.2.2.1 bt270.2.2.2.2.1 bt270.2.2.2.2.2.1 bt270.2.2.2.2.2.2.1 bt270.2.2.2.2.2.2.2.1 bt270.2.2.2.2.2.2.2.2 (⟨#[41]⟩ : ByteArray)).bind fun bt279 => (some (a1_0, a1_1, bt270.1, a1_3, bt253.1, bt279.1, bt279.2.1, bt279.2.2.1, bt279.2.2.2.1, bt279.2.2.2.2.1, bt279.2.2.2.2.2.1, bt279.2.2.2.2.2.2.1, bt279.2.2.2.2.2.2.2)))))) = some (r1, r2, r3, r4, r5, r6, r7, r8, r9, r10, r11, r12, r13) := h
 clear h
 replace H := Option.bind_eq_some_iff.mp H
 obtain ⟨⟨t253, t254, t255, t256, t257, t258, t259, t260, t261⟩, A30, H⟩ := H
 try dsimp only at H
 have A3 := Aside0.mk A30
 clear A30
 replace H := Option.bind_eq_some_iff.mp H
 obtain ⟨⟨t262, t263, t264, t265, t266, t267, t268, t269⟩, A40, H⟩ := H
 try dsimp only at H
 have A4 := Aside0.mk A40
 clear A40
 replace H := Option.bind_eq_some_iff.mp H
 obtain ⟨⟨t270, t271, t272, t273, t274, t275, t276, t277, t278⟩, A50, H⟩ := H
 try dsimp only at H
 have A5 := Aside0.mk A50
 clear A50
 replace H := Option.bind_eq_some_iff.mp H
 obtain ⟨⟨t279, t280, t281, t282, t283, t284, t285, t286⟩, A60, H⟩ := H
 try dsimp only at H
 have A6 := Aside0.mk A60
 clear A60
 simp only [Option.some.injEq, Prod.mk.injEq] at H
 obtain ⟨rfl, rfl, rfl, rfl, rfl, rfl, rfl, rfl, rfl, rfl, rfl, rfl, rfl⟩ := H
 go_enter Tryd.func82, Tryd.ntmps82
 go_wp2_with (first | ((with_reducible refine gate_dst (N := 3) rfl ?_); refine box_event ?hg (N := 3) ?hd (cs := #[.int .i64 a1_0, .int .i64 a1_1, .int .i64 a1_2, .int .i64 a1_3, .int .i64 a1_4]) (t := 67) ?hr ?_; (case hd => rfl); (case hg => rfl); (case hr => exact ts40_); intro gb251 hg w7 hbox hb; have n0_ := Aside0.mk (IsS105.below (ts55_ HI0.out) hb); have n1_ := Aside0.mk (KeepBut.trans (ts51_ HK.out) (KeepBut.of_below hb g none) (.inl rfl)); have n2_ := Aside0.mk (below_step (ts5_ HB.out HI0.out) hb); have n3_ := Aside0.mk (hbox); have n4_ := Aside0.mk ((ts64_ HK.out : w.heap.size ≤ gb251)); have n5_ := Aside0.mk ((Nat.le_trans HW0.out (ts64_ HK.out : w.heap.size ≤ gb251) : w0.heap.size ≤ gb251)); have n6_ := Aside0.mk ((ts27_ HI0.out : g ≠ gb251)); have n7_ := Aside0.mk ((ts26_ HI0.out : gb251 ≠ g)); clear HI0; clear HK; clear HB; have HI0 := n0_; have HK := n1_; have HB := n2_; have BK251 := n3_; have GW251 := n4_; have GE251 := n5_; have NB0_251 := n6_; have NB251_0 := n7_; clear n0_ n1_ n2_ n3_ n4_ n5_ n6_ n7_; clear hb hbox hg) | ((with_reducible refine gate_dst (N := 4) rfl ?_); refine box_event ?hg (N := 4) ?hd (cs := #[.int .i64 0, .int .i64 0, .int .i64 0, .int .i64 0, .int .i64 0]) (t := 67) ?hr ?_; (case hd => rfl); (case hg => rfl); (case hr => exact ts40_); intro gb252 hg w8 hbox hb; have n0_ := Aside0.mk (IsS105.below (ts22_ HI0.out NB0_251.out) hb); have n1_ := Aside0.mk (blk_below (g := gb251) (o := .cells #[.int .i64 a1_0, .int .i64 a1_1, .int .i64 a1_2, .int .i64 a1_3, .int .i64 a1_4] 67 (0, 0)) (ts29_ BK251.out) hb); have n2_ := Aside0.mk (KeepBut.trans (ts14_ HK.out GW251.out) (KeepBut.of_below hb g none) (.inl rfl)); have n3_ := Aside0.mk (below_step (ts37_ HB.out HI0.out GE251.out) hb); have n4_ := Aside0.mk (hbox); have n5_ := Aside0.mk ((ts74_ HK.out GW251.out : w.heap.size ≤ gb252)); have n6_ := Aside0.mk ((Nat.le_trans HW0.out (ts74_ HK.out GW251.out : w.heap.size ≤ gb252) : w0.heap.size ≤ gb252)); have n7_ := Aside0.mk ((by rw [hg]; exact Nat.ne_of_lt (blk_lt (g := gb251) (o := .cells #[.int .i64 a1_0, .int .i64 a1_1, .int .i64 a1_2, .int .i64 a1_3, .int .i64 a1_4] 67 (0, 0)) (ts29_ BK251.out)) : gb251 ≠ gb252)); have n8_ := Aside0.mk ((by rw [hg]; exact Nat.ne_of_gt (blk_lt (g := gb251) (o := .cells #[.int .i64 a1_0, .int .i64 a1_1, .int .i64 a1_2, .int .i64 a1_3, .int .i64 a1_4] 67 (0, 0)) (ts29_ BK251.out)) : gb252 ≠ gb251)); have n9_ := Aside0.mk ((ts45_ HI0.out NB0_251.out : g ≠ gb252)); have n10_ := Aside0.mk ((ts39_ HI0.out NB0_251.out : gb252 ≠ g)); clear HI0; clear BK251; clear HK; clear HB; have HI0 := n0_; have BK251 := n1_; have HK := n2_; have HB := n3_; have BK252 := n4_; have GW252 := n5_; have GE252 := n6_; have NB251_252 := n7_; have NB252_251 := n8_; have NB0_252 := n9_; have NB252_0 := n10_; clear n0_ n1_ n2_ n3_ n4_ n5_ n6_ n7_ n8_ n9_ n10_; clear hb hbox hg) | ((with_reducible refine gate_callee (f := 70) rfl ?_); refine goesL_ (some 6) rfl rfl Tryd.func70 (by kernel_rfl) rfl #[.pointer (some ⟨g, 0, none⟩), .int .i64 1] rfl ts47_ ?_; (with_reducible refine (cupelref20_reader_number.calls k g s0_0 s0_1 s0_2 s0_3 s0_4 s0_5 s0_6 s0_7 1 t253 t254 t255 t256 t257 t258 t259 t260 t261 w0 _ ?side1 ?side2 A3.out).mono ?_); (case side1 => exact ts42_ HI0.out NB0_251.out NB0_252.out); (case side2 => exact ts31_ HB.out HI0.out GE251.out GE252.out); rintro e w9 ⟨rfl, hi, hb, hk⟩; refine ⟨_, rfl, ?_⟩; have n0_ := Aside0.mk (KeepBut.blk hk (g' := gb251) (o := .cells #[.int .i64 a1_0, .int .i64 a1_1, .int .i64 a1_2, .int .i64 a1_3, .int .i64 a1_4] 67 (0, 0)) (ts29_ BK251.out) NB251_0.out (by simp)); have n1_ := Aside0.mk (KeepBut.blk hk (g' := gb252) (o := .cells #[.int .i64 0, .int .i64 0, .int .i64 0, .int .i64 0, .int .i64 0] 67 (0, 0)) (ts29_ BK252.out) NB252_0.out (by simp)); have n2_ := Aside0.mk (KeepBut.trans (ts44_ HK.out GW251.out GW252.out) hk (.inl rfl)); have n3_ := Aside0.mk (hb); have n4_ := Aside0.mk (hi); clear BK251; clear BK252; clear HK; clear HB; clear HI0; have BK251 := n0_; have BK252 := n1_; have HK := n2_; have HB := n3_; have HI0 := n4_; clear n0_ n1_ n2_ n3_ n4_; (try clear hb); (try clear hb2); (try clear hk); (try clear hi); have hnb10 := NB251_252.out; have hnc10 := NB252_251.out; have hnb11 := NB251_0.out; have hnc11 := NB0_251.out; have hcz12_0 : w9.cell? ⟨gb251, 0, none⟩ = some (.int .i64 a1_0) := (blk_cell BK251.out 0).trans rfl; have hcz12_1 : w9.cell? ⟨gb251, 1, none⟩ = some (.int .i64 a1_1) := (blk_cell BK251.out 1).trans rfl; have hcz12_2 : w9.cell? ⟨gb251, 2, none⟩ = some (.int .i64 a1_2) := (blk_cell BK251.out 2).trans rfl; have hcz12_3 : w9.cell? ⟨gb251, 3, none⟩ = some (.int .i64 a1_3) := (blk_cell BK251.out 3).trans rfl; have hcz12_4 : w9.cell? ⟨gb251, 4, none⟩ = some (.int .i64 a1_4) := (blk_cell BK251.out 4).trans rfl; have hfz12_0 := blk_frozen BK251.out 0; have hfz12_1 := blk_frozen BK251.out 1; have hfz12_2 := blk_frozen BK251.out 2; have hfz12_3 := blk_frozen BK251.out 3; have hfz12_4 := blk_frozen BK251.out 4) | ((with_reducible refine gate_callee (f := 69) rfl ?_); refine goesL_ (some 9) rfl rfl Tryd.func69 (by kernel_rfl) rfl #[.pointer (some ⟨g, 0, none⟩), .string (⟨#[40]⟩ : ByteArray)] rfl ts47_ ?_; (with_reducible refine (cupelref20_reader_want.calls k g t254 t255 t256 t257 t258 t259 t260 t261 (⟨#[40]⟩ : ByteArray) t262 t263 t264 t265 t266 t267 t268 t269 w0 _ ?side1 ?side2 A4.out).mono ?_); (case side1 => exact ts42_ HI0.out NB0_251.out NB0_252.out); (case side2 => exact ts31_ HB.out HI0.out GE251.out GE252.out); rintro e w13 ⟨rfl, hi, hb, hk⟩; refine ⟨_, rfl, ?_⟩; have n0_ := Aside0.mk (KeepBut.blk hk (g' := gb251) (o := .cells #[.int .i64 a1_0, .int .i64 a1_1, .int .i64 a1_2, .int .i64 a1_3, .int .i64 t253] 67 (0, 0)) (by (with_reducible repeat (first | refine blk_drewN ?_ _ | refine blk_drew ?_ | refine blk_alloc ?_ _)); refine blk_put (cs := #[.int .i64 a1_0, .int .i64 a1_1, .int .i64 a1_2, .int .i64 a1_3, .int .i64 a1_4]) ?_ 4 _ rfl; (with_reducible repeat (first | refine blk_drewN ?_ _ | refine blk_drew ?_ | refine blk_alloc ?_ _)); exact BK251.out) NB251_0.out (by simp)); have n1_ := Aside0.mk (KeepBut.blk hk (g' := gb252) (o := .cells #[.int .i64 0, .int .i64 0, .int .i64 0, .int .i64 0, .int .i64 0] 67 (0, 0)) (ts41_ NB252_251.out BK252.out) NB252_0.out (by simp)); have n2_ := Aside0.mk (KeepBut.trans (ts44_ HK.out GW251.out GW252.out) hk (.inl rfl)); have n3_ := Aside0.mk (hb); have n4_ := Aside0.mk (hi); clear BK251; clear BK252; clear HK; clear HB; clear HI0; have BK251 := n0_; have BK252 := n1_; have HK := n2_; have HB := n3_; have HI0 := n4_; clear n0_ n1_ n2_ n3_ n4_; (try clear hb); (try clear hb2); (try clear hk); (try clear hi)) | ((with_reducible refine gate_callee (f := 81) rfl ?_); refine goesL_ (some 11) rfl rfl Tryd.func81 (by kernel_rfl) rfl #[.pointer (some ⟨g, 0, none⟩)] rfl ts47_ ?_; (with_reducible refine (cupelref20_reader_register.calls k g t262 t263 t264 t265 t266 t267 t268 t269 t270 t271 t272 t273 t274 t275 t276 t277 t278 w0 _ ?side1 ?side2 A5.out).mono ?_); (case side1 => exact ts42_ HI0.out NB0_251.out NB0_252.out); (case side2 => exact ts31_ HB.out HI0.out GE251.out GE252.out); rintro e w14 ⟨rfl, hi, hb, hk⟩; refine ⟨_, rfl, ?_⟩; have n0_ := Aside0.mk (KeepBut.blk hk (g' := gb251) (o := .cells #[.int .i64 a1_0, .int .i64 a1_1, .int .i64 a1_2, .int .i64 a1_3, .int .i64 t253] 67 (0, 0)) (ts29_ BK251.out) NB251_0.out (by simp)); have n1_ := Aside0.mk (KeepBut.blk hk (g' := gb252) (o := .cells #[.int .i64 0, .int .i64 0, .int .i64 0, .int .i64 0, .int .i64 0] 67 (0, 0)) (ts29_ BK252.out) NB252_0.out (by simp)); have n2_ := Aside0.mk (KeepBut.trans (ts44_ HK.out GW251.out GW252.out) hk (.inl rfl)); have n3_ := Aside0.mk (hb); have n4_ := Aside0.mk (hi); clear BK251; clear BK252; clear HK; clear HB; clear HI0; have BK251 := n0_; have BK252 := n1_; have HK := n2_; have HB := n3_; have HI0 := n4_; clear n0_ n1_ n2_ n3_ n4_; (try clear hb); (try clear hb2); (try clear hk); (try clear hi); have hcz15_0 : w14.cell? ⟨gb251, 0, none⟩ = some (.int .i64 a1_0) := (blk_cell BK251.out 0).trans rfl; have hcz15_1 : w14.cell? ⟨gb251, 1, none⟩ = some (.int .i64 a1_1) := (blk_cell BK251.out 1).trans rfl; have hcz15_2 : w14.cell? ⟨gb251, 2, none⟩ = some (.int .i64 a1_2) := (blk_cell BK251.out 2).trans rfl; have hcz15_3 : w14.cell? ⟨gb251, 3, none⟩ = some (.int .i64 a1_3) := (blk_cell BK251.out 3).trans rfl; have hcz15_4 : w14.cell? ⟨gb251, 4, none⟩ = some (.int .i64 t253) := (blk_cell BK251.out 4).trans rfl; have hfz15_0 := blk_frozen BK251.out 0; have hfz15_1 := blk_frozen BK251.out 1; have hfz15_2 := blk_frozen BK251.out 2; have hfz15_3 := blk_frozen BK251.out 3; have hfz15_4 := blk_frozen BK251.out 4) | ((with_reducible refine gate_callee (f := 69) rfl ?_); refine goesL_ (some 14) rfl rfl Tryd.func69 (by kernel_rfl) rfl #[.pointer (some ⟨g, 0, none⟩), .string (⟨#[41]⟩ : ByteArray)] rfl ts47_ ?_; (with_reducible refine (cupelref20_reader_want.calls k g t271 t272 t273 t274 t275 t276 t277 t278 (⟨#[41]⟩ : ByteArray) t279 t280 t281 t282 t283 t284 t285 t286 w0 _ ?side1 ?side2 A6.out).mono ?_); (case side1 => exact ts42_ HI0.out NB0_251.out NB0_252.out); (case side2 => exact ts31_ HB.out HI0.out GE251.out GE252.out); rintro e w16 ⟨rfl, hi, hb, hk⟩; refine ⟨_, rfl, ?_⟩; have n0_ := Aside0.mk (KeepBut.blk hk (g' := gb251) (o := .cells #[.int .i64 a1_0, .int .i64 a1_1, .int .i64 t270, .int .i64 a1_3, .int .i64 t253] 67 (0, 0)) (by (with_reducible repeat (first | refine blk_drewN ?_ _ | refine blk_drew ?_ | refine blk_alloc ?_ _)); refine blk_put (cs := #[.int .i64 a1_0, .int .i64 a1_1, .int .i64 a1_2, .int .i64 a1_3, .int .i64 t253]) ?_ 2 _ rfl; (with_reducible repeat (first | refine blk_drewN ?_ _ | refine blk_drew ?_ | refine blk_alloc ?_ _)); exact BK251.out) NB251_0.out (by simp)); have n1_ := Aside0.mk (KeepBut.blk hk (g' := gb252) (o := .cells #[.int .i64 0, .int .i64 0, .int .i64 0, .int .i64 0, .int .i64 0] 67 (0, 0)) (ts41_ NB252_251.out BK252.out) NB252_0.out (by simp)); have n2_ := Aside0.mk (KeepBut.trans (ts44_ HK.out GW251.out GW252.out) hk (.inl rfl)); have n3_ := Aside0.mk (hb); have n4_ := Aside0.mk (hi); clear BK251; clear BK252; clear HK; clear HB; clear HI0; have BK251 := n0_; have BK252 := n1_; have HK := n2_; have HB := n3_; have HI0 := n4_; clear n0_ n1_ n2_ n3_ n4_; (try clear hb); (try clear hb2); (try clear hk); (try clear hi); have hcz17_0 : w16.cell? ⟨gb251, 0, none⟩ = some (.int .i64 a1_0) := (blk_cell BK251.out 0).trans rfl; have hcz17_1 : w16.cell? ⟨gb251, 1, none⟩ = some (.int .i64 a1_1) := (blk_cell BK251.out 1).trans rfl; have hcz17_2 : w16.cell? ⟨gb251, 2, none⟩ = some (.int .i64 t270) := (blk_cell BK251.out 2).trans rfl; have hcz17_3 : w16.cell? ⟨gb251, 3, none⟩ = some (.int .i64 a1_3) := (blk_cell BK251.out 3).trans rfl; have hcz17_4 : w16.cell? ⟨gb251, 4, none⟩ = some (.int .i64 t253) := (blk_cell BK251.out 4).trans rfl; have hfz17_0 := blk_frozen BK251.out 0; have hfz17_1 := blk_frozen BK251.out 1; have hfz17_2 := blk_frozen BK251.out 2; have hfz17_3 := blk_frozen BK251.out 3; have hfz17_4 := blk_frozen BK251.out 4; have hnb18 := NB252_0.out; have hnc18 := NB0_252.out; have hcz19_0 : w16.cell? ⟨gb252, 0, none⟩ = some (.int .i64 0) := (blk_cell BK252.out 0).trans rfl; have hcz19_1 : w16.cell? ⟨gb252, 1, none⟩ = some (.int .i64 0) := (blk_cell BK252.out 1).trans rfl; have hcz19_2 : w16.cell? ⟨gb252, 2, none⟩ = some (.int .i64 0) := (blk_cell BK252.out 2).trans rfl; have hcz19_3 : w16.cell? ⟨gb252, 3, none⟩ = some (.int .i64 0) := (blk_cell BK252.out 3).trans rfl; have hcz19_4 : w16.cell? ⟨gb252, 4, none⟩ = some (.int .i64 0) := (blk_cell BK252.out 4).trans rfl; have hfz19_0 := blk_frozen BK252.out 0; have hfz19_1 := blk_frozen BK252.out 1; have hfz19_2 := blk_frozen BK252.out 2; have hfz19_3 := blk_frozen BK252.out 3; have hfz19_4 := blk_frozen BK252.out 4))
 refine bodyPost_ret (results_cell_row rfl _ _ gb252 67 #[.int .i64 a1_0, .int .i64 a1_1, .int .i64 t270, .int .i64 a1_3, .int .i64 t253] (0, 0) _ rfl (by (with_reducible repeat (first | refine blk_drewN ?_ _ | refine blk_drew ?_ | refine blk_alloc ?_ _)); refine blk_put (cs := #[.int .i64 a1_0, .int .i64 a1_1, .int .i64 t270, .int .i64 a1_3, .int .i64 0]) ?_ 4 _ rfl; (with_reducible repeat (first | refine blk_drewN ?_ _ | refine blk_drew ?_ | refine blk_alloc ?_ _)); refine blk_put (cs := #[.int .i64 a1_0, .int .i64 a1_1, .int .i64 t270, .int .i64 0, .int .i64 0]) ?_ 3 _ rfl; (with_reducible repeat (first | refine blk_drewN ?_ _ | refine blk_drew ?_ | refine blk_alloc ?_ _)); refine blk_put (cs := #[.int .i64 a1_0, .int .i64 a1_1, .int .i64 0, .int .i64 0, .int .i64 0]) ?_ 2 _ rfl; (with_reducible repeat (first | refine blk_drewN ?_ _ | refine blk_drew ?_ | refine blk_alloc ?_ _)); refine blk_put (cs := #[.int .i64 a1_0, .int .i64 0, .int .i64 0, .int .i64 0, .int .i64 0]) ?_ 1 _ rfl; (with_reducible repeat (first | refine blk_drewN ?_ _ | refine blk_drew ?_ | refine blk_alloc ?_ _)); refine blk_put (cs := #[.int .i64 0, .int .i64 0, .int .i64 0, .int .i64 0, .int .i64 0]) ?_ 0 _ rfl; (with_reducible repeat (first | refine blk_drewN ?_ _ | refine blk_drew ?_ | refine blk_alloc ?_ _)); exact BK252.out) Tryd.underlying67 rfl (by kernel_rfl)) rfl ?_
 exact ⟨ts9_, ts42_ HI0.out NB0_251.out NB0_252.out, ts31_ HB.out HI0.out GE251.out GE252.out, ts44_ HK.out GW251.out GW252.out⟩
/-! ### cupelref20_reader_comma: function 83 -/
def cupelref20_reader_comma.f (k : Nat) (s0_0 : ByteArray) (s0_1 : Int) (s0_2 : Int) (s0_3 : Int) (s0_4 : ByteArray) (s0_5 : Int) (s0_6 : Bool) (s0_7 : Int) (a1 : Bool) : Option (ByteArray × Int × Int × Int × ByteArray × Int × Bool × Int) := if a1 = true then ((cupelref20_reader_want.f k s0_0 s0_1 s0_2 s0_3 s0_4 s0_5 s0_6 s0_7 (⟨#[44]⟩ : ByteArray)).bind fun bt287 => (some (bt287.1, bt287.2.1, bt287.2.2.1, bt287.2.2.2.1, bt287.2.2.2.2.1, bt287.2.2.2.2.2.1, bt287.2.2.2.2.2.2.1, bt287.2.2.2.2.2.2.2))) else (some (s0_0, s0_1, s0_2, s0_3, s0_4, s0_5, s0_6, s0_7))
set_option maxHeartbeats 8000000 in
set_option maxRecDepth 100000 in
theorem cupelref20_reader_comma.calls (k : Nat) (g : Nat) (s0_0 : ByteArray) (s0_1 : Int) (s0_2 : Int) (s0_3 : Int) (s0_4 : ByteArray) (s0_5 : Int) (s0_6 : Bool) (s0_7 : Int) (a1 : Bool) (r1 : ByteArray) (r2 : Int) (r3 : Int) (r4 : Int) (r5 : ByteArray) (r6 : Int) (r7 : Bool) (r8 : Int) (w0 w : World) (hI : IsS105 w0 w g s0_0 s0_1 s0_2 s0_3 s0_4 s0_5 s0_6 s0_7) (hB : Below w0.heap.size w0 w) (h : cupelref20_reader_comma.f k s0_0 s0_1 s0_2 s0_3 s0_4 s0_5 s0_6 s0_7 a1 = some (r1, r2, r3, r4, r5, r6, r7, r8)) :
  Calls Tryd.prog 83 #[.pointer (some ⟨g, 0, none⟩), .bool a1] w fun e w' => e = .returned (.tuple #[]) ∧ IsS105 w0 w' g r1 r2 r3 r4 r5 r6 r7 r8 ∧ Below w0.heap.size w0 w' ∧ KeepBut w w' g none := by
 have HI0 := Aside0.mk hI
 have HK := Aside0.mk (KeepBut.refl w g none)
 have HL := Aside0.mk hB.size
 clear hI
 have HW0 := Aside0.mk hB.size
 have HB := Aside0.mk hB
 clear hB
 have H : (if a1 = true then ((cupelref20_reader_want.f k s0_0 s0_1 s0_2 s0_3 s0_4 s0_5 s0_6 s0_7 (⟨#[44]⟩ : ByteArray)).bind fun bt287 => (some (bt287.1, bt287.2.1, bt287.2.2.1, bt287.2.2.2.1, bt287.2.2.2.2.1, bt287.2.2.2.2.2.1, bt287.2.2.2.2.2.2.1, bt287.2.2.2.2.2.2.2))) else (some (s0_0, s0_1, s0_2, s0_3, s0_4, s0_5, s0_6, s0_7))) = some (r1, r2, r3, r4, r5, r6, r7, r8) := h
 clear h
 by_cases c3 : a1 = true
 ·subst c3
  rw [if_pos rfl] at H
  replace H := Option.bind_eq_some_iff.mp H
  obtain ⟨⟨t287, t288, t289, t290, t291, t292, t293, t294⟩, A40, H⟩ := H
  try dsimp only at H
  have A4 := Aside0.mk A40
  clear A40
  simp only [Option.some.injEq, Prod.mk.injEq] at H
  obtain ⟨rfl, rfl, rfl, rfl, rfl, rfl, rfl, rfl⟩ := H
  go_enter Tryd.func83, Tryd.ntmps83
  go_wp2_with (first | ((with_reducible refine gate_callee (f := 69) rfl ?_); refine goesL_ (some 6) rfl rfl Tryd.func69 (by kernel_rfl) rfl #[.pointer (some ⟨g, 0, none⟩), .string (⟨#[44]⟩ : ByteArray)] rfl ts47_ ?_; (with_reducible refine (cupelref20_reader_want.calls k g s0_0 s0_1 s0_2 s0_3 s0_4 s0_5 s0_6 s0_7 (⟨#[44]⟩ : ByteArray) t287 t288 t289 t290 t291 t292 t293 t294 w0 _ ?side1 ?side2 A4.out).mono ?_); (case side1 => exact ts55_ HI0.out); (case side2 => exact ts5_ HB.out HI0.out); rintro e w5 ⟨rfl, hi, hb, hk⟩; refine ⟨_, rfl, ?_⟩; have n0_ := Aside0.mk (KeepBut.trans (ts51_ HK.out) hk (.inl rfl)); have n1_ := Aside0.mk (hb); have n2_ := Aside0.mk (hi); clear HK; clear HB; clear HI0; have HK := n0_; have HB := n1_; have HI0 := n2_; clear n0_ n1_ n2_; (try clear hb); (try clear hb2); (try clear hk); (try clear hi)))
  first | go_end0 | ((try simp only [Exit.inBlock, Exit.then]); refine bodyPost_ret (results_none rfl _ _ _) rfl ?_)
  exact ⟨ts9_, ts55_ HI0.out, ts5_ HB.out HI0.out, ts51_ HK.out⟩
 ·replace c3 := Bool.eq_false_iff.mpr c3
  subst c3
  rw [if_neg Bool.false_ne_true] at H
  simp only [Option.some.injEq, Prod.mk.injEq] at H
  obtain ⟨rfl, rfl, rfl, rfl, rfl, rfl, rfl, rfl⟩ := H
  go_enter Tryd.func83, Tryd.ntmps83
  go_wp2
  first | go_end0 | ((try simp only [Exit.inBlock, Exit.then]); refine bodyPost_ret (results_none rfl _ _ _) rfl ?_)
  exact ⟨ts9_, ts55_ HI0.out, ts5_ HB.out HI0.out, ts51_ HK.out⟩
end Go.Proofs.YtekhnkpjeofdpaaDoor.A
