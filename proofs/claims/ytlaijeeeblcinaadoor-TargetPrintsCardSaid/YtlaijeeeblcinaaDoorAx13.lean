/- Written by wip/tools/xprint.py, a program of this session that drives the kit's printer. Not trusted: Lean checks it. -/
import Derived.Test.YtlaijeeeblcinaaDoorAx0
import Derived.Test.YtlaijeeeblcinaaDoorAx12
import Derived.Test.YtlaijeeeblcinaaDoorRefFindC
set_option linter.all false
set_option maxHeartbeats 8000000
set_option maxRecDepth 100000
namespace Go.Proofs.YtlaijeeeblcinaaDoor.A
open Go.RowKit Go.Proofs.YtlaijeeeblcinaaDoorW.PrintWords Go.Proofs.YtlaijeeeblcinaaDoorW.PrintLast Go.Proofs.YtlaijeeeblcinaaDoorW.PrintMore
attribute [local go_sem] max2_int min2_int max_two min_two max_three min_three max_four min_four   -- for this text's walks alone
set_option linter.unusedVariables false
set_option linter.unusedSimpArgs false
theorem bsz1 (a : UInt8) : (ByteArray.mk #[a]).size = 1 := rfl
theorem bsz2 (a b : UInt8) : (ByteArray.mk #[a, b]).size = 2 := rfl
theorem bsz3 (a b c : UInt8) : (ByteArray.mk #[a, b, c]).size = 3 := rfl
theorem bsz5 (a b c d e : UInt8) : (ByteArray.mk #[a, b, c, d, e]).size = 5 := rfl
theorem bsz6 (a b c d e f : UInt8) : (ByteArray.mk #[a, b, c, d, e, f]).size = 6 := rfl
/-! ### cupelref20_Line: function 54 -/
mutual
def cupelref20_Line.j0 : Nat → ByteArray → ByteArray → Int → Int → Int → Int → Int → Int → ByteArray → Bool → Bool → Bool → Int → Option (ByteArray)
 | 0, _, _, _, _, _, _, _, _, _, _, _, _, _ => none
 | k + 1, x5, x7, x602000, x602001, x602002, x602003, x602004, x610000, x610001, x610002, x610003, x610004, x610005 => if x610003 = true then (if x5.size + x7.size ≤ 9223372036854775807 then (if (x5 ++ x7).size + 1 ≤ 9223372036854775807 then ((cupelref20_number.f k x602002).bind fun t615 => (if ((x5 ++ x7) ++ (⟨#[114]⟩ : ByteArray)).size + t615.size ≤ 9223372036854775807 then (cupelref20_Line.j1 k (((x5 ++ x7) ++ (⟨#[114]⟩ : ByteArray)) ++ t615) (⟨#[44, 32]⟩ : ByteArray) x602000 x602001 x602002 x602003 x602004 x610000 x610001 x610002 x610003 x610004 x610005) else (none))) else (none)) else (none)) else (cupelref20_Line.j1 k x5 x7 x602000 x602001 x602002 x602003 x602004 x610000 x610001 x610002 x610003 x610004 x610005)
def cupelref20_Line.j1 : Nat → ByteArray → ByteArray → Int → Int → Int → Int → Int → Int → ByteArray → Bool → Bool → Bool → Int → Option (ByteArray)
 | 0, _, _, _, _, _, _, _, _, _, _, _, _, _ => none
 | k + 1, x5, x7, x602000, x602001, x602002, x602003, x602004, x610000, x610001, x610002, x610003, x610004, x610005 => if x610004 = true then (if x5.size + x7.size ≤ 9223372036854775807 then (if (x5 ++ x7).size + 1 ≤ 9223372036854775807 then ((cupelref20_number.f k x602003).bind fun t616 => (if ((x5 ++ x7) ++ (⟨#[114]⟩ : ByteArray)).size + t616.size ≤ 9223372036854775807 then (if x610005 = 0 then (if (((x5 ++ x7) ++ (⟨#[114]⟩ : ByteArray)) ++ t616).size + 1 ≤ 9223372036854775807 then (some ((((x5 ++ x7) ++ (⟨#[114]⟩ : ByteArray)) ++ t616) ++ (⟨#[59]⟩ : ByteArray))) else (none)) else (if (((x5 ++ x7) ++ (⟨#[114]⟩ : ByteArray)) ++ t616).size + 2 ≤ 9223372036854775807 then ((cupelref20_number.f k x602004).bind fun t617 => (if ((((x5 ++ x7) ++ (⟨#[114]⟩ : ByteArray)) ++ t616) ++ (⟨#[44, 32]⟩ : ByteArray)).size + t617.size ≤ 9223372036854775807 then (if (((((x5 ++ x7) ++ (⟨#[114]⟩ : ByteArray)) ++ t616) ++ (⟨#[44, 32]⟩ : ByteArray)) ++ t617).size + 1 ≤ 9223372036854775807 then (some ((((((x5 ++ x7) ++ (⟨#[114]⟩ : ByteArray)) ++ t616) ++ (⟨#[44, 32]⟩ : ByteArray)) ++ t617) ++ (⟨#[59]⟩ : ByteArray))) else (none)) else (none))) else (none))) else (none))) else (none)) else (none)) else (if x610005 = 0 then (if x5.size + 1 ≤ 9223372036854775807 then (some (x5 ++ (⟨#[59]⟩ : ByteArray))) else (none)) else (if x5.size + x7.size ≤ 9223372036854775807 then ((cupelref20_number.f k x602004).bind fun t618 => (if (x5 ++ x7).size + t618.size ≤ 9223372036854775807 then (if ((x5 ++ x7) ++ t618).size + 1 ≤ 9223372036854775807 then (some (((x5 ++ x7) ++ t618) ++ (⟨#[59]⟩ : ByteArray))) else (none)) else (none))) else (none)))
end
def cupelref20_Line.f (k : Nat) (a0_0 : Int) (a0_1 : Int) (a0_2 : Int) (a0_3 : Int) (a0_4 : Int) : Option (ByteArray) := (cupelref20_find.f a0_0).bind fun bt602 => ((cupelref20_number.f k a0_4).bind fun t610 => (if t610.size + 2 ≤ 9223372036854775807 then ((cupelref20_number.f k a0_2).bind fun t611 => (if (t610 ++ (⟨#[40, 114]⟩ : ByteArray)).size + t611.size ≤ 9223372036854775807 then (if ((t610 ++ (⟨#[40, 114]⟩ : ByteArray)) ++ t611).size + 1 ≤ 9223372036854775807 then (if a0_0 = 4 then (if bt602.2.1.size + 2 ≤ 9223372036854775807 then ((cupelref20_number.f k a0_1).bind fun t612 => (if (bt602.2.1 ++ (⟨#[32, 114]⟩ : ByteArray)).size + t612.size ≤ 9223372036854775807 then (if ((bt602.2.1 ++ (⟨#[32, 114]⟩ : ByteArray)) ++ t612).size + 2 ≤ 9223372036854775807 then (if (((bt602.2.1 ++ (⟨#[32, 114]⟩ : ByteArray)) ++ t612) ++ (⟨#[44, 32]⟩ : ByteArray)).size + (((t610 ++ (⟨#[40, 114]⟩ : ByteArray)) ++ t611) ++ (⟨#[41]⟩ : ByteArray)).size ≤ 9223372036854775807 then (if ((((bt602.2.1 ++ (⟨#[32, 114]⟩ : ByteArray)) ++ t612) ++ (⟨#[44, 32]⟩ : ByteArray)) ++ (((t610 ++ (⟨#[40, 114]⟩ : ByteArray)) ++ t611) ++ (⟨#[41]⟩ : ByteArray))).size + 1 ≤ 9223372036854775807 then (some (((((bt602.2.1 ++ (⟨#[32, 114]⟩ : ByteArray)) ++ t612) ++ (⟨#[44, 32]⟩ : ByteArray)) ++ (((t610 ++ (⟨#[40, 114]⟩ : ByteArray)) ++ t611) ++ (⟨#[41]⟩ : ByteArray))) ++ (⟨#[59]⟩ : ByteArray))) else (none)) else (none)) else (none)) else (none))) else (none)) else (if a0_0 = 5 then (if bt602.2.1.size + 1 ≤ 9223372036854775807 then (if (bt602.2.1 ++ (⟨#[32]⟩ : ByteArray)).size + (((t610 ++ (⟨#[40, 114]⟩ : ByteArray)) ++ t611) ++ (⟨#[41]⟩ : ByteArray)).size ≤ 9223372036854775807 then (if ((bt602.2.1 ++ (⟨#[32]⟩ : ByteArray)) ++ (((t610 ++ (⟨#[40, 114]⟩ : ByteArray)) ++ t611) ++ (⟨#[41]⟩ : ByteArray))).size + 3 ≤ 9223372036854775807 then ((cupelref20_number.f k a0_3).bind fun t613 => (if (((bt602.2.1 ++ (⟨#[32]⟩ : ByteArray)) ++ (((t610 ++ (⟨#[40, 114]⟩ : ByteArray)) ++ t611) ++ (⟨#[41]⟩ : ByteArray))) ++ (⟨#[44, 32, 114]⟩ : ByteArray)).size + t613.size ≤ 9223372036854775807 then (if ((((bt602.2.1 ++ (⟨#[32]⟩ : ByteArray)) ++ (((t610 ++ (⟨#[40, 114]⟩ : ByteArray)) ++ t611) ++ (⟨#[41]⟩ : ByteArray))) ++ (⟨#[44, 32, 114]⟩ : ByteArray)) ++ t613).size + 1 ≤ 9223372036854775807 then (some (((((bt602.2.1 ++ (⟨#[32]⟩ : ByteArray)) ++ (((t610 ++ (⟨#[40, 114]⟩ : ByteArray)) ++ t611) ++ (⟨#[41]⟩ : ByteArray))) ++ (⟨#[44, 32, 114]⟩ : ByteArray)) ++ t613) ++ (⟨#[59]⟩ : ByteArray))) else (none)) else (none))) else (none)) else (none)) else (none)) else (if bt602.2.2.1 = true then (if bt602.2.1.size + 1 ≤ 9223372036854775807 then (if (bt602.2.1 ++ (⟨#[32]⟩ : ByteArray)).size + 1 ≤ 9223372036854775807 then ((cupelref20_number.f k a0_1).bind fun t614 => (if ((bt602.2.1 ++ (⟨#[32]⟩ : ByteArray)) ++ (⟨#[114]⟩ : ByteArray)).size + t614.size ≤ 9223372036854775807 then (cupelref20_Line.j0 k (((bt602.2.1 ++ (⟨#[32]⟩ : ByteArray)) ++ (⟨#[114]⟩ : ByteArray)) ++ t614) (⟨#[44, 32]⟩ : ByteArray) a0_0 a0_1 a0_2 a0_3 a0_4 bt602.1 bt602.2.1 bt602.2.2.1 bt602.2.2.2.1 bt602.2.2.2.2.1 bt602.2.2.2.2.2.1) else (none))) else (none)) else (none)) else (cupelref20_Line.j0 k bt602.2.1 (⟨#[32]⟩ : ByteArray) a0_0 a0_1 a0_2 a0_3 a0_4 bt602.1 bt602.2.1 bt602.2.2.1 bt602.2.2.2.1 bt602.2.2.2.2.1 bt602.2.2.2.2.2.1)))) else (none)) else (none))) else (none)))
theorem cupelref20_Line.mono_l : ∀ k, (∀ y0 y1 y2 y3 y4 y5 y6 y7 y8 y9 y10 y11 y12, LeO (cupelref20_Line.j0 k y0 y1 y2 y3 y4 y5 y6 y7 y8 y9 y10 y11 y12) (cupelref20_Line.j0 (k + 1) y0 y1 y2 y3 y4 y5 y6 y7 y8 y9 y10 y11 y12)) ∧ (∀ y0 y1 y2 y3 y4 y5 y6 y7 y8 y9 y10 y11 y12, LeO (cupelref20_Line.j1 k y0 y1 y2 y3 y4 y5 y6 y7 y8 y9 y10 y11 y12) (cupelref20_Line.j1 (k + 1) y0 y1 y2 y3 y4 y5 y6 y7 y8 y9 y10 y11 y12))
 | 0 => ⟨fun _ _ _ _ _ _ _ _ _ _ _ _ _ r h => by simp [cupelref20_Line.j0] at h, fun _ _ _ _ _ _ _ _ _ _ _ _ _ r h => by simp [cupelref20_Line.j1] at h⟩
 | k + 1 => by
  obtain ⟨ih0, ih1⟩ := cupelref20_Line.mono_l k
  refine ⟨?_, ?_⟩
  ·intro y0 y1 y2 y3 y4 y5 y6 y7 y8 y9 y10 y11 y12
   unfold cupelref20_Line.j0
   repeat' first
   | (with_reducible exact ih0 _ _ _ _ _ _ _ _ _ _ _ _ _)
   | (with_reducible exact ih1 _ _ _ _ _ _ _ _ _ _ _ _ _)
   | (with_reducible exact cupelref20_number.mono _ _)
   | (with_reducible exact LeO.refl _)
   | (with_reducible exact LeO.none _)
   | (with_reducible refine LeO.ite ?_ ?_)
   | (with_reducible refine LeO.bind ?_ (fun _ => ?_))
   | exact LeO.none _
   | refine LeO.ite ?_ ?_
   | refine LeO.bind ?_ (fun _ => ?_)
  intro y0 y1 y2 y3 y4 y5 y6 y7 y8 y9 y10 y11 y12
  unfold cupelref20_Line.j1
  repeat' first
  | (with_reducible exact ih0 _ _ _ _ _ _ _ _ _ _ _ _ _)
  | (with_reducible exact ih1 _ _ _ _ _ _ _ _ _ _ _ _ _)
  | (with_reducible exact cupelref20_number.mono _ _)
  | (with_reducible exact LeO.refl _)
  | (with_reducible exact LeO.none _)
  | (with_reducible refine LeO.ite ?_ ?_)
  | (with_reducible refine LeO.bind ?_ (fun _ => ?_))
  | exact LeO.none _
  | refine LeO.ite ?_ ?_
  | refine LeO.bind ?_ (fun _ => ?_)
theorem cupelref20_Line.mono : ∀ a0 a1 a2 a3 a4 k, LeO (cupelref20_Line.f k a0 a1 a2 a3 a4) (cupelref20_Line.f (k + 1) a0 a1 a2 a3 a4) := by
 intro a0 a1 a2 a3 a4 k
 obtain ⟨ih0, ih1⟩ := cupelref20_Line.mono_l k
 unfold cupelref20_Line.f
 repeat' first
   | (with_reducible exact ih0 _ _ _ _ _ _ _ _ _ _ _ _ _)
   | (with_reducible exact ih1 _ _ _ _ _ _ _ _ _ _ _ _ _)
   | (with_reducible exact cupelref20_number.mono _ _)
   | (with_reducible exact LeO.refl _)
   | (with_reducible exact LeO.none _)
   | (with_reducible refine LeO.ite ?_ ?_)
   | (with_reducible refine LeO.bind ?_ (fun _ => ?_))
   | exact LeO.none _
   | refine LeO.ite ?_ ?_
   | refine LeO.bind ?_ (fun _ => ?_)
def cupelref20_Line.T3 : Bool × List (List Nat × List Nat) := (true, [([], []), ([0], [0]), ([1], [1]), ([2], [2]), ([], []), ([4], [4]), ([5, 2], [5]), ([3, 6], [3, 6]), ([7], [7]), ([8, 6, 0, 1, 2, 3, 4, 5, 6, 7, 8], [8])])
def cupelref20_Line.B3 : List Nat := [0, 1, 3, 7, 0, 16, 55, 127, 255, 511]
theorem cupelref20_Line.tab3 : rtab .any (opsOf Tryd.f54 3) = cupelref20_Line.T3 := by kernel_rfl
theorem cupelref20_Line.bits3 : waitsOk cupelref20_Line.T3.2 cupelref20_Line.B3 = true := by kernel_rfl
theorem cupelref20_Line.calls (k : Nat) (a0_0 : Int) (a0_1 : Int) (a0_2 : Int) (a0_3 : Int) (a0_4 : Int) (r : ByteArray) (w : World) (h : cupelref20_Line.f k a0_0 a0_1 a0_2 a0_3 a0_4 = some r) :
  Calls Tryd.prog 54 #[.agg #[.int .i64 a0_0, .int .i64 a0_1, .int .i64 a0_2, .int .i64 a0_3, .int .i64 a0_4]] w fun e w' => e = .returned (.string r) ∧ Below w.heap.size w w' := by
 have hu26 := Tryd.underlying26
 have hu56 := Tryd.underlying56
 have HB := Aside0.mk (Below.refl w.heap.size w)
 have H : ((cupelref20_find.f a0_0).bind fun bt602 => ((cupelref20_number.f k a0_4).bind fun t610 => (if t610.size + 2 ≤ 9223372036854775807 then ((cupelref20_number.f k a0_2).bind fun t611 => (if (t610 ++ (⟨#[40, 114]⟩ : ByteArray)).size + t611.size ≤ 9223372036854775807 then (if ((t610 ++ (⟨#[40, 114]⟩ : ByteArray)) ++ t611).size + 1 ≤ 9223372036854775807 then (if a0_0 = 4 then (if bt602.2.1.size + 2 ≤ 9223372036854775807 then ((cupelref20_number.f k a0_1).bind fun t612 => (if (bt602.2.1 ++ (⟨#[32, 114]⟩ : ByteArray)).size + t612.size ≤ 9223372036854775807 then (if ((bt602.2.1 ++ (⟨#[32, 114]⟩ : ByteArray)) ++ t612).size + 2 ≤ 9223372036854775807 then (if (((bt602.2.1 ++ (⟨#[32, 114]⟩ : ByteArray)) ++ t612) ++ (⟨#[44, 32]⟩ : ByteArray)).size + (((t610 ++ (⟨#[40, 114]⟩ : ByteArray)) ++ t611) ++ (⟨#[41]⟩ : ByteArray)).size ≤ 9223372036854775807 then (if ((((bt602.2.1 ++ (⟨#[32, 114]⟩ : ByteArray)) ++ t612) ++ (⟨#[44, 32]⟩ : ByteArray)) ++ (((t610 ++ (⟨#[40, 114]⟩ : ByteArray)) ++ t611) ++ (⟨#[41]⟩ : ByteArray))).size + 1 ≤ 9223372036854775807 then (some (((((bt602.2.1 ++ (⟨#[32, 114]⟩ : ByteArray)) ++ t612) ++ (⟨#[44, 32]⟩ : ByteArray)) ++ (((t610 ++ (⟨#[40, 114]⟩ : ByteArray)) ++ t611) ++ (⟨#[41]⟩ : ByteArray))) ++ (⟨#[59]⟩ : ByteArray))) else (none)) else (none)) else (none)) else (none))) else (none)) else (if a0_0 = 5 then (if bt602.2.1.size + 1 ≤ 9223372036854775807 then (if (bt602.2.1 ++ (⟨#[32]⟩ : ByteArray)).size + (((t610 ++ (⟨#[40, 114]⟩ : ByteArray)) ++ t611) ++ (⟨#[41]⟩ : ByteArray)).size ≤ 9223372036854775807 then (if ((bt602.2.1 ++ (⟨#[32]⟩ : ByteArray)) ++ (((t610 ++ (⟨#[40, 114]⟩ : ByteArray)) ++ t611) ++ (⟨#[41]⟩ : ByteArray))).size + 3 ≤ 9223372036854775807 then ((cupelref20_number.f k a0_3).bind fun t613 => (if (((bt602.2.1 ++ (⟨#[32]⟩ : ByteArray)) ++ (((t610 ++ (⟨#[40, 114]⟩ : ByteArray)) ++ t611) ++ (⟨#[41]⟩ : ByteArray))) ++ (⟨#[44, 32, 114]⟩ : ByteArray)).size + t613.size ≤ 9223372036854775807 then (if ((((bt602.2.1 ++ (⟨#[32]⟩ : ByteArray)) ++ (((t610 ++ (⟨#[40, 114]⟩ : ByteArray)) ++ t611) ++ (⟨#[41]⟩ : ByteArray))) ++ (⟨#[44, 32, 114]⟩ : ByteArray)) ++ t613).size + 1 ≤ 9223372036854775807 then (some (((((bt602.2.1 ++ (⟨#[32]⟩ : ByteArray)) ++ (((t610 ++ (⟨#[40, 114]⟩ : ByteArray)) ++ t611) ++ (⟨#[41]⟩ : ByteArray))) ++ (⟨#[44, 32, 114]⟩ : ByteArray)) ++ t613) ++ (⟨#[59]⟩ : ByteArray))) else (none)) else (none))) else (none)) else (none)) else (none)) else (if bt602.2.2.1 = true then (if bt602.2.1.size + 1 ≤ 9223372036854775807 then (if (bt602.2.1 ++ (⟨#[32]⟩ : ByteArray)).size + 1 ≤ 9223372036854775807 then ((cupelref20_number.f k a0_1).bind fun t614 => (if ((bt602.2.1 ++ (⟨#[32]⟩ : ByteArray)) ++ (⟨#[114]⟩ : ByteArray)).size + t614.size ≤ 9223372036854775807 then (cupelref20_Line.j0 k (((bt602.2.1 ++ (⟨#[32]⟩ : ByteArray)) ++ (⟨#[114]⟩ : ByteArray)) ++ t614) (⟨#[44, 32]⟩ : ByteArray) a0_0 a0_1 a0_2 a0_3 a0_4 bt602.1 bt602.2.1 bt602.2.2.1 bt602.2.2.2.1 bt602.2.2.2.2.1 bt602.2.2.2.2.2.1) else (none))) else (none)) else (none)) else (cupelref20_Line.j0 k bt602.2.1 (⟨#[32]⟩ : ByteArray) a0_0 a0_1 a0_2 a0_3 a0_4 bt602.1 bt602.2.1 bt602.2.2.1 bt602.2.2.2.1 bt602.2.2.2.2.1 bt602.2.2.2.2.2.1)))) else (none)) else (none))) else (none)))) = some r := h
 clear h
 obtain ⟨⟨t602, t603, t604, t605, t606, t607, t608⟩, A2, H⟩ := bsA_ H
 try dsimp only at H
 obtain ⟨t610, A3, H⟩ := bsA_ H
 try dsimp only at H
 by_cases c4 : t610.size + 2 ≤ 9223372036854775807
 ·rw [if_pos c4] at H
  have c4b0 := eq_true c4
  have c4b1 : decide (t610.size + 2 ≤ 9223372036854775807) = true := decide_eq_true c4
  try have c4b2 : (9223372036854775807 < t610.size + 2) = False := eq_false (Nat.not_lt.2 c4)
  have c4b3 := c4b2
  try simp only [ByteArray.size_append, bsz1, bsz2, bsz3, bsz5, bsz6] at c4b3
  obtain ⟨t611, A5, H⟩ := bsA_ H
  try dsimp only at H
  by_cases c6 : (t610 ++ (⟨#[40, 114]⟩ : ByteArray)).size + t611.size ≤ 9223372036854775807
  ·rw [if_pos c6] at H
   have c6b0 := eq_true c6
   have c6b1 : decide ((t610 ++ (⟨#[40, 114]⟩ : ByteArray)).size + t611.size ≤ 9223372036854775807) = true := decide_eq_true c6
   try have c6b2 : (9223372036854775807 < (t610 ++ (⟨#[40, 114]⟩ : ByteArray)).size + t611.size) = False := eq_false (Nat.not_lt.2 c6)
   have c6b3 := c6b2
   try simp only [ByteArray.size_append, bsz1, bsz2, bsz3, bsz5, bsz6] at c6b3
   by_cases c7 : ((t610 ++ (⟨#[40, 114]⟩ : ByteArray)) ++ t611).size + 1 ≤ 9223372036854775807
   ·rw [if_pos c7] at H
    have c7b0 := eq_true c7
    have c7b1 : decide (((t610 ++ (⟨#[40, 114]⟩ : ByteArray)) ++ t611).size + 1 ≤ 9223372036854775807) = true := decide_eq_true c7
    try have c7b2 : (9223372036854775807 < ((t610 ++ (⟨#[40, 114]⟩ : ByteArray)) ++ t611).size + 1) = False := eq_false (Nat.not_lt.2 c7)
    have c7b3 := c7b2
    try simp only [ByteArray.size_append, bsz1, bsz2, bsz3, bsz5, bsz6] at c7b3
    by_cases c8 : a0_0 = 4
    ·rw [if_pos c8] at H
     have c8b0 : (a0_0 == 4) = true := beq_iff_eq.mpr c8
     have c8b1 : (a0_0 != 4) = false := bne_eq_false_iff_eq.mpr c8
     clear c8
     by_cases c9 : t603.size + 2 ≤ 9223372036854775807
     ·rw [if_pos c9] at H
      have c9b0 := eq_true c9
      have c9b1 : decide (t603.size + 2 ≤ 9223372036854775807) = true := decide_eq_true c9
      try have c9b2 : (9223372036854775807 < t603.size + 2) = False := eq_false (Nat.not_lt.2 c9)
      have c9b3 := c9b2
      try simp only [ByteArray.size_append, bsz1, bsz2, bsz3, bsz5, bsz6] at c9b3
      obtain ⟨t612, A10, H⟩ := bsA_ H
      try dsimp only at H
      by_cases c11 : (t603 ++ (⟨#[32, 114]⟩ : ByteArray)).size + t612.size ≤ 9223372036854775807
      ·rw [if_pos c11] at H
       have c11b0 := eq_true c11
       have c11b1 : decide ((t603 ++ (⟨#[32, 114]⟩ : ByteArray)).size + t612.size ≤ 9223372036854775807) = true := decide_eq_true c11
       try have c11b2 : (9223372036854775807 < (t603 ++ (⟨#[32, 114]⟩ : ByteArray)).size + t612.size) = False := eq_false (Nat.not_lt.2 c11)
       have c11b3 := c11b2
       try simp only [ByteArray.size_append, bsz1, bsz2, bsz3, bsz5, bsz6] at c11b3
       by_cases c12 : ((t603 ++ (⟨#[32, 114]⟩ : ByteArray)) ++ t612).size + 2 ≤ 9223372036854775807
       ·rw [if_pos c12] at H
        have c12b0 := eq_true c12
        have c12b1 : decide (((t603 ++ (⟨#[32, 114]⟩ : ByteArray)) ++ t612).size + 2 ≤ 9223372036854775807) = true := decide_eq_true c12
        try have c12b2 : (9223372036854775807 < ((t603 ++ (⟨#[32, 114]⟩ : ByteArray)) ++ t612).size + 2) = False := eq_false (Nat.not_lt.2 c12)
        have c12b3 := c12b2
        try simp only [ByteArray.size_append, bsz1, bsz2, bsz3, bsz5, bsz6] at c12b3
        by_cases c13 : (((t603 ++ (⟨#[32, 114]⟩ : ByteArray)) ++ t612) ++ (⟨#[44, 32]⟩ : ByteArray)).size + (((t610 ++ (⟨#[40, 114]⟩ : ByteArray)) ++ t611) ++ (⟨#[41]⟩ : ByteArray)).size ≤ 9223372036854775807
        ·rw [if_pos c13] at H
         have c13b0 := eq_true c13
         have c13b1 : decide ((((t603 ++ (⟨#[32, 114]⟩ : ByteArray)) ++ t612) ++ (⟨#[44, 32]⟩ : ByteArray)).size + (((t610 ++ (⟨#[40, 114]⟩ : ByteArray)) ++ t611) ++ (⟨#[41]⟩ : ByteArray)).size ≤ 9223372036854775807) = true := decide_eq_true c13
         try have c13b2 : (9223372036854775807 < (((t603 ++ (⟨#[32, 114]⟩ : ByteArray)) ++ t612) ++ (⟨#[44, 32]⟩ : ByteArray)).size + (((t610 ++ (⟨#[40, 114]⟩ : ByteArray)) ++ t611) ++ (⟨#[41]⟩ : ByteArray)).size) = False := eq_false (Nat.not_lt.2 c13)
         have c13b3 := c13b2
         try simp only [ByteArray.size_append, bsz1, bsz2, bsz3, bsz5, bsz6] at c13b3
         by_cases c14 : ((((t603 ++ (⟨#[32, 114]⟩ : ByteArray)) ++ t612) ++ (⟨#[44, 32]⟩ : ByteArray)) ++ (((t610 ++ (⟨#[40, 114]⟩ : ByteArray)) ++ t611) ++ (⟨#[41]⟩ : ByteArray))).size + 1 ≤ 9223372036854775807
         ·rw [if_pos c14] at H
          have c14b0 := eq_true c14
          have c14b1 : decide (((((t603 ++ (⟨#[32, 114]⟩ : ByteArray)) ++ t612) ++ (⟨#[44, 32]⟩ : ByteArray)) ++ (((t610 ++ (⟨#[40, 114]⟩ : ByteArray)) ++ t611) ++ (⟨#[41]⟩ : ByteArray))).size + 1 ≤ 9223372036854775807) = true := decide_eq_true c14
          try have c14b2 : (9223372036854775807 < ((((t603 ++ (⟨#[32, 114]⟩ : ByteArray)) ++ t612) ++ (⟨#[44, 32]⟩ : ByteArray)) ++ (((t610 ++ (⟨#[40, 114]⟩ : ByteArray)) ++ t611) ++ (⟨#[41]⟩ : ByteArray))).size + 1) = False := eq_false (Nat.not_lt.2 c14)
          have c14b3 := c14b2
          try simp only [ByteArray.size_append, bsz1, bsz2, bsz3, bsz5, bsz6] at c14b3
          obtain rfl := Option.some.inj H
          go_enter Tryd.func54, Tryd.ntmps54
          try go_wp2_with (first | ((with_reducible refine gate_dst (N := 1) rfl ?_); refine box_event ?hg (N := 1) ?hd (cs := #[.int .i64 a0_0, .int .i64 a0_1, .int .i64 a0_2, .int .i64 a0_3, .int .i64 a0_4]) (t := 26) ?hr ?_; (case hd => rfl); (case hg => rfl); (case hr => exact ts15_); intro gb601 hg w15 hbox hb; have BK601 := Aside0.mk (hbox); have GW601 := Aside0.mk ((ts45_ HB.out : w.heap.size ≤ gb601)); have GE601 := Aside0.mk ((ts45_ HB.out : w.heap.size ≤ gb601)); replace HB := Aside0.mk (below_step (ts34_ HB.out) hb); clear hb hbox hg; have hcz16_0 : w15.cell? ⟨gb601, 0, none⟩ = some (.int .i64 a0_0) := (blk_cell BK601.out 0).trans rfl; have hcz16_1 : w15.cell? ⟨gb601, 1, none⟩ = some (.int .i64 a0_1) := (blk_cell BK601.out 1).trans rfl; have hcz16_2 : w15.cell? ⟨gb601, 2, none⟩ = some (.int .i64 a0_2) := (blk_cell BK601.out 2).trans rfl; have hcz16_3 : w15.cell? ⟨gb601, 3, none⟩ = some (.int .i64 a0_3) := (blk_cell BK601.out 3).trans rfl; have hcz16_4 : w15.cell? ⟨gb601, 4, none⟩ = some (.int .i64 a0_4) := (blk_cell BK601.out 4).trans rfl; have hfz16_0 := blk_frozen BK601.out 0; have hfz16_1 := blk_frozen BK601.out 1; have hfz16_2 := blk_frozen BK601.out 2; have hfz16_3 := blk_frozen BK601.out 3; have hfz16_4 := blk_frozen BK601.out 4) | ((with_reducible refine gate_callee (f := 27) rfl ?_); refine goesL_ (some 11) rfl rfl Tryd.func27 (by kernel_rfl) rfl #[.int .i64 a0_0] rfl ts8_ ?_; (with_reducible refine (cupelref20_find.calls a0_0 t602 t603 t604 t605 t606 t607 t608 _ A2.out).mono ?_); rintro e w17 ⟨rfl, hb⟩; refine ⟨_, rfl, ?_⟩; replace BK601 := Aside0.mk (blk_below (g := gb601) (o := .cells #[.int .i64 a0_0, .int .i64 a0_1, .int .i64 a0_2, .int .i64 a0_3, .int .i64 a0_4] 26 (0, 0)) (ts14_ BK601.out) hb); replace HB := Aside0.mk (below_step (ts17_ HB.out GE601.out) hb); clear hb) | ((with_reducible refine gate_dst (N := 3) rfl ?_); refine box_event ?hg (N := 3) ?hd (cs := #[.int .i64 0, .string (⟨#[]⟩ : ByteArray), .bool false, .bool false, .bool false, .int .i64 0]) (t := 56) ?hr ?_; (case hd => rfl); (case hg => rfl); (case hr => exact ts15_); intro gb609 hg w18 hbox hb; have BK609 := Aside0.mk (hbox); have GW609 := Aside0.mk ((ts38_ HB.out GE601.out : w.heap.size ≤ gb609)); have GE609 := Aside0.mk ((ts38_ HB.out GE601.out : w.heap.size ≤ gb609)); replace HB := Aside0.mk (below_step (ts17_ HB.out GE601.out) hb); have NB601_609 := Aside0.mk ((ts49_ BK601.out : gb601 ≠ gb609)); have NB609_601 := Aside0.mk ((ts47_ BK601.out : gb609 ≠ gb601)); replace BK601 := Aside0.mk (blk_below (g := gb601) (o := .cells #[.int .i64 a0_0, .int .i64 a0_1, .int .i64 a0_2, .int .i64 a0_3, .int .i64 a0_4] 26 (0, 0)) (ts14_ BK601.out) hb); clear hb hbox hg; have hnb19 := NB609_601.out; have hnc19 := NB601_609.out; have hcz20_0 : w18.cell? ⟨gb609, 0, none⟩ = some (.int .i64 0) := (blk_cell BK609.out 0).trans rfl; have hcz20_1 : w18.cell? ⟨gb609, 1, none⟩ = some (.string (⟨#[]⟩ : ByteArray)) := (blk_cell BK609.out 1).trans rfl; have hcz20_2 : w18.cell? ⟨gb609, 2, none⟩ = some (.bool false) := (blk_cell BK609.out 2).trans rfl; have hcz20_3 : w18.cell? ⟨gb609, 3, none⟩ = some (.bool false) := (blk_cell BK609.out 3).trans rfl; have hcz20_4 : w18.cell? ⟨gb609, 4, none⟩ = some (.bool false) := (blk_cell BK609.out 4).trans rfl; have hcz20_5 : w18.cell? ⟨gb609, 5, none⟩ = some (.int .i64 0) := (blk_cell BK609.out 5).trans rfl; have hfz20_0 := blk_frozen BK609.out 0; have hfz20_1 := blk_frozen BK609.out 1; have hfz20_2 := blk_frozen BK609.out 2; have hfz20_3 := blk_frozen BK609.out 3; have hfz20_4 := blk_frozen BK609.out 4; have hfz20_5 := blk_frozen BK609.out 5))
          have n0_ : Aside0 (((((((w18.setCell ⟨gb609, 0, none⟩ (.int .i64 t602)).setCell ⟨gb609, 1, none⟩ (.string t603)).setCell ⟨gb609, 2, none⟩ (.bool t604)).setCell ⟨gb609, 3, none⟩ (.bool t605)).setCell ⟨gb609, 4, none⟩ (.bool t606)).setCell ⟨gb609, 5, none⟩ (.int .i64 t607)).heap[gb601]? = some (.cells #[.int .i64 a0_0, .int .i64 a0_1, .int .i64 a0_2, .int .i64 a0_3, .int .i64 a0_4] 26 (0, 0))) := ⟨ts18_ NB601_609.out BK601.out⟩
          have n1_ : Aside0 (((((((w18.setCell ⟨gb609, 0, none⟩ (.int .i64 t602)).setCell ⟨gb609, 1, none⟩ (.string t603)).setCell ⟨gb609, 2, none⟩ (.bool t604)).setCell ⟨gb609, 3, none⟩ (.bool t605)).setCell ⟨gb609, 4, none⟩ (.bool t606)).setCell ⟨gb609, 5, none⟩ (.int .i64 t607)).heap[gb609]? = some (.cells #[.int .i64 t602, .string t603, .bool t604, .bool t605, .bool t606, .int .i64 t607] 56 (0, 0))) := ⟨ts12_ BK609.out⟩
          have n2_ : Aside0 (Below w.heap.size w ((((((w18.setCell ⟨gb609, 0, none⟩ (.int .i64 t602)).setCell ⟨gb609, 1, none⟩ (.string t603)).setCell ⟨gb609, 2, none⟩ (.bool t604)).setCell ⟨gb609, 3, none⟩ (.bool t605)).setCell ⟨gb609, 4, none⟩ (.bool t606)).setCell ⟨gb609, 5, none⟩ (.int .i64 t607))) := ⟨ts25_ HB.out GE601.out GE609.out⟩
          (try clear BK601)
          (try clear BK609)
          (try clear HB)
          generalize ((((((w18.setCell ⟨gb609, 0, none⟩ (.int .i64 t602)).setCell ⟨gb609, 1, none⟩ (.string t603)).setCell ⟨gb609, 2, none⟩ (.bool t604)).setCell ⟨gb609, 3, none⟩ (.bool t605)).setCell ⟨gb609, 4, none⟩ (.bool t606)).setCell ⟨gb609, 5, none⟩ (.int .i64 t607)) = w21 at n0_ n1_ n2_ ⊢
          have BK601 := n0_
          have BK609 := n1_
          have HB := n2_
          clear n0_ n1_ n2_
          have n0_ := Aside0.mk (blk_drew BK601.out)
          have n1_ := Aside0.mk (blk_drew BK609.out)
          have n2_ := Aside0.mk (below_drew1 HB.out)
          clear BK601
          clear BK609
          clear HB
          have BK601 := n0_
          have BK609 := n1_
          have HB := n2_
          clear n0_ n1_ n2_
          refine start_ (n := 10) (S := fun w' => w'.cell? ⟨gb601, 0, none⟩ = some (.int .i64 a0_0) ∧ w'.cell? ⟨gb601, 1, none⟩ = some (.int .i64 a0_1) ∧ w'.cell? ⟨gb601, 2, none⟩ = some (.int .i64 a0_2) ∧ w'.cell? ⟨gb601, 3, none⟩ = some (.int .i64 a0_3) ∧ w'.cell? ⟨gb601, 4, none⟩ = some (.int .i64 a0_4)) (ds := []) #[false, false, false, false, false, false, false, false, false, false] (by kernel_rfl) rfl rfl ⟨(blk_cell BK601.out 0).trans rfl, (blk_cell BK601.out 1).trans rfl, (blk_cell BK601.out 2).trans rfl, (blk_cell BK601.out 3).trans rfl, (blk_cell BK601.out 4).trans rfl⟩ (fun hHeld => ?_); refine with_tabW cupelref20_Line.tab3 cupelref20_Line.bits3 (fun HT_ HW_ => ?_)
          generalize w21.drew = w22 at BK601 BK609 HB hHeld ⊢
          refine pure_ (i := 0) (N := some 16) (v := ?_) (a' := ?_) #[true, false, false, false, false, false, false, false, false, false] rfl rfl (any_of HT_.out (by kernel_rfl)) (fun _ _ _ h => h) (Or.inl ⟨by rfl, ?_⟩) ?_ ?_
          rotate_left
          ·intro w'
           go_simp
           with_reducible rfl
          rotate_left
          ·simp only [Act.put, List.setIfInBounds_toArray, List.set_cons_zero, List.set_cons_succ, i64_w, i32_w]
           rfl
          refine pure_ (i := 4) (N := some 20) (v := ?_) (a' := ?_) #[true, false, false, false, true, false, false, false, false, false] rfl rfl (any_of HT_.out (by kernel_rfl)) (fun _ _ _ h => h) (Or.inl ⟨by rfl, ?_⟩) ?_ ?_
          rotate_left
          ·intro w'
           go_simp
           with_reducible rfl
          rotate_left
          ·simp only [Act.put, List.setIfInBounds_toArray, List.set_cons_zero, List.set_cons_succ, i64_w, i32_w]
           rfl
          refine take_ (i := 1) (N := some 17) (v := ?_) (a' := ?_) #[true, true, false, false, true, false, false, false, false, false] rfl rfl (take_ofW HT_.out HW_.out (by kernel_rfl)) (fun _ _ _ h => h) (Or.inl ⟨by rfl, ?_⟩) hHeld ?_ ?_
          rotate_left
          ·rintro w' ⟨s0, s1, s2, s3, s4⟩
           go_simp
           with_reducible rfl
          rotate_left
          ·simp only [Act.put, List.setIfInBounds_toArray, List.set_cons_zero, List.set_cons_succ, i64_w, i32_w]
           rfl
          refine take_ (i := 5) (N := some 21) (v := ?_) (a' := ?_) #[true, true, false, false, true, true, false, false, false, false] rfl rfl (take_ofW HT_.out HW_.out (by kernel_rfl)) (fun _ _ _ h => h) (Or.inl ⟨by rfl, ?_⟩) hHeld ?_ ?_
          rotate_left
          ·rintro w' ⟨s0, s1, s2, s3, s4⟩
           go_simp
           with_reducible rfl
          rotate_left
          ·simp only [Act.put, List.setIfInBounds_toArray, List.set_cons_zero, List.set_cons_succ, i64_w, i32_w]
           rfl
          refine one_ (i := 2) (N := some 18) #[true, true, true, false, true, true, false, false, false, false] rfl rfl (one_of HT_.out (by kernel_rfl)) (by decide) (fun K hK => ?_)
          refine goes_ Tryd.func53 (by kernel_rfl) rfl #[.int .i64 a0_4] (by rfl) rfl rfl ts8_ ?_
          with_reducible refine (cupelref20_number.calls k a0_4 t610 _ A3.out).mono ?_
          rintro e w23 ⟨rfl, hb⟩
          refine ⟨_, rfl, ?_⟩
          have n0_ := Aside0.mk (blk_below (g := gb601) (o := .cells #[.int .i64 a0_0, .int .i64 a0_1, .int .i64 a0_2, .int .i64 a0_3, .int .i64 a0_4] 26 (0, 0)) (ts14_ BK601.out) hb)
          have n1_ := Aside0.mk (blk_below (g := gb609) (o := .cells #[.int .i64 t602, .string t603, .bool t604, .bool t605, .bool t606, .int .i64 t607] 56 (0, 0)) (ts14_ BK609.out) hb)
          have n2_ := Aside0.mk (below_step (ts25_ HB.out GE601.out GE609.out) hb)
          clear BK601
          clear BK609
          clear HB
          have BK601 := n0_
          have BK609 := n1_
          have HB := n2_
          clear n0_ n1_ n2_
          (try clear hb)
          (try clear hb2)
          (try clear hk)
          (try clear hi)
          refine hK.out _ _ ⟨(blk_cell BK601.out 0).trans rfl, (blk_cell BK601.out 1).trans rfl, (blk_cell BK601.out 2).trans rfl, (blk_cell BK601.out 3).trans rfl, (blk_cell BK601.out 4).trans rfl⟩ (fun hHeld => ?_)
          clear hK K
          refine norm_ (a' := ?_) ?_ ?_
          rotate_left
          ·show Act.put _ (some 18) _ = _
           simp only [Act.put, List.setIfInBounds_toArray, List.set_cons_zero, List.set_cons_succ, i64_w, i32_w]
           rfl
          refine pure_ (i := 3) (N := some 19) (v := ?_) (a' := ?_) #[true, true, true, true, true, true, false, false, false, false] rfl rfl (any_of HT_.out (by kernel_rfl)) (fun _ _ _ h => h) (Or.inl ⟨by rfl, ?_⟩) ?_ ?_
          rotate_left
          ·intro w'
           go_simp
           with_reducible rfl
          rotate_left
          ·simp only [Act.put, List.setIfInBounds_toArray, List.set_cons_zero, List.set_cons_succ, i64_w, i32_w]
           rfl
          refine one_ (i := 6) (N := some 22) #[true, true, true, true, true, true, true, false, false, false] rfl rfl (one_of HT_.out (by kernel_rfl)) (by decide) (fun K hK => ?_)
          refine goes_ Tryd.func53 (by kernel_rfl) rfl #[.int .i64 a0_2] (by rfl) rfl rfl ts8_ ?_
          with_reducible refine (cupelref20_number.calls k a0_2 t611 _ A5.out).mono ?_
          rintro e w24 ⟨rfl, hb⟩
          refine ⟨_, rfl, ?_⟩
          have n0_ := Aside0.mk (blk_below (g := gb601) (o := .cells #[.int .i64 a0_0, .int .i64 a0_1, .int .i64 a0_2, .int .i64 a0_3, .int .i64 a0_4] 26 (0, 0)) (ts14_ BK601.out) hb)
          have n1_ := Aside0.mk (blk_below (g := gb609) (o := .cells #[.int .i64 t602, .string t603, .bool t604, .bool t605, .bool t606, .int .i64 t607] 56 (0, 0)) (ts14_ BK609.out) hb)
          have n2_ := Aside0.mk (below_step (ts25_ HB.out GE601.out GE609.out) hb)
          clear BK601
          clear BK609
          clear HB
          have BK601 := n0_
          have BK609 := n1_
          have HB := n2_
          clear n0_ n1_ n2_
          (try clear hb)
          (try clear hb2)
          (try clear hk)
          (try clear hi)
          refine hK.out _ _ ⟨(blk_cell BK601.out 0).trans rfl, (blk_cell BK601.out 1).trans rfl, (blk_cell BK601.out 2).trans rfl, (blk_cell BK601.out 3).trans rfl, (blk_cell BK601.out 4).trans rfl⟩ (fun hHeld => ?_)
          clear hK K
          refine norm_ (a' := ?_) ?_ ?_
          rotate_left
          ·show Act.put _ (some 22) _ = _
           simp only [Act.put, List.setIfInBounds_toArray, List.set_cons_zero, List.set_cons_succ, i64_w, i32_w]
           rfl
          refine pure_ (i := 7) (N := some 23) (v := ?_) (a' := ?_) #[true, true, true, true, true, true, true, true, false, false] rfl rfl (any_of HT_.out (by kernel_rfl)) (fun _ _ _ h => h) (Or.inl ⟨by rfl, ?_⟩) ?_ ?_
          rotate_left
          ·intro w'
           go_simp
           with_reducible rfl
          rotate_left
          ·simp only [Act.put, List.setIfInBounds_toArray, List.set_cons_zero, List.set_cons_succ, i64_w, i32_w]
           rfl
          refine pure_ (i := 8) (N := some 24) (v := ?_) (a' := ?_) #[true, true, true, true, true, true, true, true, true, false] rfl rfl (any_of HT_.out (by kernel_rfl)) (fun _ _ _ h => h) (Or.inl ⟨by rfl, ?_⟩) ?_ ?_
          rotate_left
          ·intro w'
           go_simp
           with_reducible rfl
          rotate_left
          ·simp only [Act.put, List.setIfInBounds_toArray, List.set_cons_zero, List.set_cons_succ, i64_w, i32_w]
           rfl
          refine pure_ (i := 9) (N := some 6) (v := ?_) (a' := ?_) #[true, true, true, true, true, true, true, true, true, true] rfl rfl (any_of HT_.out (by kernel_rfl)) (fun _ _ _ h => h) (Or.inl ⟨by rfl, ?_⟩) ?_ ?_
          rotate_left
          ·intro w'
           go_simp
           with_reducible rfl
          rotate_left
          ·simp only [Act.put, List.setIfInBounds_toArray, List.set_cons_zero, List.set_cons_succ, i64_w, i32_w]
           rfl
          refine done_ (done_of HT_.out (by kernel_rfl)) ?_
          have hcz25_0 : w24.cell? ⟨gb601, 0, none⟩ = some (.int .i64 a0_0) := (blk_cell BK601.out 0).trans rfl
          have hcz25_1 : w24.cell? ⟨gb601, 1, none⟩ = some (.int .i64 a0_1) := (blk_cell BK601.out 1).trans rfl
          have hcz25_2 : w24.cell? ⟨gb601, 2, none⟩ = some (.int .i64 a0_2) := (blk_cell BK601.out 2).trans rfl
          have hcz25_3 : w24.cell? ⟨gb601, 3, none⟩ = some (.int .i64 a0_3) := (blk_cell BK601.out 3).trans rfl
          have hcz25_4 : w24.cell? ⟨gb601, 4, none⟩ = some (.int .i64 a0_4) := (blk_cell BK601.out 4).trans rfl
          have hfz25_0 := blk_frozen BK601.out 0
          have hfz25_1 := blk_frozen BK601.out 1
          have hfz25_2 := blk_frozen BK601.out 2
          have hfz25_3 := blk_frozen BK601.out 3
          have hfz25_4 := blk_frozen BK601.out 4
          try go_wp2_with (first | ((with_reducible refine gate_callee (f := 53) rfl ?_); refine goesL_ (some 32) rfl rfl Tryd.func53 (by kernel_rfl) rfl #[.int .i64 a0_1] rfl ts8_ ?_; (with_reducible refine (cupelref20_number.calls k a0_1 t612 _ A10.out).mono ?_); rintro e w26 ⟨rfl, hb⟩; refine ⟨_, rfl, ?_⟩; replace BK601 := Aside0.mk (blk_below (g := gb601) (o := .cells #[.int .i64 a0_0, .int .i64 a0_1, .int .i64 a0_2, .int .i64 a0_3, .int .i64 a0_4] 26 (0, 0)) (ts14_ BK601.out) hb); replace BK609 := Aside0.mk (blk_below (g := gb609) (o := .cells #[.int .i64 t602, .string t603, .bool t604, .bool t605, .bool t606, .int .i64 t607] 56 (0, 0)) (ts14_ BK609.out) hb); replace HB := Aside0.mk (below_step (ts25_ HB.out GE601.out GE609.out) hb); clear hb))
          go_ret
          exact ⟨ts26_, ts25_ HB.out GE601.out GE609.out⟩
         rw [if_neg c14] at H
         exact absurd H (by simp)
        rw [if_neg c13] at H
        exact absurd H (by simp)
       rw [if_neg c12] at H
       exact absurd H (by simp)
      rw [if_neg c11] at H
      exact absurd H (by simp)
     rw [if_neg c9] at H
     exact absurd H (by simp)
    rw [if_neg c8] at H
    have c8b0 : (a0_0 == 4) = false := beq_eq_false_iff_ne.mpr c8
    have c8b1 : (a0_0 != 4) = true := bne_iff_ne.mpr c8
    by_cases c27 : a0_0 = 5
    ·rw [if_pos c27] at H
     have c27b0 : (a0_0 == 5) = true := beq_iff_eq.mpr c27
     have c27b1 : (a0_0 != 5) = false := bne_eq_false_iff_eq.mpr c27
     clear c27
     by_cases c28 : t603.size + 1 ≤ 9223372036854775807
     ·rw [if_pos c28] at H
      have c28b0 := eq_true c28
      have c28b1 : decide (t603.size + 1 ≤ 9223372036854775807) = true := decide_eq_true c28
      try have c28b2 : (9223372036854775807 < t603.size + 1) = False := eq_false (Nat.not_lt.2 c28)
      have c28b3 := c28b2
      try simp only [ByteArray.size_append, bsz1, bsz2, bsz3, bsz5, bsz6] at c28b3
      by_cases c29 : (t603 ++ (⟨#[32]⟩ : ByteArray)).size + (((t610 ++ (⟨#[40, 114]⟩ : ByteArray)) ++ t611) ++ (⟨#[41]⟩ : ByteArray)).size ≤ 9223372036854775807
      ·rw [if_pos c29] at H
       have c29b0 := eq_true c29
       have c29b1 : decide ((t603 ++ (⟨#[32]⟩ : ByteArray)).size + (((t610 ++ (⟨#[40, 114]⟩ : ByteArray)) ++ t611) ++ (⟨#[41]⟩ : ByteArray)).size ≤ 9223372036854775807) = true := decide_eq_true c29
       try have c29b2 : (9223372036854775807 < (t603 ++ (⟨#[32]⟩ : ByteArray)).size + (((t610 ++ (⟨#[40, 114]⟩ : ByteArray)) ++ t611) ++ (⟨#[41]⟩ : ByteArray)).size) = False := eq_false (Nat.not_lt.2 c29)
       have c29b3 := c29b2
       try simp only [ByteArray.size_append, bsz1, bsz2, bsz3, bsz5, bsz6] at c29b3
       by_cases c30 : ((t603 ++ (⟨#[32]⟩ : ByteArray)) ++ (((t610 ++ (⟨#[40, 114]⟩ : ByteArray)) ++ t611) ++ (⟨#[41]⟩ : ByteArray))).size + 3 ≤ 9223372036854775807
       ·rw [if_pos c30] at H
        have c30b0 := eq_true c30
        have c30b1 : decide (((t603 ++ (⟨#[32]⟩ : ByteArray)) ++ (((t610 ++ (⟨#[40, 114]⟩ : ByteArray)) ++ t611) ++ (⟨#[41]⟩ : ByteArray))).size + 3 ≤ 9223372036854775807) = true := decide_eq_true c30
        try have c30b2 : (9223372036854775807 < ((t603 ++ (⟨#[32]⟩ : ByteArray)) ++ (((t610 ++ (⟨#[40, 114]⟩ : ByteArray)) ++ t611) ++ (⟨#[41]⟩ : ByteArray))).size + 3) = False := eq_false (Nat.not_lt.2 c30)
        have c30b3 := c30b2
        try simp only [ByteArray.size_append, bsz1, bsz2, bsz3, bsz5, bsz6] at c30b3
        obtain ⟨t613, A31, H⟩ := bsA_ H
        try dsimp only at H
        by_cases c32 : (((t603 ++ (⟨#[32]⟩ : ByteArray)) ++ (((t610 ++ (⟨#[40, 114]⟩ : ByteArray)) ++ t611) ++ (⟨#[41]⟩ : ByteArray))) ++ (⟨#[44, 32, 114]⟩ : ByteArray)).size + t613.size ≤ 9223372036854775807
        ·rw [if_pos c32] at H
         have c32b0 := eq_true c32
         have c32b1 : decide ((((t603 ++ (⟨#[32]⟩ : ByteArray)) ++ (((t610 ++ (⟨#[40, 114]⟩ : ByteArray)) ++ t611) ++ (⟨#[41]⟩ : ByteArray))) ++ (⟨#[44, 32, 114]⟩ : ByteArray)).size + t613.size ≤ 9223372036854775807) = true := decide_eq_true c32
         try have c32b2 : (9223372036854775807 < (((t603 ++ (⟨#[32]⟩ : ByteArray)) ++ (((t610 ++ (⟨#[40, 114]⟩ : ByteArray)) ++ t611) ++ (⟨#[41]⟩ : ByteArray))) ++ (⟨#[44, 32, 114]⟩ : ByteArray)).size + t613.size) = False := eq_false (Nat.not_lt.2 c32)
         have c32b3 := c32b2
         try simp only [ByteArray.size_append, bsz1, bsz2, bsz3, bsz5, bsz6] at c32b3
         by_cases c33 : ((((t603 ++ (⟨#[32]⟩ : ByteArray)) ++ (((t610 ++ (⟨#[40, 114]⟩ : ByteArray)) ++ t611) ++ (⟨#[41]⟩ : ByteArray))) ++ (⟨#[44, 32, 114]⟩ : ByteArray)) ++ t613).size + 1 ≤ 9223372036854775807
         ·rw [if_pos c33] at H
          have c33b0 := eq_true c33
          have c33b1 : decide (((((t603 ++ (⟨#[32]⟩ : ByteArray)) ++ (((t610 ++ (⟨#[40, 114]⟩ : ByteArray)) ++ t611) ++ (⟨#[41]⟩ : ByteArray))) ++ (⟨#[44, 32, 114]⟩ : ByteArray)) ++ t613).size + 1 ≤ 9223372036854775807) = true := decide_eq_true c33
          try have c33b2 : (9223372036854775807 < ((((t603 ++ (⟨#[32]⟩ : ByteArray)) ++ (((t610 ++ (⟨#[40, 114]⟩ : ByteArray)) ++ t611) ++ (⟨#[41]⟩ : ByteArray))) ++ (⟨#[44, 32, 114]⟩ : ByteArray)) ++ t613).size + 1) = False := eq_false (Nat.not_lt.2 c33)
          have c33b3 := c33b2
          try simp only [ByteArray.size_append, bsz1, bsz2, bsz3, bsz5, bsz6] at c33b3
          obtain rfl := Option.some.inj H
          go_enter Tryd.func54, Tryd.ntmps54
          try go_wp2_with (first | ((with_reducible refine gate_dst (N := 1) rfl ?_); refine box_event ?hg (N := 1) ?hd (cs := #[.int .i64 a0_0, .int .i64 a0_1, .int .i64 a0_2, .int .i64 a0_3, .int .i64 a0_4]) (t := 26) ?hr ?_; (case hd => rfl); (case hg => rfl); (case hr => exact ts15_); intro gb601 hg w34 hbox hb; have BK601 := Aside0.mk (hbox); have GW601 := Aside0.mk ((ts45_ HB.out : w.heap.size ≤ gb601)); have GE601 := Aside0.mk ((ts45_ HB.out : w.heap.size ≤ gb601)); replace HB := Aside0.mk (below_step (ts34_ HB.out) hb); clear hb hbox hg; have hcz35_0 : w34.cell? ⟨gb601, 0, none⟩ = some (.int .i64 a0_0) := (blk_cell BK601.out 0).trans rfl; have hcz35_1 : w34.cell? ⟨gb601, 1, none⟩ = some (.int .i64 a0_1) := (blk_cell BK601.out 1).trans rfl; have hcz35_2 : w34.cell? ⟨gb601, 2, none⟩ = some (.int .i64 a0_2) := (blk_cell BK601.out 2).trans rfl; have hcz35_3 : w34.cell? ⟨gb601, 3, none⟩ = some (.int .i64 a0_3) := (blk_cell BK601.out 3).trans rfl; have hcz35_4 : w34.cell? ⟨gb601, 4, none⟩ = some (.int .i64 a0_4) := (blk_cell BK601.out 4).trans rfl; have hfz35_0 := blk_frozen BK601.out 0; have hfz35_1 := blk_frozen BK601.out 1; have hfz35_2 := blk_frozen BK601.out 2; have hfz35_3 := blk_frozen BK601.out 3; have hfz35_4 := blk_frozen BK601.out 4) | ((with_reducible refine gate_callee (f := 27) rfl ?_); refine goesL_ (some 11) rfl rfl Tryd.func27 (by kernel_rfl) rfl #[.int .i64 a0_0] rfl ts8_ ?_; (with_reducible refine (cupelref20_find.calls a0_0 t602 t603 t604 t605 t606 t607 t608 _ A2.out).mono ?_); rintro e w36 ⟨rfl, hb⟩; refine ⟨_, rfl, ?_⟩; replace BK601 := Aside0.mk (blk_below (g := gb601) (o := .cells #[.int .i64 a0_0, .int .i64 a0_1, .int .i64 a0_2, .int .i64 a0_3, .int .i64 a0_4] 26 (0, 0)) (ts14_ BK601.out) hb); replace HB := Aside0.mk (below_step (ts17_ HB.out GE601.out) hb); clear hb) | ((with_reducible refine gate_dst (N := 3) rfl ?_); refine box_event ?hg (N := 3) ?hd (cs := #[.int .i64 0, .string (⟨#[]⟩ : ByteArray), .bool false, .bool false, .bool false, .int .i64 0]) (t := 56) ?hr ?_; (case hd => rfl); (case hg => rfl); (case hr => exact ts15_); intro gb609 hg w37 hbox hb; have BK609 := Aside0.mk (hbox); have GW609 := Aside0.mk ((ts38_ HB.out GE601.out : w.heap.size ≤ gb609)); have GE609 := Aside0.mk ((ts38_ HB.out GE601.out : w.heap.size ≤ gb609)); replace HB := Aside0.mk (below_step (ts17_ HB.out GE601.out) hb); have NB601_609 := Aside0.mk ((ts49_ BK601.out : gb601 ≠ gb609)); have NB609_601 := Aside0.mk ((ts47_ BK601.out : gb609 ≠ gb601)); replace BK601 := Aside0.mk (blk_below (g := gb601) (o := .cells #[.int .i64 a0_0, .int .i64 a0_1, .int .i64 a0_2, .int .i64 a0_3, .int .i64 a0_4] 26 (0, 0)) (ts14_ BK601.out) hb); clear hb hbox hg; have hnb38 := NB609_601.out; have hnc38 := NB601_609.out; have hcz39_0 : w37.cell? ⟨gb609, 0, none⟩ = some (.int .i64 0) := (blk_cell BK609.out 0).trans rfl; have hcz39_1 : w37.cell? ⟨gb609, 1, none⟩ = some (.string (⟨#[]⟩ : ByteArray)) := (blk_cell BK609.out 1).trans rfl; have hcz39_2 : w37.cell? ⟨gb609, 2, none⟩ = some (.bool false) := (blk_cell BK609.out 2).trans rfl; have hcz39_3 : w37.cell? ⟨gb609, 3, none⟩ = some (.bool false) := (blk_cell BK609.out 3).trans rfl; have hcz39_4 : w37.cell? ⟨gb609, 4, none⟩ = some (.bool false) := (blk_cell BK609.out 4).trans rfl; have hcz39_5 : w37.cell? ⟨gb609, 5, none⟩ = some (.int .i64 0) := (blk_cell BK609.out 5).trans rfl; have hfz39_0 := blk_frozen BK609.out 0; have hfz39_1 := blk_frozen BK609.out 1; have hfz39_2 := blk_frozen BK609.out 2; have hfz39_3 := blk_frozen BK609.out 3; have hfz39_4 := blk_frozen BK609.out 4; have hfz39_5 := blk_frozen BK609.out 5))
          have n0_ : Aside0 (((((((w37.setCell ⟨gb609, 0, none⟩ (.int .i64 t602)).setCell ⟨gb609, 1, none⟩ (.string t603)).setCell ⟨gb609, 2, none⟩ (.bool t604)).setCell ⟨gb609, 3, none⟩ (.bool t605)).setCell ⟨gb609, 4, none⟩ (.bool t606)).setCell ⟨gb609, 5, none⟩ (.int .i64 t607)).heap[gb601]? = some (.cells #[.int .i64 a0_0, .int .i64 a0_1, .int .i64 a0_2, .int .i64 a0_3, .int .i64 a0_4] 26 (0, 0))) := ⟨ts18_ NB601_609.out BK601.out⟩
          have n1_ : Aside0 (((((((w37.setCell ⟨gb609, 0, none⟩ (.int .i64 t602)).setCell ⟨gb609, 1, none⟩ (.string t603)).setCell ⟨gb609, 2, none⟩ (.bool t604)).setCell ⟨gb609, 3, none⟩ (.bool t605)).setCell ⟨gb609, 4, none⟩ (.bool t606)).setCell ⟨gb609, 5, none⟩ (.int .i64 t607)).heap[gb609]? = some (.cells #[.int .i64 t602, .string t603, .bool t604, .bool t605, .bool t606, .int .i64 t607] 56 (0, 0))) := ⟨ts12_ BK609.out⟩
          have n2_ : Aside0 (Below w.heap.size w ((((((w37.setCell ⟨gb609, 0, none⟩ (.int .i64 t602)).setCell ⟨gb609, 1, none⟩ (.string t603)).setCell ⟨gb609, 2, none⟩ (.bool t604)).setCell ⟨gb609, 3, none⟩ (.bool t605)).setCell ⟨gb609, 4, none⟩ (.bool t606)).setCell ⟨gb609, 5, none⟩ (.int .i64 t607))) := ⟨ts25_ HB.out GE601.out GE609.out⟩
          (try clear BK601)
          (try clear BK609)
          (try clear HB)
          generalize ((((((w37.setCell ⟨gb609, 0, none⟩ (.int .i64 t602)).setCell ⟨gb609, 1, none⟩ (.string t603)).setCell ⟨gb609, 2, none⟩ (.bool t604)).setCell ⟨gb609, 3, none⟩ (.bool t605)).setCell ⟨gb609, 4, none⟩ (.bool t606)).setCell ⟨gb609, 5, none⟩ (.int .i64 t607)) = w40 at n0_ n1_ n2_ ⊢
          have BK601 := n0_
          have BK609 := n1_
          have HB := n2_
          clear n0_ n1_ n2_
          have n0_ := Aside0.mk (blk_drew BK601.out)
          have n1_ := Aside0.mk (blk_drew BK609.out)
          have n2_ := Aside0.mk (below_drew1 HB.out)
          clear BK601
          clear BK609
          clear HB
          have BK601 := n0_
          have BK609 := n1_
          have HB := n2_
          clear n0_ n1_ n2_
          refine start_ (n := 10) (S := fun w' => w'.cell? ⟨gb601, 0, none⟩ = some (.int .i64 a0_0) ∧ w'.cell? ⟨gb601, 1, none⟩ = some (.int .i64 a0_1) ∧ w'.cell? ⟨gb601, 2, none⟩ = some (.int .i64 a0_2) ∧ w'.cell? ⟨gb601, 3, none⟩ = some (.int .i64 a0_3) ∧ w'.cell? ⟨gb601, 4, none⟩ = some (.int .i64 a0_4)) (ds := []) #[false, false, false, false, false, false, false, false, false, false] (by kernel_rfl) rfl rfl ⟨(blk_cell BK601.out 0).trans rfl, (blk_cell BK601.out 1).trans rfl, (blk_cell BK601.out 2).trans rfl, (blk_cell BK601.out 3).trans rfl, (blk_cell BK601.out 4).trans rfl⟩ (fun hHeld => ?_); refine with_tabW cupelref20_Line.tab3 cupelref20_Line.bits3 (fun HT_ HW_ => ?_)
          generalize w40.drew = w41 at BK601 BK609 HB hHeld ⊢
          refine pure_ (i := 0) (N := some 16) (v := ?_) (a' := ?_) #[true, false, false, false, false, false, false, false, false, false] rfl rfl (any_of HT_.out (by kernel_rfl)) (fun _ _ _ h => h) (Or.inl ⟨by rfl, ?_⟩) ?_ ?_
          rotate_left
          ·intro w'
           go_simp
           with_reducible rfl
          rotate_left
          ·simp only [Act.put, List.setIfInBounds_toArray, List.set_cons_zero, List.set_cons_succ, i64_w, i32_w]
           rfl
          refine pure_ (i := 4) (N := some 20) (v := ?_) (a' := ?_) #[true, false, false, false, true, false, false, false, false, false] rfl rfl (any_of HT_.out (by kernel_rfl)) (fun _ _ _ h => h) (Or.inl ⟨by rfl, ?_⟩) ?_ ?_
          rotate_left
          ·intro w'
           go_simp
           with_reducible rfl
          rotate_left
          ·simp only [Act.put, List.setIfInBounds_toArray, List.set_cons_zero, List.set_cons_succ, i64_w, i32_w]
           rfl
          refine take_ (i := 1) (N := some 17) (v := ?_) (a' := ?_) #[true, true, false, false, true, false, false, false, false, false] rfl rfl (take_ofW HT_.out HW_.out (by kernel_rfl)) (fun _ _ _ h => h) (Or.inl ⟨by rfl, ?_⟩) hHeld ?_ ?_
          rotate_left
          ·rintro w' ⟨s0, s1, s2, s3, s4⟩
           go_simp
           with_reducible rfl
          rotate_left
          ·simp only [Act.put, List.setIfInBounds_toArray, List.set_cons_zero, List.set_cons_succ, i64_w, i32_w]
           rfl
          refine take_ (i := 5) (N := some 21) (v := ?_) (a' := ?_) #[true, true, false, false, true, true, false, false, false, false] rfl rfl (take_ofW HT_.out HW_.out (by kernel_rfl)) (fun _ _ _ h => h) (Or.inl ⟨by rfl, ?_⟩) hHeld ?_ ?_
          rotate_left
          ·rintro w' ⟨s0, s1, s2, s3, s4⟩
           go_simp
           with_reducible rfl
          rotate_left
          ·simp only [Act.put, List.setIfInBounds_toArray, List.set_cons_zero, List.set_cons_succ, i64_w, i32_w]
           rfl
          refine one_ (i := 2) (N := some 18) #[true, true, true, false, true, true, false, false, false, false] rfl rfl (one_of HT_.out (by kernel_rfl)) (by decide) (fun K hK => ?_)
          refine goes_ Tryd.func53 (by kernel_rfl) rfl #[.int .i64 a0_4] (by rfl) rfl rfl ts8_ ?_
          with_reducible refine (cupelref20_number.calls k a0_4 t610 _ A3.out).mono ?_
          rintro e w42 ⟨rfl, hb⟩
          refine ⟨_, rfl, ?_⟩
          have n0_ := Aside0.mk (blk_below (g := gb601) (o := .cells #[.int .i64 a0_0, .int .i64 a0_1, .int .i64 a0_2, .int .i64 a0_3, .int .i64 a0_4] 26 (0, 0)) (ts14_ BK601.out) hb)
          have n1_ := Aside0.mk (blk_below (g := gb609) (o := .cells #[.int .i64 t602, .string t603, .bool t604, .bool t605, .bool t606, .int .i64 t607] 56 (0, 0)) (ts14_ BK609.out) hb)
          have n2_ := Aside0.mk (below_step (ts25_ HB.out GE601.out GE609.out) hb)
          clear BK601
          clear BK609
          clear HB
          have BK601 := n0_
          have BK609 := n1_
          have HB := n2_
          clear n0_ n1_ n2_
          (try clear hb)
          (try clear hb2)
          (try clear hk)
          (try clear hi)
          refine hK.out _ _ ⟨(blk_cell BK601.out 0).trans rfl, (blk_cell BK601.out 1).trans rfl, (blk_cell BK601.out 2).trans rfl, (blk_cell BK601.out 3).trans rfl, (blk_cell BK601.out 4).trans rfl⟩ (fun hHeld => ?_)
          clear hK K
          refine norm_ (a' := ?_) ?_ ?_
          rotate_left
          ·show Act.put _ (some 18) _ = _
           simp only [Act.put, List.setIfInBounds_toArray, List.set_cons_zero, List.set_cons_succ, i64_w, i32_w]
           rfl
          refine pure_ (i := 3) (N := some 19) (v := ?_) (a' := ?_) #[true, true, true, true, true, true, false, false, false, false] rfl rfl (any_of HT_.out (by kernel_rfl)) (fun _ _ _ h => h) (Or.inl ⟨by rfl, ?_⟩) ?_ ?_
          rotate_left
          ·intro w'
           go_simp
           with_reducible rfl
          rotate_left
          ·simp only [Act.put, List.setIfInBounds_toArray, List.set_cons_zero, List.set_cons_succ, i64_w, i32_w]
           rfl
          refine one_ (i := 6) (N := some 22) #[true, true, true, true, true, true, true, false, false, false] rfl rfl (one_of HT_.out (by kernel_rfl)) (by decide) (fun K hK => ?_)
          refine goes_ Tryd.func53 (by kernel_rfl) rfl #[.int .i64 a0_2] (by rfl) rfl rfl ts8_ ?_
          with_reducible refine (cupelref20_number.calls k a0_2 t611 _ A5.out).mono ?_
          rintro e w43 ⟨rfl, hb⟩
          refine ⟨_, rfl, ?_⟩
          have n0_ := Aside0.mk (blk_below (g := gb601) (o := .cells #[.int .i64 a0_0, .int .i64 a0_1, .int .i64 a0_2, .int .i64 a0_3, .int .i64 a0_4] 26 (0, 0)) (ts14_ BK601.out) hb)
          have n1_ := Aside0.mk (blk_below (g := gb609) (o := .cells #[.int .i64 t602, .string t603, .bool t604, .bool t605, .bool t606, .int .i64 t607] 56 (0, 0)) (ts14_ BK609.out) hb)
          have n2_ := Aside0.mk (below_step (ts25_ HB.out GE601.out GE609.out) hb)
          clear BK601
          clear BK609
          clear HB
          have BK601 := n0_
          have BK609 := n1_
          have HB := n2_
          clear n0_ n1_ n2_
          (try clear hb)
          (try clear hb2)
          (try clear hk)
          (try clear hi)
          refine hK.out _ _ ⟨(blk_cell BK601.out 0).trans rfl, (blk_cell BK601.out 1).trans rfl, (blk_cell BK601.out 2).trans rfl, (blk_cell BK601.out 3).trans rfl, (blk_cell BK601.out 4).trans rfl⟩ (fun hHeld => ?_)
          clear hK K
          refine norm_ (a' := ?_) ?_ ?_
          rotate_left
          ·show Act.put _ (some 22) _ = _
           simp only [Act.put, List.setIfInBounds_toArray, List.set_cons_zero, List.set_cons_succ, i64_w, i32_w]
           rfl
          refine pure_ (i := 7) (N := some 23) (v := ?_) (a' := ?_) #[true, true, true, true, true, true, true, true, false, false] rfl rfl (any_of HT_.out (by kernel_rfl)) (fun _ _ _ h => h) (Or.inl ⟨by rfl, ?_⟩) ?_ ?_
          rotate_left
          ·intro w'
           go_simp
           with_reducible rfl
          rotate_left
          ·simp only [Act.put, List.setIfInBounds_toArray, List.set_cons_zero, List.set_cons_succ, i64_w, i32_w]
           rfl
          refine pure_ (i := 8) (N := some 24) (v := ?_) (a' := ?_) #[true, true, true, true, true, true, true, true, true, false] rfl rfl (any_of HT_.out (by kernel_rfl)) (fun _ _ _ h => h) (Or.inl ⟨by rfl, ?_⟩) ?_ ?_
          rotate_left
          ·intro w'
           go_simp
           with_reducible rfl
          rotate_left
          ·simp only [Act.put, List.setIfInBounds_toArray, List.set_cons_zero, List.set_cons_succ, i64_w, i32_w]
           rfl
          refine pure_ (i := 9) (N := some 6) (v := ?_) (a' := ?_) #[true, true, true, true, true, true, true, true, true, true] rfl rfl (any_of HT_.out (by kernel_rfl)) (fun _ _ _ h => h) (Or.inl ⟨by rfl, ?_⟩) ?_ ?_
          rotate_left
          ·intro w'
           go_simp
           with_reducible rfl
          rotate_left
          ·simp only [Act.put, List.setIfInBounds_toArray, List.set_cons_zero, List.set_cons_succ, i64_w, i32_w]
           rfl
          refine done_ (done_of HT_.out (by kernel_rfl)) ?_
          have hcz44_0 : w43.cell? ⟨gb601, 0, none⟩ = some (.int .i64 a0_0) := (blk_cell BK601.out 0).trans rfl
          have hcz44_1 : w43.cell? ⟨gb601, 1, none⟩ = some (.int .i64 a0_1) := (blk_cell BK601.out 1).trans rfl
          have hcz44_2 : w43.cell? ⟨gb601, 2, none⟩ = some (.int .i64 a0_2) := (blk_cell BK601.out 2).trans rfl
          have hcz44_3 : w43.cell? ⟨gb601, 3, none⟩ = some (.int .i64 a0_3) := (blk_cell BK601.out 3).trans rfl
          have hcz44_4 : w43.cell? ⟨gb601, 4, none⟩ = some (.int .i64 a0_4) := (blk_cell BK601.out 4).trans rfl
          have hfz44_0 := blk_frozen BK601.out 0
          have hfz44_1 := blk_frozen BK601.out 1
          have hfz44_2 := blk_frozen BK601.out 2
          have hfz44_3 := blk_frozen BK601.out 3
          have hfz44_4 := blk_frozen BK601.out 4
          try go_wp2_with (first | ((with_reducible refine gate_callee (f := 53) rfl ?_); refine goesL_ (some 48) rfl rfl Tryd.func53 (by kernel_rfl) rfl #[.int .i64 a0_3] rfl ts8_ ?_; (with_reducible refine (cupelref20_number.calls k a0_3 t613 _ A31.out).mono ?_); rintro e w45 ⟨rfl, hb⟩; refine ⟨_, rfl, ?_⟩; replace BK601 := Aside0.mk (blk_below (g := gb601) (o := .cells #[.int .i64 a0_0, .int .i64 a0_1, .int .i64 a0_2, .int .i64 a0_3, .int .i64 a0_4] 26 (0, 0)) (ts14_ BK601.out) hb); replace BK609 := Aside0.mk (blk_below (g := gb609) (o := .cells #[.int .i64 t602, .string t603, .bool t604, .bool t605, .bool t606, .int .i64 t607] 56 (0, 0)) (ts14_ BK609.out) hb); replace HB := Aside0.mk (below_step (ts25_ HB.out GE601.out GE609.out) hb); clear hb))
          go_ret
          exact ⟨ts26_, ts25_ HB.out GE601.out GE609.out⟩
         rw [if_neg c33] at H
         exact absurd H (by simp)
        rw [if_neg c32] at H
        exact absurd H (by simp)
       rw [if_neg c30] at H
       exact absurd H (by simp)
      rw [if_neg c29] at H
      exact absurd H (by simp)
     rw [if_neg c28] at H
     exact absurd H (by simp)
    rw [if_neg c27] at H
    have c27b0 : (a0_0 == 5) = false := beq_eq_false_iff_ne.mpr c27
    have c27b1 : (a0_0 != 5) = true := bne_iff_ne.mpr c27
    have HC46 := Aside0.mk H
    clear H
    go_enter Tryd.func54, Tryd.ntmps54
    try go_wp2_with (first | ((with_reducible refine gate_dst (N := 1) rfl ?_); refine box_event ?hg (N := 1) ?hd (cs := #[.int .i64 a0_0, .int .i64 a0_1, .int .i64 a0_2, .int .i64 a0_3, .int .i64 a0_4]) (t := 26) ?hr ?_; (case hd => rfl); (case hg => rfl); (case hr => exact ts15_); intro gb601 hg w47 hbox hb; have BK601 := Aside0.mk (hbox); have GW601 := Aside0.mk ((ts45_ HB.out : w.heap.size ≤ gb601)); have GE601 := Aside0.mk ((ts45_ HB.out : w.heap.size ≤ gb601)); replace HB := Aside0.mk (below_step (ts34_ HB.out) hb); clear hb hbox hg; have hcz48_0 : w47.cell? ⟨gb601, 0, none⟩ = some (.int .i64 a0_0) := (blk_cell BK601.out 0).trans rfl; have hcz48_1 : w47.cell? ⟨gb601, 1, none⟩ = some (.int .i64 a0_1) := (blk_cell BK601.out 1).trans rfl; have hcz48_2 : w47.cell? ⟨gb601, 2, none⟩ = some (.int .i64 a0_2) := (blk_cell BK601.out 2).trans rfl; have hcz48_3 : w47.cell? ⟨gb601, 3, none⟩ = some (.int .i64 a0_3) := (blk_cell BK601.out 3).trans rfl; have hcz48_4 : w47.cell? ⟨gb601, 4, none⟩ = some (.int .i64 a0_4) := (blk_cell BK601.out 4).trans rfl; have hfz48_0 := blk_frozen BK601.out 0; have hfz48_1 := blk_frozen BK601.out 1; have hfz48_2 := blk_frozen BK601.out 2; have hfz48_3 := blk_frozen BK601.out 3; have hfz48_4 := blk_frozen BK601.out 4) | ((with_reducible refine gate_callee (f := 27) rfl ?_); refine goesL_ (some 11) rfl rfl Tryd.func27 (by kernel_rfl) rfl #[.int .i64 a0_0] rfl ts8_ ?_; (with_reducible refine (cupelref20_find.calls a0_0 t602 t603 t604 t605 t606 t607 t608 _ A2.out).mono ?_); rintro e w49 ⟨rfl, hb⟩; refine ⟨_, rfl, ?_⟩; replace BK601 := Aside0.mk (blk_below (g := gb601) (o := .cells #[.int .i64 a0_0, .int .i64 a0_1, .int .i64 a0_2, .int .i64 a0_3, .int .i64 a0_4] 26 (0, 0)) (ts14_ BK601.out) hb); replace HB := Aside0.mk (below_step (ts17_ HB.out GE601.out) hb); clear hb) | ((with_reducible refine gate_dst (N := 3) rfl ?_); refine box_event ?hg (N := 3) ?hd (cs := #[.int .i64 0, .string (⟨#[]⟩ : ByteArray), .bool false, .bool false, .bool false, .int .i64 0]) (t := 56) ?hr ?_; (case hd => rfl); (case hg => rfl); (case hr => exact ts15_); intro gb609 hg w50 hbox hb; have BK609 := Aside0.mk (hbox); have GW609 := Aside0.mk ((ts38_ HB.out GE601.out : w.heap.size ≤ gb609)); have GE609 := Aside0.mk ((ts38_ HB.out GE601.out : w.heap.size ≤ gb609)); replace HB := Aside0.mk (below_step (ts17_ HB.out GE601.out) hb); have NB601_609 := Aside0.mk ((ts49_ BK601.out : gb601 ≠ gb609)); have NB609_601 := Aside0.mk ((ts47_ BK601.out : gb609 ≠ gb601)); replace BK601 := Aside0.mk (blk_below (g := gb601) (o := .cells #[.int .i64 a0_0, .int .i64 a0_1, .int .i64 a0_2, .int .i64 a0_3, .int .i64 a0_4] 26 (0, 0)) (ts14_ BK601.out) hb); clear hb hbox hg; have hnb51 := NB609_601.out; have hnc51 := NB601_609.out; have hcz52_0 : w50.cell? ⟨gb609, 0, none⟩ = some (.int .i64 0) := (blk_cell BK609.out 0).trans rfl; have hcz52_1 : w50.cell? ⟨gb609, 1, none⟩ = some (.string (⟨#[]⟩ : ByteArray)) := (blk_cell BK609.out 1).trans rfl; have hcz52_2 : w50.cell? ⟨gb609, 2, none⟩ = some (.bool false) := (blk_cell BK609.out 2).trans rfl; have hcz52_3 : w50.cell? ⟨gb609, 3, none⟩ = some (.bool false) := (blk_cell BK609.out 3).trans rfl; have hcz52_4 : w50.cell? ⟨gb609, 4, none⟩ = some (.bool false) := (blk_cell BK609.out 4).trans rfl; have hcz52_5 : w50.cell? ⟨gb609, 5, none⟩ = some (.int .i64 0) := (blk_cell BK609.out 5).trans rfl; have hfz52_0 := blk_frozen BK609.out 0; have hfz52_1 := blk_frozen BK609.out 1; have hfz52_2 := blk_frozen BK609.out 2; have hfz52_3 := blk_frozen BK609.out 3; have hfz52_4 := blk_frozen BK609.out 4; have hfz52_5 := blk_frozen BK609.out 5))
    have n0_ : Aside0 (((((((w50.setCell ⟨gb609, 0, none⟩ (.int .i64 t602)).setCell ⟨gb609, 1, none⟩ (.string t603)).setCell ⟨gb609, 2, none⟩ (.bool t604)).setCell ⟨gb609, 3, none⟩ (.bool t605)).setCell ⟨gb609, 4, none⟩ (.bool t606)).setCell ⟨gb609, 5, none⟩ (.int .i64 t607)).heap[gb601]? = some (.cells #[.int .i64 a0_0, .int .i64 a0_1, .int .i64 a0_2, .int .i64 a0_3, .int .i64 a0_4] 26 (0, 0))) := ⟨ts18_ NB601_609.out BK601.out⟩
    have n1_ : Aside0 (((((((w50.setCell ⟨gb609, 0, none⟩ (.int .i64 t602)).setCell ⟨gb609, 1, none⟩ (.string t603)).setCell ⟨gb609, 2, none⟩ (.bool t604)).setCell ⟨gb609, 3, none⟩ (.bool t605)).setCell ⟨gb609, 4, none⟩ (.bool t606)).setCell ⟨gb609, 5, none⟩ (.int .i64 t607)).heap[gb609]? = some (.cells #[.int .i64 t602, .string t603, .bool t604, .bool t605, .bool t606, .int .i64 t607] 56 (0, 0))) := ⟨ts12_ BK609.out⟩
    have n2_ : Aside0 (Below w.heap.size w ((((((w50.setCell ⟨gb609, 0, none⟩ (.int .i64 t602)).setCell ⟨gb609, 1, none⟩ (.string t603)).setCell ⟨gb609, 2, none⟩ (.bool t604)).setCell ⟨gb609, 3, none⟩ (.bool t605)).setCell ⟨gb609, 4, none⟩ (.bool t606)).setCell ⟨gb609, 5, none⟩ (.int .i64 t607))) := ⟨ts25_ HB.out GE601.out GE609.out⟩
    (try clear BK601)
    (try clear BK609)
    (try clear HB)
    generalize ((((((w50.setCell ⟨gb609, 0, none⟩ (.int .i64 t602)).setCell ⟨gb609, 1, none⟩ (.string t603)).setCell ⟨gb609, 2, none⟩ (.bool t604)).setCell ⟨gb609, 3, none⟩ (.bool t605)).setCell ⟨gb609, 4, none⟩ (.bool t606)).setCell ⟨gb609, 5, none⟩ (.int .i64 t607)) = w53 at n0_ n1_ n2_ ⊢
    have BK601 := n0_
    have BK609 := n1_
    have HB := n2_
    clear n0_ n1_ n2_
    have n0_ := Aside0.mk (blk_drew BK601.out)
    have n1_ := Aside0.mk (blk_drew BK609.out)
    have n2_ := Aside0.mk (below_drew1 HB.out)
    clear BK601
    clear BK609
    clear HB
    have BK601 := n0_
    have BK609 := n1_
    have HB := n2_
    clear n0_ n1_ n2_
    refine start_ (n := 10) (S := fun w' => w'.cell? ⟨gb601, 0, none⟩ = some (.int .i64 a0_0) ∧ w'.cell? ⟨gb601, 1, none⟩ = some (.int .i64 a0_1) ∧ w'.cell? ⟨gb601, 2, none⟩ = some (.int .i64 a0_2) ∧ w'.cell? ⟨gb601, 3, none⟩ = some (.int .i64 a0_3) ∧ w'.cell? ⟨gb601, 4, none⟩ = some (.int .i64 a0_4)) (ds := []) #[false, false, false, false, false, false, false, false, false, false] (by kernel_rfl) rfl rfl ⟨(blk_cell BK601.out 0).trans rfl, (blk_cell BK601.out 1).trans rfl, (blk_cell BK601.out 2).trans rfl, (blk_cell BK601.out 3).trans rfl, (blk_cell BK601.out 4).trans rfl⟩ (fun hHeld => ?_); refine with_tabW cupelref20_Line.tab3 cupelref20_Line.bits3 (fun HT_ HW_ => ?_)
    generalize w53.drew = w54 at BK601 BK609 HB hHeld ⊢
    refine pure_ (i := 0) (N := some 16) (v := ?_) (a' := ?_) #[true, false, false, false, false, false, false, false, false, false] rfl rfl (any_of HT_.out (by kernel_rfl)) (fun _ _ _ h => h) (Or.inl ⟨by rfl, ?_⟩) ?_ ?_
    rotate_left
    ·intro w'
     go_simp
     with_reducible rfl
    rotate_left
    ·simp only [Act.put, List.setIfInBounds_toArray, List.set_cons_zero, List.set_cons_succ, i64_w, i32_w]
     rfl
    refine pure_ (i := 4) (N := some 20) (v := ?_) (a' := ?_) #[true, false, false, false, true, false, false, false, false, false] rfl rfl (any_of HT_.out (by kernel_rfl)) (fun _ _ _ h => h) (Or.inl ⟨by rfl, ?_⟩) ?_ ?_
    rotate_left
    ·intro w'
     go_simp
     with_reducible rfl
    rotate_left
    ·simp only [Act.put, List.setIfInBounds_toArray, List.set_cons_zero, List.set_cons_succ, i64_w, i32_w]
     rfl
    refine take_ (i := 1) (N := some 17) (v := ?_) (a' := ?_) #[true, true, false, false, true, false, false, false, false, false] rfl rfl (take_ofW HT_.out HW_.out (by kernel_rfl)) (fun _ _ _ h => h) (Or.inl ⟨by rfl, ?_⟩) hHeld ?_ ?_
    rotate_left
    ·rintro w' ⟨s0, s1, s2, s3, s4⟩
     go_simp
     with_reducible rfl
    rotate_left
    ·simp only [Act.put, List.setIfInBounds_toArray, List.set_cons_zero, List.set_cons_succ, i64_w, i32_w]
     rfl
    refine take_ (i := 5) (N := some 21) (v := ?_) (a' := ?_) #[true, true, false, false, true, true, false, false, false, false] rfl rfl (take_ofW HT_.out HW_.out (by kernel_rfl)) (fun _ _ _ h => h) (Or.inl ⟨by rfl, ?_⟩) hHeld ?_ ?_
    rotate_left
    ·rintro w' ⟨s0, s1, s2, s3, s4⟩
     go_simp
     with_reducible rfl
    rotate_left
    ·simp only [Act.put, List.setIfInBounds_toArray, List.set_cons_zero, List.set_cons_succ, i64_w, i32_w]
     rfl
    refine one_ (i := 2) (N := some 18) #[true, true, true, false, true, true, false, false, false, false] rfl rfl (one_of HT_.out (by kernel_rfl)) (by decide) (fun K hK => ?_)
    refine goes_ Tryd.func53 (by kernel_rfl) rfl #[.int .i64 a0_4] (by rfl) rfl rfl ts8_ ?_
    with_reducible refine (cupelref20_number.calls k a0_4 t610 _ A3.out).mono ?_
    rintro e w55 ⟨rfl, hb⟩
    refine ⟨_, rfl, ?_⟩
    have n0_ := Aside0.mk (blk_below (g := gb601) (o := .cells #[.int .i64 a0_0, .int .i64 a0_1, .int .i64 a0_2, .int .i64 a0_3, .int .i64 a0_4] 26 (0, 0)) (ts14_ BK601.out) hb)
    have n1_ := Aside0.mk (blk_below (g := gb609) (o := .cells #[.int .i64 t602, .string t603, .bool t604, .bool t605, .bool t606, .int .i64 t607] 56 (0, 0)) (ts14_ BK609.out) hb)
    have n2_ := Aside0.mk (below_step (ts25_ HB.out GE601.out GE609.out) hb)
    clear BK601
    clear BK609
    clear HB
    have BK601 := n0_
    have BK609 := n1_
    have HB := n2_
    clear n0_ n1_ n2_
    (try clear hb)
    (try clear hb2)
    (try clear hk)
    (try clear hi)
    refine hK.out _ _ ⟨(blk_cell BK601.out 0).trans rfl, (blk_cell BK601.out 1).trans rfl, (blk_cell BK601.out 2).trans rfl, (blk_cell BK601.out 3).trans rfl, (blk_cell BK601.out 4).trans rfl⟩ (fun hHeld => ?_)
    clear hK K
    refine norm_ (a' := ?_) ?_ ?_
    rotate_left
    ·show Act.put _ (some 18) _ = _
     simp only [Act.put, List.setIfInBounds_toArray, List.set_cons_zero, List.set_cons_succ, i64_w, i32_w]
     rfl
    refine pure_ (i := 3) (N := some 19) (v := ?_) (a' := ?_) #[true, true, true, true, true, true, false, false, false, false] rfl rfl (any_of HT_.out (by kernel_rfl)) (fun _ _ _ h => h) (Or.inl ⟨by rfl, ?_⟩) ?_ ?_
    rotate_left
    ·intro w'
     go_simp
     with_reducible rfl
    rotate_left
    ·simp only [Act.put, List.setIfInBounds_toArray, List.set_cons_zero, List.set_cons_succ, i64_w, i32_w]
     rfl
    refine one_ (i := 6) (N := some 22) #[true, true, true, true, true, true, true, false, false, false] rfl rfl (one_of HT_.out (by kernel_rfl)) (by decide) (fun K hK => ?_)
    refine goes_ Tryd.func53 (by kernel_rfl) rfl #[.int .i64 a0_2] (by rfl) rfl rfl ts8_ ?_
    with_reducible refine (cupelref20_number.calls k a0_2 t611 _ A5.out).mono ?_
    rintro e w56 ⟨rfl, hb⟩
    refine ⟨_, rfl, ?_⟩
    have n0_ := Aside0.mk (blk_below (g := gb601) (o := .cells #[.int .i64 a0_0, .int .i64 a0_1, .int .i64 a0_2, .int .i64 a0_3, .int .i64 a0_4] 26 (0, 0)) (ts14_ BK601.out) hb)
    have n1_ := Aside0.mk (blk_below (g := gb609) (o := .cells #[.int .i64 t602, .string t603, .bool t604, .bool t605, .bool t606, .int .i64 t607] 56 (0, 0)) (ts14_ BK609.out) hb)
    have n2_ := Aside0.mk (below_step (ts25_ HB.out GE601.out GE609.out) hb)
    clear BK601
    clear BK609
    clear HB
    have BK601 := n0_
    have BK609 := n1_
    have HB := n2_
    clear n0_ n1_ n2_
    (try clear hb)
    (try clear hb2)
    (try clear hk)
    (try clear hi)
    refine hK.out _ _ ⟨(blk_cell BK601.out 0).trans rfl, (blk_cell BK601.out 1).trans rfl, (blk_cell BK601.out 2).trans rfl, (blk_cell BK601.out 3).trans rfl, (blk_cell BK601.out 4).trans rfl⟩ (fun hHeld => ?_)
    clear hK K
    refine norm_ (a' := ?_) ?_ ?_
    rotate_left
    ·show Act.put _ (some 22) _ = _
     simp only [Act.put, List.setIfInBounds_toArray, List.set_cons_zero, List.set_cons_succ, i64_w, i32_w]
     rfl
    refine pure_ (i := 7) (N := some 23) (v := ?_) (a' := ?_) #[true, true, true, true, true, true, true, true, false, false] rfl rfl (any_of HT_.out (by kernel_rfl)) (fun _ _ _ h => h) (Or.inl ⟨by rfl, ?_⟩) ?_ ?_
    rotate_left
    ·intro w'
     go_simp
     with_reducible rfl
    rotate_left
    ·simp only [Act.put, List.setIfInBounds_toArray, List.set_cons_zero, List.set_cons_succ, i64_w, i32_w]
     rfl
    refine pure_ (i := 8) (N := some 24) (v := ?_) (a' := ?_) #[true, true, true, true, true, true, true, true, true, false] rfl rfl (any_of HT_.out (by kernel_rfl)) (fun _ _ _ h => h) (Or.inl ⟨by rfl, ?_⟩) ?_ ?_
    rotate_left
    ·intro w'
     go_simp
     with_reducible rfl
    rotate_left
    ·simp only [Act.put, List.setIfInBounds_toArray, List.set_cons_zero, List.set_cons_succ, i64_w, i32_w]
     rfl
    refine pure_ (i := 9) (N := some 6) (v := ?_) (a' := ?_) #[true, true, true, true, true, true, true, true, true, true] rfl rfl (any_of HT_.out (by kernel_rfl)) (fun _ _ _ h => h) (Or.inl ⟨by rfl, ?_⟩) ?_ ?_
    rotate_left
    ·intro w'
     go_simp
     with_reducible rfl
    rotate_left
    ·simp only [Act.put, List.setIfInBounds_toArray, List.set_cons_zero, List.set_cons_succ, i64_w, i32_w]
     rfl
    refine done_ (done_of HT_.out (by kernel_rfl)) ?_
    have hcz57_0 : w56.cell? ⟨gb601, 0, none⟩ = some (.int .i64 a0_0) := (blk_cell BK601.out 0).trans rfl
    have hcz57_1 : w56.cell? ⟨gb601, 1, none⟩ = some (.int .i64 a0_1) := (blk_cell BK601.out 1).trans rfl
    have hcz57_2 : w56.cell? ⟨gb601, 2, none⟩ = some (.int .i64 a0_2) := (blk_cell BK601.out 2).trans rfl
    have hcz57_3 : w56.cell? ⟨gb601, 3, none⟩ = some (.int .i64 a0_3) := (blk_cell BK601.out 3).trans rfl
    have hcz57_4 : w56.cell? ⟨gb601, 4, none⟩ = some (.int .i64 a0_4) := (blk_cell BK601.out 4).trans rfl
    have hfz57_0 := blk_frozen BK601.out 0
    have hfz57_1 := blk_frozen BK601.out 1
    have hfz57_2 := blk_frozen BK601.out 2
    have hfz57_3 := blk_frozen BK601.out 3
    have hfz57_4 := blk_frozen BK601.out 4
    have hcz58_0 : w56.cell? ⟨gb609, 0, none⟩ = some (.int .i64 t602) := (blk_cell BK609.out 0).trans rfl
    have hcz58_1 : w56.cell? ⟨gb609, 1, none⟩ = some (.string t603) := (blk_cell BK609.out 1).trans rfl
    have hcz58_2 : w56.cell? ⟨gb609, 2, none⟩ = some (.bool t604) := (blk_cell BK609.out 2).trans rfl
    have hcz58_3 : w56.cell? ⟨gb609, 3, none⟩ = some (.bool t605) := (blk_cell BK609.out 3).trans rfl
    have hcz58_4 : w56.cell? ⟨gb609, 4, none⟩ = some (.bool t606) := (blk_cell BK609.out 4).trans rfl
    have hcz58_5 : w56.cell? ⟨gb609, 5, none⟩ = some (.int .i64 t607) := (blk_cell BK609.out 5).trans rfl
    have hfz58_0 := blk_frozen BK609.out 0
    have hfz58_1 := blk_frozen BK609.out 1
    have hfz58_2 := blk_frozen BK609.out 2
    have hfz58_3 := blk_frozen BK609.out 3
    have hfz58_4 := blk_frozen BK609.out 4
    have hfz58_5 := blk_frozen BK609.out 5
    go_upto_if 52 with (fail)
    go_cut [5, 7] (fun v5 v7 wc => ∃ (kq : Nat) (x5_45 : ByteArray) (x7_45 : ByteArray), v5 = .string x5_45 ∧ v7 = .string x7_45 ∧ Aside0 (cupelref20_Line.j0 kq x5_45 x7_45 a0_0 a0_1 a0_2 a0_3 a0_4 t602 t603 t604 t605 t606 t607 = some r) ∧ Aside0 (kq ≤ k) ∧ Aside0 (wc.heap[gb601]? = some (.cells #[.int .i64 a0_0, .int .i64 a0_1, .int .i64 a0_2, .int .i64 a0_3, .int .i64 a0_4] 26 (0, 0))) ∧ Aside0 (wc.heap[gb609]? = some (.cells #[.int .i64 t602, .string t603, .bool t604, .bool t605, .bool t606, .int .i64 t607] 56 (0, 0))) ∧ Aside0 (Below w.heap.size w wc))
    case first =>
     have H := HC46.out
     clear HC46
     by_cases c59 : t604 = true
     ·subst c59
      rw [if_pos rfl] at H
      by_cases c60 : t603.size + 1 ≤ 9223372036854775807
      ·rw [if_pos c60] at H
       have c60b0 := eq_true c60
       have c60b1 : decide (t603.size + 1 ≤ 9223372036854775807) = true := decide_eq_true c60
       try have c60b2 : (9223372036854775807 < t603.size + 1) = False := eq_false (Nat.not_lt.2 c60)
       have c60b3 := c60b2
       try simp only [ByteArray.size_append, bsz1, bsz2, bsz3, bsz5, bsz6] at c60b3
       by_cases c61 : (t603 ++ (⟨#[32]⟩ : ByteArray)).size + 1 ≤ 9223372036854775807
       ·rw [if_pos c61] at H
        have c61b0 := eq_true c61
        have c61b1 : decide ((t603 ++ (⟨#[32]⟩ : ByteArray)).size + 1 ≤ 9223372036854775807) = true := decide_eq_true c61
        try have c61b2 : (9223372036854775807 < (t603 ++ (⟨#[32]⟩ : ByteArray)).size + 1) = False := eq_false (Nat.not_lt.2 c61)
        have c61b3 := c61b2
        try simp only [ByteArray.size_append, bsz1, bsz2, bsz3, bsz5, bsz6] at c61b3
        obtain ⟨t614, A62, H⟩ := bsA_ H
        try dsimp only at H
        by_cases c63 : ((t603 ++ (⟨#[32]⟩ : ByteArray)) ++ (⟨#[114]⟩ : ByteArray)).size + t614.size ≤ 9223372036854775807
        ·rw [if_pos c63] at H
         have c63b0 := eq_true c63
         have c63b1 : decide (((t603 ++ (⟨#[32]⟩ : ByteArray)) ++ (⟨#[114]⟩ : ByteArray)).size + t614.size ≤ 9223372036854775807) = true := decide_eq_true c63
         try have c63b2 : (9223372036854775807 < ((t603 ++ (⟨#[32]⟩ : ByteArray)) ++ (⟨#[114]⟩ : ByteArray)).size + t614.size) = False := eq_false (Nat.not_lt.2 c63)
         have c63b3 := c63b2
         try simp only [ByteArray.size_append, bsz1, bsz2, bsz3, bsz5, bsz6] at c63b3
         have H' := Aside0.mk H
         clear H
         have hnb64 := NB601_609.out
         have hnc64 := NB609_601.out
         have hcz65_0 : w56.cell? ⟨gb601, 0, none⟩ = some (.int .i64 a0_0) := (blk_cell BK601.out 0).trans rfl
         have hcz65_1 : w56.cell? ⟨gb601, 1, none⟩ = some (.int .i64 a0_1) := (blk_cell BK601.out 1).trans rfl
         have hcz65_2 : w56.cell? ⟨gb601, 2, none⟩ = some (.int .i64 a0_2) := (blk_cell BK601.out 2).trans rfl
         have hcz65_3 : w56.cell? ⟨gb601, 3, none⟩ = some (.int .i64 a0_3) := (blk_cell BK601.out 3).trans rfl
         have hcz65_4 : w56.cell? ⟨gb601, 4, none⟩ = some (.int .i64 a0_4) := (blk_cell BK601.out 4).trans rfl
         have hfz65_0 := blk_frozen BK601.out 0
         have hfz65_1 := blk_frozen BK601.out 1
         have hfz65_2 := blk_frozen BK601.out 2
         have hfz65_3 := blk_frozen BK601.out 3
         have hfz65_4 := blk_frozen BK601.out 4
         go_wp2_with (first | ((with_reducible refine gate_callee (f := 53) rfl ?_); refine goesL_ (some 59) rfl rfl Tryd.func53 (by kernel_rfl) rfl #[.int .i64 a0_1] rfl ts8_ ?_; (with_reducible refine (cupelref20_number.calls k a0_1 t614 _ A62.out).mono ?_); rintro e w66 ⟨rfl, hb⟩; refine ⟨_, rfl, ?_⟩; replace BK601 := Aside0.mk (blk_below (g := gb601) (o := .cells #[.int .i64 a0_0, .int .i64 a0_1, .int .i64 a0_2, .int .i64 a0_3, .int .i64 a0_4] 26 (0, 0)) (ts14_ BK601.out) hb); replace BK609 := Aside0.mk (blk_below (g := gb609) (o := .cells #[.int .i64 t602, .string t603, .bool true, .bool t605, .bool t606, .int .i64 t607] 56 (0, 0)) (ts14_ BK609.out) hb); replace HB := Aside0.mk (below_step (ts25_ HB.out GE601.out GE609.out) hb); clear hb))
         go_meet
         case rel => exact ⟨_, (((t603 ++ (⟨#[32]⟩ : ByteArray)) ++ (⟨#[114]⟩ : ByteArray)) ++ t614), ((⟨#[44, 32]⟩ : ByteArray)), ts32_, ts32_, H', ⟨ts3_⟩, ⟨ts14_ BK601.out⟩, ⟨ts14_ BK609.out⟩, ⟨ts25_ HB.out GE601.out GE609.out⟩⟩
        rw [if_neg c63] at H
        exact absurd H (by simp)
       rw [if_neg c61] at H
       exact absurd H (by simp)
      rw [if_neg c60] at H
      exact absurd H (by simp)
     replace c59 := Bool.eq_false_iff.mpr c59
     subst c59
     rw [if_neg Bool.false_ne_true] at H
     have H' := Aside0.mk H
     clear H
     go_wp2
     go_meet
     case rel => exact ⟨_, (t603), ((⟨#[32]⟩ : ByteArray)), ts32_, ts32_, H', ⟨ts3_⟩, ⟨ts14_ BK601.out⟩, ⟨ts14_ BK609.out⟩, ⟨ts25_ HB.out GE601.out GE609.out⟩⟩
    case rest =>
     clear HC46
     try clear c1
     try clear c2
     try clear p2
     try clear c3
     try clear c5
     try clear c6
     try clear c8
     try clear c8b0
     try clear c8b1
     try clear c9
     try clear c11
     try clear c12
     try clear c13
     try clear c14
     try clear c27
     try clear c27b0
     try clear c27b1
     try clear c28
     try clear c28b0
     try clear c28b1
     try clear c28b2
     try clear c29
     try clear c29b0
     try clear c29b1
     try clear c29b2
     try clear c30
     try clear c30b0
     try clear c30b1
     try clear c30b2
     try clear c32
     try clear c32b0
     try clear c32b1
     try clear c32b2
     try clear c33
     try clear c33b0
     try clear c33b1
     try clear c33b2
     try clear c38
     try clear c51
     try clear c53
     try clear c54
     try clear c59
     try clear c60
     try clear c60b0
     try clear c60b1
     try clear c60b2
     try clear c61
     try clear c61b0
     try clear c61b1
     try clear c61b2
     try clear c63
     try clear c63b0
     try clear c63b1
     try clear c63b2
     try clear c64
     try clear hcz25_0
     try clear hcz25_1
     try clear hcz25_2
     try clear hcz25_3
     try clear hcz25_4
     try clear hcz35_0
     try clear hcz35_1
     try clear hcz35_2
     try clear hcz35_3
     try clear hcz35_4
     try clear hcz39_0
     try clear hcz39_1
     try clear hcz39_2
     try clear hcz39_3
     try clear hcz39_4
     try clear hcz39_5
     try clear hcz44_0
     try clear hcz44_1
     try clear hcz44_2
     try clear hcz44_3
     try clear hcz44_4
     try clear hcz48_0
     try clear hcz48_1
     try clear hcz48_2
     try clear hcz48_3
     try clear hcz48_4
     try clear hcz52_0
     try clear hcz52_1
     try clear hcz52_2
     try clear hcz52_3
     try clear hcz52_4
     try clear hcz52_5
     try clear hcz57_0
     try clear hcz57_1
     try clear hcz57_2
     try clear hcz57_3
     try clear hcz57_4
     try clear hcz58_0
     try clear hcz58_1
     try clear hcz58_2
     try clear hcz58_3
     try clear hcz58_4
     try clear hcz58_5
     try clear hcz65_0
     try clear hcz65_1
     try clear hcz65_2
     try clear hcz65_3
     try clear hcz65_4
     try clear hfz25_0
     try clear hfz25_1
     try clear hfz25_2
     try clear hfz25_3
     try clear hfz25_4
     try clear hfz35_0
     try clear hfz35_1
     try clear hfz35_2
     try clear hfz35_3
     try clear hfz35_4
     try clear hfz39_0
     try clear hfz39_1
     try clear hfz39_2
     try clear hfz39_3
     try clear hfz39_4
     try clear hfz39_5
     try clear hfz44_0
     try clear hfz44_1
     try clear hfz44_2
     try clear hfz44_3
     try clear hfz44_4
     try clear hfz48_0
     try clear hfz48_1
     try clear hfz48_2
     try clear hfz48_3
     try clear hfz48_4
     try clear hfz52_0
     try clear hfz52_1
     try clear hfz52_2
     try clear hfz52_3
     try clear hfz52_4
     try clear hfz52_5
     try clear hfz57_0
     try clear hfz57_1
     try clear hfz57_2
     try clear hfz57_3
     try clear hfz57_4
     try clear hfz58_0
     try clear hfz58_1
     try clear hfz58_2
     try clear hfz58_3
     try clear hfz58_4
     try clear hfz58_5
     try clear hfz65_0
     try clear hfz65_1
     try clear hfz65_2
     try clear hfz65_3
     try clear hfz65_4
     obtain ⟨kq, x5_45, x7_45, rfl, rfl, HA, HJ45, BK601, BK609, HB⟩ := hcut
     cases kq with
     | zero => exact absurd HA.out (by simp [cupelref20_Line.j0])
     | succ kj45 =>
      have H := HA.out
      clear HA
      simp only [cupelref20_Line.j0] at H
      have HC67 := Aside0.mk H
      clear H
      have hnb68 := NB609_601.out
      have hnc68 := NB601_609.out
      have hcz69_0 : wc.cell? ⟨gb609, 0, none⟩ = some (.int .i64 t602) := (blk_cell BK609.out 0).trans rfl
      have hcz69_1 : wc.cell? ⟨gb609, 1, none⟩ = some (.string t603) := (blk_cell BK609.out 1).trans rfl
      have hcz69_2 : wc.cell? ⟨gb609, 2, none⟩ = some (.bool t604) := (blk_cell BK609.out 2).trans rfl
      have hcz69_3 : wc.cell? ⟨gb609, 3, none⟩ = some (.bool t605) := (blk_cell BK609.out 3).trans rfl
      have hcz69_4 : wc.cell? ⟨gb609, 4, none⟩ = some (.bool t606) := (blk_cell BK609.out 4).trans rfl
      have hcz69_5 : wc.cell? ⟨gb609, 5, none⟩ = some (.int .i64 t607) := (blk_cell BK609.out 5).trans rfl
      have hfz69_0 := blk_frozen BK609.out 0
      have hfz69_1 := blk_frozen BK609.out 1
      have hfz69_2 := blk_frozen BK609.out 2
      have hfz69_3 := blk_frozen BK609.out 3
      have hfz69_4 := blk_frozen BK609.out 4
      have hfz69_5 := blk_frozen BK609.out 5
      go_upto_if 62 with (fail)
      go_cut [5, 7] (fun v5 v7 wc => ∃ (kq : Nat) (x5_66 : ByteArray) (x7_66 : ByteArray), v5 = .string x5_66 ∧ v7 = .string x7_66 ∧ Aside0 (cupelref20_Line.j1 kq x5_66 x7_66 a0_0 a0_1 a0_2 a0_3 a0_4 t602 t603 t604 t605 t606 t607 = some r) ∧ Aside0 (kq ≤ kj45) ∧ Aside0 (wc.heap[gb601]? = some (.cells #[.int .i64 a0_0, .int .i64 a0_1, .int .i64 a0_2, .int .i64 a0_3, .int .i64 a0_4] 26 (0, 0))) ∧ Aside0 (wc.heap[gb609]? = some (.cells #[.int .i64 t602, .string t603, .bool t604, .bool t605, .bool t606, .int .i64 t607] 56 (0, 0))) ∧ Aside0 (Below w.heap.size w wc))
      case first =>
       have H := HC67.out
       clear HC67
       by_cases c70 : t605 = true
       ·subst c70
        rw [if_pos rfl] at H
        by_cases c71 : x5_45.size + x7_45.size ≤ 9223372036854775807
        ·rw [if_pos c71] at H
         have c71b0 := eq_true c71
         have c71b1 : decide (x5_45.size + x7_45.size ≤ 9223372036854775807) = true := decide_eq_true c71
         try have c71b2 : (9223372036854775807 < x5_45.size + x7_45.size) = False := eq_false (Nat.not_lt.2 c71)
         have c71b3 := c71b2
         try simp only [ByteArray.size_append, bsz1, bsz2, bsz3, bsz5, bsz6] at c71b3
         by_cases c72 : (x5_45 ++ x7_45).size + 1 ≤ 9223372036854775807
         ·rw [if_pos c72] at H
          have c72b0 := eq_true c72
          have c72b1 : decide ((x5_45 ++ x7_45).size + 1 ≤ 9223372036854775807) = true := decide_eq_true c72
          try have c72b2 : (9223372036854775807 < (x5_45 ++ x7_45).size + 1) = False := eq_false (Nat.not_lt.2 c72)
          have c72b3 := c72b2
          try simp only [ByteArray.size_append, bsz1, bsz2, bsz3, bsz5, bsz6] at c72b3
          obtain ⟨t615, A73, H⟩ := bsA_ H
          try dsimp only at H
          by_cases c74 : ((x5_45 ++ x7_45) ++ (⟨#[114]⟩ : ByteArray)).size + t615.size ≤ 9223372036854775807
          ·rw [if_pos c74] at H
           have c74b0 := eq_true c74
           have c74b1 : decide (((x5_45 ++ x7_45) ++ (⟨#[114]⟩ : ByteArray)).size + t615.size ≤ 9223372036854775807) = true := decide_eq_true c74
           try have c74b2 : (9223372036854775807 < ((x5_45 ++ x7_45) ++ (⟨#[114]⟩ : ByteArray)).size + t615.size) = False := eq_false (Nat.not_lt.2 c74)
           have c74b3 := c74b2
           try simp only [ByteArray.size_append, bsz1, bsz2, bsz3, bsz5, bsz6] at c74b3
           have H' := Aside0.mk H
           clear H
           have hnb75 := NB601_609.out
           have hnc75 := NB609_601.out
           have hcz76_0 : wc.cell? ⟨gb601, 0, none⟩ = some (.int .i64 a0_0) := (blk_cell BK601.out 0).trans rfl
           have hcz76_1 : wc.cell? ⟨gb601, 1, none⟩ = some (.int .i64 a0_1) := (blk_cell BK601.out 1).trans rfl
           have hcz76_2 : wc.cell? ⟨gb601, 2, none⟩ = some (.int .i64 a0_2) := (blk_cell BK601.out 2).trans rfl
           have hcz76_3 : wc.cell? ⟨gb601, 3, none⟩ = some (.int .i64 a0_3) := (blk_cell BK601.out 3).trans rfl
           have hcz76_4 : wc.cell? ⟨gb601, 4, none⟩ = some (.int .i64 a0_4) := (blk_cell BK601.out 4).trans rfl
           have hfz76_0 := blk_frozen BK601.out 0
           have hfz76_1 := blk_frozen BK601.out 1
           have hfz76_2 := blk_frozen BK601.out 2
           have hfz76_3 := blk_frozen BK601.out 3
           have hfz76_4 := blk_frozen BK601.out 4
           go_wp2_with (first | ((with_reducible refine gate_callee (f := 53) rfl ?_); refine goesL_ (some 69) rfl rfl Tryd.func53 (by kernel_rfl) rfl #[.int .i64 a0_2] rfl ts8_ ?_; (with_reducible refine (cupelref20_number.calls kj45 a0_2 t615 _ A73.out).mono ?_); rintro e w77 ⟨rfl, hb⟩; refine ⟨_, rfl, ?_⟩; replace BK601 := Aside0.mk (blk_below (g := gb601) (o := .cells #[.int .i64 a0_0, .int .i64 a0_1, .int .i64 a0_2, .int .i64 a0_3, .int .i64 a0_4] 26 (0, 0)) (ts14_ BK601.out) hb); replace BK609 := Aside0.mk (blk_below (g := gb609) (o := .cells #[.int .i64 t602, .string t603, .bool t604, .bool true, .bool t606, .int .i64 t607] 56 (0, 0)) (ts14_ BK609.out) hb); replace HB := Aside0.mk (below_step (ts25_ HB.out GE601.out GE609.out) hb); clear hb))
           go_meet
           case rel => exact ⟨_, (((x5_45 ++ x7_45) ++ (⟨#[114]⟩ : ByteArray)) ++ t615), ((⟨#[44, 32]⟩ : ByteArray)), ts32_, ts32_, H', ⟨ts13_ HJ45.out⟩, ⟨ts14_ BK601.out⟩, ⟨ts14_ BK609.out⟩, ⟨ts25_ HB.out GE601.out GE609.out⟩⟩
          rw [if_neg c74] at H
          exact absurd H (by simp)
         rw [if_neg c72] at H
         exact absurd H (by simp)
        rw [if_neg c71] at H
        exact absurd H (by simp)
       replace c70 := Bool.eq_false_iff.mpr c70
       subst c70
       rw [if_neg Bool.false_ne_true] at H
       have H' := Aside0.mk H
       clear H
       go_wp2
       go_meet
       case rel => exact ⟨_, (x5_45), (x7_45), ts32_, ts32_, H', ⟨ts13_ HJ45.out⟩, ⟨ts14_ BK601.out⟩, ⟨ts14_ BK609.out⟩, ⟨ts25_ HB.out GE601.out GE609.out⟩⟩
      case rest =>
       clear HC67
       try clear c1
       try clear c2
       try clear p2
       try clear c3
       try clear c5
       try clear c6
       try clear c7
       try clear c8
       try clear c8b0
       try clear c8b1
       try clear c9
       try clear c11
       try clear c12
       try clear c13
       try clear c14
       try clear c27
       try clear c27b0
       try clear c27b1
       try clear c28
       try clear c28b0
       try clear c28b1
       try clear c28b2
       try clear c29
       try clear c29b0
       try clear c29b1
       try clear c29b2
       try clear c30
       try clear c30b0
       try clear c30b1
       try clear c30b2
       try clear c32
       try clear c32b0
       try clear c32b1
       try clear c32b2
       try clear c33
       try clear c33b0
       try clear c33b1
       try clear c33b2
       try clear c38
       try clear c51
       try clear c53
       try clear c54
       try clear c59
       try clear c60
       try clear c60b0
       try clear c60b1
       try clear c60b2
       try clear c61
       try clear c61b0
       try clear c61b1
       try clear c61b2
       try clear c63
       try clear c63b0
       try clear c63b1
       try clear c63b2
       try clear c64
       try clear c68
       try clear c70
       try clear c71
       try clear c71b0
       try clear c71b1
       try clear c71b2
       try clear c72
       try clear c72b0
       try clear c72b1
       try clear c72b2
       try clear c74
       try clear c74b0
       try clear c74b1
       try clear c74b2
       try clear c75
       try clear hcz25_0
       try clear hcz25_1
       try clear hcz25_2
       try clear hcz25_3
       try clear hcz25_4
       try clear hcz35_0
       try clear hcz35_1
       try clear hcz35_2
       try clear hcz35_3
       try clear hcz35_4
       try clear hcz39_0
       try clear hcz39_1
       try clear hcz39_2
       try clear hcz39_3
       try clear hcz39_4
       try clear hcz39_5
       try clear hcz44_0
       try clear hcz44_1
       try clear hcz44_2
       try clear hcz44_3
       try clear hcz44_4
       try clear hcz48_0
       try clear hcz48_1
       try clear hcz48_2
       try clear hcz48_3
       try clear hcz48_4
       try clear hcz52_0
       try clear hcz52_1
       try clear hcz52_2
       try clear hcz52_3
       try clear hcz52_4
       try clear hcz52_5
       try clear hcz57_0
       try clear hcz57_1
       try clear hcz57_2
       try clear hcz57_3
       try clear hcz57_4
       try clear hcz58_0
       try clear hcz58_1
       try clear hcz58_2
       try clear hcz58_3
       try clear hcz58_4
       try clear hcz58_5
       try clear hcz65_0
       try clear hcz65_1
       try clear hcz65_2
       try clear hcz65_3
       try clear hcz65_4
       try clear hcz69_0
       try clear hcz69_1
       try clear hcz69_2
       try clear hcz69_3
       try clear hcz69_4
       try clear hcz69_5
       try clear hcz76_0
       try clear hcz76_1
       try clear hcz76_2
       try clear hcz76_3
       try clear hcz76_4
       try clear hfz25_0
       try clear hfz25_1
       try clear hfz25_2
       try clear hfz25_3
       try clear hfz25_4
       try clear hfz35_0
       try clear hfz35_1
       try clear hfz35_2
       try clear hfz35_3
       try clear hfz35_4
       try clear hfz39_0
       try clear hfz39_1
       try clear hfz39_2
       try clear hfz39_3
       try clear hfz39_4
       try clear hfz39_5
       try clear hfz44_0
       try clear hfz44_1
       try clear hfz44_2
       try clear hfz44_3
       try clear hfz44_4
       try clear hfz48_0
       try clear hfz48_1
       try clear hfz48_2
       try clear hfz48_3
       try clear hfz48_4
       try clear hfz52_0
       try clear hfz52_1
       try clear hfz52_2
       try clear hfz52_3
       try clear hfz52_4
       try clear hfz52_5
       try clear hfz57_0
       try clear hfz57_1
       try clear hfz57_2
       try clear hfz57_3
       try clear hfz57_4
       try clear hfz58_0
       try clear hfz58_1
       try clear hfz58_2
       try clear hfz58_3
       try clear hfz58_4
       try clear hfz58_5
       try clear hfz65_0
       try clear hfz65_1
       try clear hfz65_2
       try clear hfz65_3
       try clear hfz65_4
       try clear hfz69_0
       try clear hfz69_1
       try clear hfz69_2
       try clear hfz69_3
       try clear hfz69_4
       try clear hfz69_5
       try clear hfz76_0
       try clear hfz76_1
       try clear hfz76_2
       try clear hfz76_3
       try clear hfz76_4
       try clear p2
       obtain ⟨kq, x5_66, x7_66, rfl, rfl, HA, HJ66, BK601, BK609, HB⟩ := hcut
       cases kq with
       | zero => exact absurd HA.out (by simp [cupelref20_Line.j1])
       | succ kj66 =>
        have H := HA.out
        clear HA
        simp only [cupelref20_Line.j1] at H
        by_cases c78 : t606 = true
        ·subst c78
         rw [if_pos rfl] at H
         by_cases c79 : x5_66.size + x7_66.size ≤ 9223372036854775807
         ·rw [if_pos c79] at H
          have c79b0 := eq_true c79
          have c79b1 : decide (x5_66.size + x7_66.size ≤ 9223372036854775807) = true := decide_eq_true c79
          try have c79b2 : (9223372036854775807 < x5_66.size + x7_66.size) = False := eq_false (Nat.not_lt.2 c79)
          have c79b3 := c79b2
          try simp only [ByteArray.size_append, bsz1, bsz2, bsz3, bsz5, bsz6] at c79b3
          by_cases c80 : (x5_66 ++ x7_66).size + 1 ≤ 9223372036854775807
          ·rw [if_pos c80] at H
           have c80b0 := eq_true c80
           have c80b1 : decide ((x5_66 ++ x7_66).size + 1 ≤ 9223372036854775807) = true := decide_eq_true c80
           try have c80b2 : (9223372036854775807 < (x5_66 ++ x7_66).size + 1) = False := eq_false (Nat.not_lt.2 c80)
           have c80b3 := c80b2
           try simp only [ByteArray.size_append, bsz1, bsz2, bsz3, bsz5, bsz6] at c80b3
           obtain ⟨t616, A81, H⟩ := bsA_ H
           try dsimp only at H
           by_cases c82 : ((x5_66 ++ x7_66) ++ (⟨#[114]⟩ : ByteArray)).size + t616.size ≤ 9223372036854775807
           ·rw [if_pos c82] at H
            have c82b0 := eq_true c82
            have c82b1 : decide (((x5_66 ++ x7_66) ++ (⟨#[114]⟩ : ByteArray)).size + t616.size ≤ 9223372036854775807) = true := decide_eq_true c82
            try have c82b2 : (9223372036854775807 < ((x5_66 ++ x7_66) ++ (⟨#[114]⟩ : ByteArray)).size + t616.size) = False := eq_false (Nat.not_lt.2 c82)
            have c82b3 := c82b2
            try simp only [ByteArray.size_append, bsz1, bsz2, bsz3, bsz5, bsz6] at c82b3
            by_cases c83 : t607 = 0
            ·rw [if_pos c83] at H
             have c83b0 : (t607 == 0) = true := beq_iff_eq.mpr c83
             have c83b1 : (t607 != 0) = false := bne_eq_false_iff_eq.mpr c83
             clear c83
             by_cases c84 : (((x5_66 ++ x7_66) ++ (⟨#[114]⟩ : ByteArray)) ++ t616).size + 1 ≤ 9223372036854775807
             ·rw [if_pos c84] at H
              have c84b0 := eq_true c84
              have c84b1 : decide ((((x5_66 ++ x7_66) ++ (⟨#[114]⟩ : ByteArray)) ++ t616).size + 1 ≤ 9223372036854775807) = true := decide_eq_true c84
              try have c84b2 : (9223372036854775807 < (((x5_66 ++ x7_66) ++ (⟨#[114]⟩ : ByteArray)) ++ t616).size + 1) = False := eq_false (Nat.not_lt.2 c84)
              have c84b3 := c84b2
              try simp only [ByteArray.size_append, bsz1, bsz2, bsz3, bsz5, bsz6] at c84b3
              obtain rfl := Option.some.inj H
              have hnb85 := NB609_601.out
              have hnc85 := NB601_609.out
              have hcz86_0 : wc.cell? ⟨gb609, 0, none⟩ = some (.int .i64 t602) := (blk_cell BK609.out 0).trans rfl
              have hcz86_1 : wc.cell? ⟨gb609, 1, none⟩ = some (.string t603) := (blk_cell BK609.out 1).trans rfl
              have hcz86_2 : wc.cell? ⟨gb609, 2, none⟩ = some (.bool t604) := (blk_cell BK609.out 2).trans rfl
              have hcz86_3 : wc.cell? ⟨gb609, 3, none⟩ = some (.bool t605) := (blk_cell BK609.out 3).trans rfl
              have hcz86_4 : wc.cell? ⟨gb609, 4, none⟩ = some (.bool true) := (blk_cell BK609.out 4).trans rfl
              have hcz86_5 : wc.cell? ⟨gb609, 5, none⟩ = some (.int .i64 t607) := (blk_cell BK609.out 5).trans rfl
              have hfz86_0 := blk_frozen BK609.out 0
              have hfz86_1 := blk_frozen BK609.out 1
              have hfz86_2 := blk_frozen BK609.out 2
              have hfz86_3 := blk_frozen BK609.out 3
              have hfz86_4 := blk_frozen BK609.out 4
              have hfz86_5 := blk_frozen BK609.out 5
              have hcz87_0 : wc.cell? ⟨gb601, 0, none⟩ = some (.int .i64 a0_0) := (blk_cell BK601.out 0).trans rfl
              have hcz87_1 : wc.cell? ⟨gb601, 1, none⟩ = some (.int .i64 a0_1) := (blk_cell BK601.out 1).trans rfl
              have hcz87_2 : wc.cell? ⟨gb601, 2, none⟩ = some (.int .i64 a0_2) := (blk_cell BK601.out 2).trans rfl
              have hcz87_3 : wc.cell? ⟨gb601, 3, none⟩ = some (.int .i64 a0_3) := (blk_cell BK601.out 3).trans rfl
              have hcz87_4 : wc.cell? ⟨gb601, 4, none⟩ = some (.int .i64 a0_4) := (blk_cell BK601.out 4).trans rfl
              have hfz87_0 := blk_frozen BK601.out 0
              have hfz87_1 := blk_frozen BK601.out 1
              have hfz87_2 := blk_frozen BK601.out 2
              have hfz87_3 := blk_frozen BK601.out 3
              have hfz87_4 := blk_frozen BK601.out 4
              go_wp2_with (first | ((with_reducible refine gate_callee (f := 53) rfl ?_); refine goesL_ (some 79) rfl rfl Tryd.func53 (by kernel_rfl) rfl #[.int .i64 a0_3] rfl ts8_ ?_; (with_reducible refine (cupelref20_number.calls kj66 a0_3 t616 _ A81.out).mono ?_); rintro e w88 ⟨rfl, hb⟩; refine ⟨_, rfl, ?_⟩; replace BK601 := Aside0.mk (blk_below (g := gb601) (o := .cells #[.int .i64 a0_0, .int .i64 a0_1, .int .i64 a0_2, .int .i64 a0_3, .int .i64 a0_4] 26 (0, 0)) (ts14_ BK601.out) hb); replace BK609 := Aside0.mk (blk_below (g := gb609) (o := .cells #[.int .i64 t602, .string t603, .bool t604, .bool t605, .bool true, .int .i64 t607] 56 (0, 0)) (ts14_ BK609.out) hb); replace HB := Aside0.mk (below_step (ts25_ HB.out GE601.out GE609.out) hb); clear hb; have hcz89_0 : w88.cell? ⟨gb609, 0, none⟩ = some (.int .i64 t602) := (blk_cell BK609.out 0).trans rfl; have hcz89_1 : w88.cell? ⟨gb609, 1, none⟩ = some (.string t603) := (blk_cell BK609.out 1).trans rfl; have hcz89_2 : w88.cell? ⟨gb609, 2, none⟩ = some (.bool t604) := (blk_cell BK609.out 2).trans rfl; have hcz89_3 : w88.cell? ⟨gb609, 3, none⟩ = some (.bool t605) := (blk_cell BK609.out 3).trans rfl; have hcz89_4 : w88.cell? ⟨gb609, 4, none⟩ = some (.bool true) := (blk_cell BK609.out 4).trans rfl; have hcz89_5 : w88.cell? ⟨gb609, 5, none⟩ = some (.int .i64 t607) := (blk_cell BK609.out 5).trans rfl; have hfz89_0 := blk_frozen BK609.out 0; have hfz89_1 := blk_frozen BK609.out 1; have hfz89_2 := blk_frozen BK609.out 2; have hfz89_3 := blk_frozen BK609.out 3; have hfz89_4 := blk_frozen BK609.out 4; have hfz89_5 := blk_frozen BK609.out 5))
              go_ret
              exact ⟨ts26_, ts25_ HB.out GE601.out GE609.out⟩
             rw [if_neg c84] at H
             exact absurd H (by simp)
            rw [if_neg c83] at H
            have c83b0 : (t607 == 0) = false := beq_eq_false_iff_ne.mpr c83
            have c83b1 : (t607 != 0) = true := bne_iff_ne.mpr c83
            by_cases c90 : (((x5_66 ++ x7_66) ++ (⟨#[114]⟩ : ByteArray)) ++ t616).size + 2 ≤ 9223372036854775807
            ·rw [if_pos c90] at H
             have c90b0 := eq_true c90
             have c90b1 : decide ((((x5_66 ++ x7_66) ++ (⟨#[114]⟩ : ByteArray)) ++ t616).size + 2 ≤ 9223372036854775807) = true := decide_eq_true c90
             try have c90b2 : (9223372036854775807 < (((x5_66 ++ x7_66) ++ (⟨#[114]⟩ : ByteArray)) ++ t616).size + 2) = False := eq_false (Nat.not_lt.2 c90)
             have c90b3 := c90b2
             try simp only [ByteArray.size_append, bsz1, bsz2, bsz3, bsz5, bsz6] at c90b3
             obtain ⟨t617, A91, H⟩ := bsA_ H
             try dsimp only at H
             by_cases c92 : ((((x5_66 ++ x7_66) ++ (⟨#[114]⟩ : ByteArray)) ++ t616) ++ (⟨#[44, 32]⟩ : ByteArray)).size + t617.size ≤ 9223372036854775807
             ·rw [if_pos c92] at H
              have c92b0 := eq_true c92
              have c92b1 : decide (((((x5_66 ++ x7_66) ++ (⟨#[114]⟩ : ByteArray)) ++ t616) ++ (⟨#[44, 32]⟩ : ByteArray)).size + t617.size ≤ 9223372036854775807) = true := decide_eq_true c92
              try have c92b2 : (9223372036854775807 < ((((x5_66 ++ x7_66) ++ (⟨#[114]⟩ : ByteArray)) ++ t616) ++ (⟨#[44, 32]⟩ : ByteArray)).size + t617.size) = False := eq_false (Nat.not_lt.2 c92)
              have c92b3 := c92b2
              try simp only [ByteArray.size_append, bsz1, bsz2, bsz3, bsz5, bsz6] at c92b3
              by_cases c93 : (((((x5_66 ++ x7_66) ++ (⟨#[114]⟩ : ByteArray)) ++ t616) ++ (⟨#[44, 32]⟩ : ByteArray)) ++ t617).size + 1 ≤ 9223372036854775807
              ·rw [if_pos c93] at H
               have c93b0 := eq_true c93
               have c93b1 : decide ((((((x5_66 ++ x7_66) ++ (⟨#[114]⟩ : ByteArray)) ++ t616) ++ (⟨#[44, 32]⟩ : ByteArray)) ++ t617).size + 1 ≤ 9223372036854775807) = true := decide_eq_true c93
               try have c93b2 : (9223372036854775807 < (((((x5_66 ++ x7_66) ++ (⟨#[114]⟩ : ByteArray)) ++ t616) ++ (⟨#[44, 32]⟩ : ByteArray)) ++ t617).size + 1) = False := eq_false (Nat.not_lt.2 c93)
               have c93b3 := c93b2
               try simp only [ByteArray.size_append, bsz1, bsz2, bsz3, bsz5, bsz6] at c93b3
               obtain rfl := Option.some.inj H
               have hnb94 := NB609_601.out
               have hnc94 := NB601_609.out
               have hcz95_0 : wc.cell? ⟨gb609, 0, none⟩ = some (.int .i64 t602) := (blk_cell BK609.out 0).trans rfl
               have hcz95_1 : wc.cell? ⟨gb609, 1, none⟩ = some (.string t603) := (blk_cell BK609.out 1).trans rfl
               have hcz95_2 : wc.cell? ⟨gb609, 2, none⟩ = some (.bool t604) := (blk_cell BK609.out 2).trans rfl
               have hcz95_3 : wc.cell? ⟨gb609, 3, none⟩ = some (.bool t605) := (blk_cell BK609.out 3).trans rfl
               have hcz95_4 : wc.cell? ⟨gb609, 4, none⟩ = some (.bool true) := (blk_cell BK609.out 4).trans rfl
               have hcz95_5 : wc.cell? ⟨gb609, 5, none⟩ = some (.int .i64 t607) := (blk_cell BK609.out 5).trans rfl
               have hfz95_0 := blk_frozen BK609.out 0
               have hfz95_1 := blk_frozen BK609.out 1
               have hfz95_2 := blk_frozen BK609.out 2
               have hfz95_3 := blk_frozen BK609.out 3
               have hfz95_4 := blk_frozen BK609.out 4
               have hfz95_5 := blk_frozen BK609.out 5
               have hcz96_0 : wc.cell? ⟨gb601, 0, none⟩ = some (.int .i64 a0_0) := (blk_cell BK601.out 0).trans rfl
               have hcz96_1 : wc.cell? ⟨gb601, 1, none⟩ = some (.int .i64 a0_1) := (blk_cell BK601.out 1).trans rfl
               have hcz96_2 : wc.cell? ⟨gb601, 2, none⟩ = some (.int .i64 a0_2) := (blk_cell BK601.out 2).trans rfl
               have hcz96_3 : wc.cell? ⟨gb601, 3, none⟩ = some (.int .i64 a0_3) := (blk_cell BK601.out 3).trans rfl
               have hcz96_4 : wc.cell? ⟨gb601, 4, none⟩ = some (.int .i64 a0_4) := (blk_cell BK601.out 4).trans rfl
               have hfz96_0 := blk_frozen BK601.out 0
               have hfz96_1 := blk_frozen BK601.out 1
               have hfz96_2 := blk_frozen BK601.out 2
               have hfz96_3 := blk_frozen BK601.out 3
               have hfz96_4 := blk_frozen BK601.out 4
               go_wp2_with (first | ((with_reducible refine gate_callee (f := 53) rfl ?_); refine goesL_ (some 79) rfl rfl Tryd.func53 (by kernel_rfl) rfl #[.int .i64 a0_3] rfl ts8_ ?_; (with_reducible refine (cupelref20_number.calls kj66 a0_3 t616 _ A81.out).mono ?_); rintro e w97 ⟨rfl, hb⟩; refine ⟨_, rfl, ?_⟩; replace BK601 := Aside0.mk (blk_below (g := gb601) (o := .cells #[.int .i64 a0_0, .int .i64 a0_1, .int .i64 a0_2, .int .i64 a0_3, .int .i64 a0_4] 26 (0, 0)) (ts14_ BK601.out) hb); replace BK609 := Aside0.mk (blk_below (g := gb609) (o := .cells #[.int .i64 t602, .string t603, .bool t604, .bool t605, .bool true, .int .i64 t607] 56 (0, 0)) (ts14_ BK609.out) hb); replace HB := Aside0.mk (below_step (ts25_ HB.out GE601.out GE609.out) hb); clear hb; have hcz98_0 : w97.cell? ⟨gb609, 0, none⟩ = some (.int .i64 t602) := (blk_cell BK609.out 0).trans rfl; have hcz98_1 : w97.cell? ⟨gb609, 1, none⟩ = some (.string t603) := (blk_cell BK609.out 1).trans rfl; have hcz98_2 : w97.cell? ⟨gb609, 2, none⟩ = some (.bool t604) := (blk_cell BK609.out 2).trans rfl; have hcz98_3 : w97.cell? ⟨gb609, 3, none⟩ = some (.bool t605) := (blk_cell BK609.out 3).trans rfl; have hcz98_4 : w97.cell? ⟨gb609, 4, none⟩ = some (.bool true) := (blk_cell BK609.out 4).trans rfl; have hcz98_5 : w97.cell? ⟨gb609, 5, none⟩ = some (.int .i64 t607) := (blk_cell BK609.out 5).trans rfl; have hfz98_0 := blk_frozen BK609.out 0; have hfz98_1 := blk_frozen BK609.out 1; have hfz98_2 := blk_frozen BK609.out 2; have hfz98_3 := blk_frozen BK609.out 3; have hfz98_4 := blk_frozen BK609.out 4; have hfz98_5 := blk_frozen BK609.out 5; have hcz99_0 : w97.cell? ⟨gb601, 0, none⟩ = some (.int .i64 a0_0) := (blk_cell BK601.out 0).trans rfl; have hcz99_1 : w97.cell? ⟨gb601, 1, none⟩ = some (.int .i64 a0_1) := (blk_cell BK601.out 1).trans rfl; have hcz99_2 : w97.cell? ⟨gb601, 2, none⟩ = some (.int .i64 a0_2) := (blk_cell BK601.out 2).trans rfl; have hcz99_3 : w97.cell? ⟨gb601, 3, none⟩ = some (.int .i64 a0_3) := (blk_cell BK601.out 3).trans rfl; have hcz99_4 : w97.cell? ⟨gb601, 4, none⟩ = some (.int .i64 a0_4) := (blk_cell BK601.out 4).trans rfl; have hfz99_0 := blk_frozen BK601.out 0; have hfz99_1 := blk_frozen BK601.out 1; have hfz99_2 := blk_frozen BK601.out 2; have hfz99_3 := blk_frozen BK601.out 3; have hfz99_4 := blk_frozen BK601.out 4) | ((with_reducible refine gate_callee (f := 53) rfl ?_); refine goesL_ (some 89) rfl rfl Tryd.func53 (by kernel_rfl) rfl #[.int .i64 a0_4] rfl ts8_ ?_; (with_reducible refine (cupelref20_number.calls kj66 a0_4 t617 _ A91.out).mono ?_); rintro e w100 ⟨rfl, hb⟩; refine ⟨_, rfl, ?_⟩; replace BK601 := Aside0.mk (blk_below (g := gb601) (o := .cells #[.int .i64 a0_0, .int .i64 a0_1, .int .i64 a0_2, .int .i64 a0_3, .int .i64 a0_4] 26 (0, 0)) (ts14_ BK601.out) hb); replace BK609 := Aside0.mk (blk_below (g := gb609) (o := .cells #[.int .i64 t602, .string t603, .bool t604, .bool t605, .bool true, .int .i64 t607] 56 (0, 0)) (ts14_ BK609.out) hb); replace HB := Aside0.mk (below_step (ts25_ HB.out GE601.out GE609.out) hb); clear hb))
               go_ret
               exact ⟨ts26_, ts25_ HB.out GE601.out GE609.out⟩
              rw [if_neg c93] at H
              exact absurd H (by simp)
             rw [if_neg c92] at H
             exact absurd H (by simp)
            rw [if_neg c90] at H
            exact absurd H (by simp)
           rw [if_neg c82] at H
           exact absurd H (by simp)
          rw [if_neg c80] at H
          exact absurd H (by simp)
         rw [if_neg c79] at H
         exact absurd H (by simp)
        replace c78 := Bool.eq_false_iff.mpr c78
        subst c78
        rw [if_neg Bool.false_ne_true] at H
        by_cases c101 : t607 = 0
        ·rw [if_pos c101] at H
         have c101b0 : (t607 == 0) = true := beq_iff_eq.mpr c101
         have c101b1 : (t607 != 0) = false := bne_eq_false_iff_eq.mpr c101
         clear c101
         by_cases c102 : x5_66.size + 1 ≤ 9223372036854775807
         ·rw [if_pos c102] at H
          have c102b0 := eq_true c102
          have c102b1 : decide (x5_66.size + 1 ≤ 9223372036854775807) = true := decide_eq_true c102
          try have c102b2 : (9223372036854775807 < x5_66.size + 1) = False := eq_false (Nat.not_lt.2 c102)
          have c102b3 := c102b2
          try simp only [ByteArray.size_append, bsz1, bsz2, bsz3, bsz5, bsz6] at c102b3
          obtain rfl := Option.some.inj H
          have hnb103 := NB609_601.out
          have hnc103 := NB601_609.out
          have hcz104_0 : wc.cell? ⟨gb609, 0, none⟩ = some (.int .i64 t602) := (blk_cell BK609.out 0).trans rfl
          have hcz104_1 : wc.cell? ⟨gb609, 1, none⟩ = some (.string t603) := (blk_cell BK609.out 1).trans rfl
          have hcz104_2 : wc.cell? ⟨gb609, 2, none⟩ = some (.bool t604) := (blk_cell BK609.out 2).trans rfl
          have hcz104_3 : wc.cell? ⟨gb609, 3, none⟩ = some (.bool t605) := (blk_cell BK609.out 3).trans rfl
          have hcz104_4 : wc.cell? ⟨gb609, 4, none⟩ = some (.bool false) := (blk_cell BK609.out 4).trans rfl
          have hcz104_5 : wc.cell? ⟨gb609, 5, none⟩ = some (.int .i64 t607) := (blk_cell BK609.out 5).trans rfl
          have hfz104_0 := blk_frozen BK609.out 0
          have hfz104_1 := blk_frozen BK609.out 1
          have hfz104_2 := blk_frozen BK609.out 2
          have hfz104_3 := blk_frozen BK609.out 3
          have hfz104_4 := blk_frozen BK609.out 4
          have hfz104_5 := blk_frozen BK609.out 5
          go_wp2
          go_ret
          exact ⟨ts26_, ts25_ HB.out GE601.out GE609.out⟩
         rw [if_neg c102] at H
         exact absurd H (by simp)
        rw [if_neg c101] at H
        have c101b0 : (t607 == 0) = false := beq_eq_false_iff_ne.mpr c101
        have c101b1 : (t607 != 0) = true := bne_iff_ne.mpr c101
        by_cases c105 : x5_66.size + x7_66.size ≤ 9223372036854775807
        ·rw [if_pos c105] at H
         have c105b0 := eq_true c105
         have c105b1 : decide (x5_66.size + x7_66.size ≤ 9223372036854775807) = true := decide_eq_true c105
         try have c105b2 : (9223372036854775807 < x5_66.size + x7_66.size) = False := eq_false (Nat.not_lt.2 c105)
         have c105b3 := c105b2
         try simp only [ByteArray.size_append, bsz1, bsz2, bsz3, bsz5, bsz6] at c105b3
         obtain ⟨t618, A106, H⟩ := bsA_ H
         try dsimp only at H
         by_cases c107 : (x5_66 ++ x7_66).size + t618.size ≤ 9223372036854775807
         ·rw [if_pos c107] at H
          have c107b0 := eq_true c107
          have c107b1 : decide ((x5_66 ++ x7_66).size + t618.size ≤ 9223372036854775807) = true := decide_eq_true c107
          try have c107b2 : (9223372036854775807 < (x5_66 ++ x7_66).size + t618.size) = False := eq_false (Nat.not_lt.2 c107)
          have c107b3 := c107b2
          try simp only [ByteArray.size_append, bsz1, bsz2, bsz3, bsz5, bsz6] at c107b3
          by_cases c108 : ((x5_66 ++ x7_66) ++ t618).size + 1 ≤ 9223372036854775807
          ·rw [if_pos c108] at H
           have c108b0 := eq_true c108
           have c108b1 : decide (((x5_66 ++ x7_66) ++ t618).size + 1 ≤ 9223372036854775807) = true := decide_eq_true c108
           try have c108b2 : (9223372036854775807 < ((x5_66 ++ x7_66) ++ t618).size + 1) = False := eq_false (Nat.not_lt.2 c108)
           have c108b3 := c108b2
           try simp only [ByteArray.size_append, bsz1, bsz2, bsz3, bsz5, bsz6] at c108b3
           obtain rfl := Option.some.inj H
           have hnb109 := NB609_601.out
           have hnc109 := NB601_609.out
           have hcz110_0 : wc.cell? ⟨gb609, 0, none⟩ = some (.int .i64 t602) := (blk_cell BK609.out 0).trans rfl
           have hcz110_1 : wc.cell? ⟨gb609, 1, none⟩ = some (.string t603) := (blk_cell BK609.out 1).trans rfl
           have hcz110_2 : wc.cell? ⟨gb609, 2, none⟩ = some (.bool t604) := (blk_cell BK609.out 2).trans rfl
           have hcz110_3 : wc.cell? ⟨gb609, 3, none⟩ = some (.bool t605) := (blk_cell BK609.out 3).trans rfl
           have hcz110_4 : wc.cell? ⟨gb609, 4, none⟩ = some (.bool false) := (blk_cell BK609.out 4).trans rfl
           have hcz110_5 : wc.cell? ⟨gb609, 5, none⟩ = some (.int .i64 t607) := (blk_cell BK609.out 5).trans rfl
           have hfz110_0 := blk_frozen BK609.out 0
           have hfz110_1 := blk_frozen BK609.out 1
           have hfz110_2 := blk_frozen BK609.out 2
           have hfz110_3 := blk_frozen BK609.out 3
           have hfz110_4 := blk_frozen BK609.out 4
           have hfz110_5 := blk_frozen BK609.out 5
           have hcz111_0 : wc.cell? ⟨gb601, 0, none⟩ = some (.int .i64 a0_0) := (blk_cell BK601.out 0).trans rfl
           have hcz111_1 : wc.cell? ⟨gb601, 1, none⟩ = some (.int .i64 a0_1) := (blk_cell BK601.out 1).trans rfl
           have hcz111_2 : wc.cell? ⟨gb601, 2, none⟩ = some (.int .i64 a0_2) := (blk_cell BK601.out 2).trans rfl
           have hcz111_3 : wc.cell? ⟨gb601, 3, none⟩ = some (.int .i64 a0_3) := (blk_cell BK601.out 3).trans rfl
           have hcz111_4 : wc.cell? ⟨gb601, 4, none⟩ = some (.int .i64 a0_4) := (blk_cell BK601.out 4).trans rfl
           have hfz111_0 := blk_frozen BK601.out 0
           have hfz111_1 := blk_frozen BK601.out 1
           have hfz111_2 := blk_frozen BK601.out 2
           have hfz111_3 := blk_frozen BK601.out 3
           have hfz111_4 := blk_frozen BK601.out 4
           go_wp2_with (first | ((with_reducible refine gate_callee (f := 53) rfl ?_); refine goesL_ (some 89) rfl rfl Tryd.func53 (by kernel_rfl) rfl #[.int .i64 a0_4] rfl ts8_ ?_; (with_reducible refine (cupelref20_number.calls kj66 a0_4 t618 _ A106.out).mono ?_); rintro e w112 ⟨rfl, hb⟩; refine ⟨_, rfl, ?_⟩; replace BK601 := Aside0.mk (blk_below (g := gb601) (o := .cells #[.int .i64 a0_0, .int .i64 a0_1, .int .i64 a0_2, .int .i64 a0_3, .int .i64 a0_4] 26 (0, 0)) (ts14_ BK601.out) hb); replace BK609 := Aside0.mk (blk_below (g := gb609) (o := .cells #[.int .i64 t602, .string t603, .bool t604, .bool t605, .bool false, .int .i64 t607] 56 (0, 0)) (ts14_ BK609.out) hb); replace HB := Aside0.mk (below_step (ts25_ HB.out GE601.out GE609.out) hb); clear hb))
           go_ret
           exact ⟨ts26_, ts25_ HB.out GE601.out GE609.out⟩
          rw [if_neg c108] at H
          exact absurd H (by simp)
         rw [if_neg c107] at H
         exact absurd H (by simp)
        rw [if_neg c105] at H
        exact absurd H (by simp)
   rw [if_neg c7] at H
   exact absurd H (by simp)
  rw [if_neg c6] at H
  exact absurd H (by simp)
 rw [if_neg c4] at H
 exact absurd H (by simp)
end Go.Proofs.YtlaijeeeblcinaaDoor.A
