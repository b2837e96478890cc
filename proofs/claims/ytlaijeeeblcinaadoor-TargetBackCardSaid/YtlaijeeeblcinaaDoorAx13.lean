/- Written by wip/tools/xprint.py, a program of this session that drives the kit's printer. Not trusted: Lean checks it. -/
import Derived.Test.YtlaijeeeblcinaaDoorAx0
import Derived.Test.YtlaijeeeblcinaaDoorAx12
import Derived.Test.YtlaijeeeblcinaaDoorRefFindC
set_option linter.all false
namespace Go.Proofs.YtlaijeeeblcinaaDoor.A
open Go.RowKit Go.Proofs.YtlaijeeeblcinaaDoorW.PrintWords Go.Proofs.YtlaijeeeblcinaaDoorW.PrintLast Go.Proofs.YtlaijeeeblcinaaDoorW.PrintMore
attribute [local go_sem] max2_int min2_int max_two min_two max_three min_three max_four min_four   -- for this text's walks alone
set_option linter.unusedVariables false
set_option linter.unusedSimpArgs false
theorem bsz1 (a : UInt8) : (ByteArray.mk #[a]).size = 1 := rfl
theorem bsz2 (a b : UInt8) : (ByteArray.mk #[a, b]).size = 2 := rfl
theorem bsz3 (a b c : UInt8) : (ByteArray.mk #[a, b, c]).size = 3 := rfl
theorem bsz5 (a b c d e : UInt8) : (ByteArray.mk #[a, b, c, d, e]).size = 5 := rfl
theorem bsz6 (a b c d e f : UInt8) : (ByteArray.mk #[a, b, c, d, e, f]).size = 6 := rfl
/-! ### cupelref20_Line: function 54 -/
mutual
def cupelref20_Line.j0 : Nat → ByteArray → ByteArray → Int → Int → Int → Int → Int → Int → ByteArray → Bool → Bool → Bool → Int → Option (ByteArray)
 | 0, _, _, _, _, _, _, _, _, _, _, _, _, _ => none
 | k + 1, x5, x7, x602000, x602001, x602002, x602003, x602004, x610000, x610001, x610002, x610003, x610004, x610005 => if x610003 = true then (if x5.size + x7.size ≤ 9223372036854775807 then (if (x5 ++ x7).size + 1 ≤ 9223372036854775807 then ((cupelref20_number.f k x602002).bind fun t615 => (if ((x5 ++ x7) ++ (⟨#[114]⟩ : ByteArray)).size + t615.size ≤ 9223372036854775807 then (cupelref20_Line.j1 k (((x5 ++ x7) ++ (⟨#[114]⟩ : ByteArray)) ++ t615) (⟨#[44, 32]⟩ : ByteArray) x602000 x602001 x602002 x602003 x602004 x610000 x610001 x610002 x610003 x610004 x610005) else (none))) else (none)) else (none)) else (cupelref20_Line.j1 k x5 x7 x602000 x602001 x602002 x602003 x602004 x610000 x610001 x610002 x610003 x610004 x610005)
def cupelref20_Line.j1 : Nat → ByteArray → ByteArray → Int → Int → Int → Int → Int → Int → ByteArray → Bool → Bool → Bool → Int → Option (ByteArray)
 | 0, _, _, _, _, _, _, _, _, _, _, _, _, _ => none
 | k + 1, x5, x7, x602000, x602001, x602002, x602003, x602004, x610000, x610001, x610002, x610003, x610004, x610005 => if x610004 = true then (if x5.size + x7.size ≤ 9223372036854775807 then (if (x5 ++ x7).size + 1 ≤ 9223372036854775807 then ((cupelref20_number.f k x602003).bind fun t616 => (if ((x5 ++ x7) ++ (⟨#[114]⟩ : ByteArray)).size + t616.size ≤ 9223372036854775807 then (if x610005 = 0 then (if (((x5 ++ x7) ++ (⟨#[114]⟩ : ByteArray)) ++ t616).size + 1 ≤ 9223372036854775807 then (some ((((x5 ++ x7) ++ (⟨#[114]⟩ : ByteArray)) ++ t616) ++ (⟨#[59]⟩ : ByteArray))) else (none)) else (if (((x5 ++ x7) ++ (⟨#[114]⟩ : ByteArray)) ++ t616).size + 2 ≤ 9223372036854775807 then ((cupelref20_number.f k x602004).bind fun t617 => (if ((((x5 ++ x7) ++ (⟨#[114]⟩ : ByteArray)) ++ t616) ++ (⟨#[44, 32]⟩ : ByteArray)).size + t617.size ≤ 9223372036854775807 then (if (((((x5 ++ x7) ++ (⟨#[114]⟩ : ByteArray)) ++ t616) ++ (⟨#[44, 32]⟩ : ByteArray)) ++ t617).size + 1 ≤ 9223372036854775807 then (some ((((((x5 ++ x7) ++ (⟨#[114]⟩ : ByteArray)) ++ t616) ++ (⟨#[44, 32]⟩ : ByteArray)) ++ t617) ++ (⟨#[59]⟩ : ByteArray))) else (none)) else (none))) else (none))) else (none))) else (none)) else (none)) else (if x610005 = 0 then (if x5.size + 1 ≤ 9223372036854775807 then (some (x5 ++ (⟨#[59]⟩ : ByteArray))) else (none)) else (if x5.size + x7.size ≤ 9223372036854775807 then ((cupelref20_number.f k x602004).bind fun t618 => (if (x5 ++ x7).size + t618.size ≤ 9223372036854775807 then (if ((x5 ++ x7) ++ t618).size + 1 ≤ 9223372036854775807 then (some (((x5 ++ x7) ++ t618) ++ (⟨#[59]⟩ : ByteArray))) else (none)) else (none))) else (none)))
end
def cupelref20_Line.f (k : Nat) (a0_0 : Int) (a0_1 : Int) (a0_2 : Int) (a0_3 : Int) (a0_4 : Int) : Option (ByteArray) := (cupelref20_find.f a0_0).bind fun bt602 => ((cupelref20_number.f k a0_4).bind fun t610 => (if t610.size + 2 ≤ 9223372036854775807 then ((cupelref20_number.f k a0_2).bind fun t611 => (if (t610 ++ (⟨#[40, 114]⟩ : ByteArray)).size + t611.size ≤ 9223372036854775807 then (if ((t610 ++ (⟨#[40, 114]⟩ : ByteArray)) ++ t611).size + 1 ≤ 9223372036854775807 then (if a0_0 = 4 then (if bt602.2.1.size + 2 ≤ 9223372036854775807 then ((cupelref20_number.f k a0_1).bind fun t612 => (if (bt602.2.1 ++ (⟨#[32, 114]⟩ : ByteArray)).size + t612.size ≤ 9223372036854775807 then (if ((bt602.2.1 ++ (⟨#[32, 114]⟩ : ByteArray)) ++ t612).size + 2 ≤ 9223372036854775807 then (if (((bt602.2.1 ++ (⟨#[32, 114]⟩ : ByteArray)) ++ t612) ++ (⟨#[44, 32]⟩ : ByteArray)).size + (((t610 ++ (⟨#[40, 114]⟩ : ByteArray)) ++ t611) ++ (⟨#[41]⟩ : ByteArray)).size ≤ 9223372036854775807 then (if ((((bt602.2.1 ++ (⟨#[32, 114]⟩ : ByteArray)) ++ t612) ++ (⟨#[44, 32]⟩ : ByteArray)) ++ (((t610 ++ (⟨#[40, 114]⟩ : ByteArray)) ++ t611) ++ (⟨#[41]⟩ : ByteArray))).size + 1 ≤ 9223372036854775807 then (some (((((bt602.2.1 ++ (⟨#[32, 114]⟩ : ByteArray)) ++ t612) ++ (⟨#[44, 32]⟩ : ByteArray)) ++ (((t610 ++ (⟨#[40, 114]⟩ : ByteArray)) ++ t611) ++ (⟨#[41]⟩ : ByteArray))) ++ (⟨#[59]⟩ : ByteArray))) else (none)) else (none)) else (none)) else (none))) else (none)) else (if a0_0 = 5 then (if bt602.2.1.size + 1 ≤ 9223372036854775807 then (if (bt602.2.1 ++ (⟨#[32]⟩ : ByteArray)).size + (((t610 ++ (⟨#[40, 114]⟩ : ByteArray)) ++ t611) ++ (⟨#[41]⟩ : ByteArray)).size ≤ 9223372036854775807 then (if ((bt602.2.1 ++ (⟨#[32]⟩ : ByteArray)) ++ (((t610 ++ (⟨#[40, 114]⟩ : ByteArray)) ++ t611) ++ (⟨#[41]⟩ : ByteArray))).size + 3 ≤ 9223372036854775807 then ((cupelref20_number.f k a0_3).bind fun t613 => (if (((bt602.2.1 ++ (⟨#[32]⟩ : ByteArray)) ++ (((t610 ++ (⟨#[40, 114]⟩ : ByteArray)) ++ t611) ++ (⟨#[41]⟩ : ByteArray))) ++ (⟨#[44, 32, 114]⟩ : ByteArray)).size + t613.size ≤ 9223372036854775807 then (if ((((bt602.2.1 ++ (⟨#[32]⟩ : ByteArray)) ++ (((t610 ++ (⟨#[40, 114]⟩ : ByteArray)) ++ t611) ++ (⟨#[41]⟩ : ByteArray))) ++ (⟨#[44, 32, 114]⟩ : ByteArray)) ++ t613).size + 1 ≤ 9223372036854775807 then (some (((((bt602.2.1 ++ (⟨#[32]⟩ : ByteArray)) ++ (((t610 ++ (⟨#[40, 114]⟩ : ByteArray)) ++ t611) ++ (⟨#[41]⟩ : ByteArray))) ++ (⟨#[44, 32, 114]⟩ : ByteArray)) ++ t613) ++ (⟨#[59]⟩ : ByteArray))) else (none)) else (none))) else (none)) else (none)) else (none)) else (if bt602.2.2.1 = true then (if bt602.2.1.size + 1 ≤ 9223372036854775807 then (if (bt602.2.1 ++ (⟨#[32]⟩ : ByteArray)).size + 1 ≤ 9223372036854775807 then ((cupelref20_number.f k a0_1).bind fun t614 => (if ((bt602.2.1 ++ (⟨#[32]⟩ : ByteArray)) ++ (⟨#[114]⟩ : ByteArray)).size + t614.size ≤ 9223372036854775807 then (cupelref20_Line.j0 k (((bt602.2.1 ++ (⟨#[32]⟩ : ByteArray)) ++ (⟨#[114]⟩ : ByteArray)) ++ t614) (⟨#[44, 32]⟩ : ByteArray) a0_0 a0_1 a0_2 a0_3 a0_4 bt602.1 bt602.2.1 bt602.2.2.1 bt602.2.2.2.1 bt602.2.2.2.2.1 bt602.2.2.2.2.2.1) else (none))) else (none)) else (none)) else (cupelref20_Line.j0 k bt602.2.1 (⟨#[32]⟩ : ByteArray) a0_0 a0_1 a0_2 a0_3 a0_4 bt602.1 bt602.2.1 bt602.2.2.1 bt602.2.2.2.1 bt602.2.2.2.2.1 bt602.2.2.2.2.2.1)))) else (none)) else (none))) else (none)))
theorem cupelref20_Line.mono_l : ∀ k, (∀ y0 y1 y2 y3 y4 y5 y6 y7 y8 y9 y10 y11 y12, LeO (cupelref20_Line.j0 k y0 y1 y2 y3 y4 y5 y6 y7 y8 y9 y10 y11 y12) (cupelref20_Line.j0 (k + 1) y0 y1 y2 y3 y4 y5 y6 y7 y8 y9 y10 y11 y12)) ∧ (∀ y0 y1 y2 y3 y4 y5 y6 y7 y8 y9 y10 y11 y12, LeO (cupelref20_Line.j1 k y0 y1 y2 y3 y4 y5 y6 y7 y8 y9 y10 y11 y12) (cupelref20_Line.j1 (k + 1) y0 y1 y2 y3 y4 y5 y6 y7 y8 y9 y10 y11 y12))
 | 0 => ⟨fun _ _ _ _ _ _ _ _ _ _ _ _ _ r h => by simp [cupelref20_Line.j0] at h, fun _ _ _ _ _ _ _ _ _ _ _ _ _ r h => by simp [cupelref20_Line.j1] at h⟩
 | k + 1 => by
  obtain ⟨ih0, ih1⟩ := cupelref20_Line.mono_l k
  refine ⟨?_, ?_⟩
  ·intro y0 y1 y2 y3 y4 y5 y6 y7 y8 y9 y10 y11 y12
   unfold cupelref20_Line.j0
   repeat' first
   | (with_reducible exact ih0 _ _ _ _ _ _ _ _ _ _ _ _ _)
   | (with_reducible exact ih1 _ _ _ _ _ _ _ _ _ _ _ _ _)
   | (with_reducible exact cupelref20_number.mono _ _)
   | (with_reducible exact LeO.refl _)
   | (with_reducible exact LeO.none _)
   | (with_reducible refine LeO.ite ?_ ?_)
   | (with_reducible refine LeO.bind ?_ (fun _ => ?_))
   | exact LeO.none _
   | refine LeO.ite ?_ ?_
   | refine LeO.bind ?_ (fun _ => ?_)
  intro y0 y1 y2 y3 y4 y5 y6 y7 y8 y9 y10 y11 y12
  unfold cupelref20_Line.j1
  repeat' first
  | (with_reducible exact ih0 _ _ _ _ _ _ _ _ _ _ _ _ _)
  | (with_reducible exact ih1 _ _ _ _ _ _ _ _ _ _ _ _ _)
  | (with_reducible exact cupelref20_number.mono _ _)
  | (with_reducible exact LeO.refl _)
  | (with_reducible exact LeO.none _)
  | (with_reducible refine LeO.ite ?_ ?_)
  | (with_reducible refine LeO.bind ?_ (fun _ => ?_))
  | exact LeO.none _
  | refine LeO.ite ?_ ?_
  | refine LeO.bind ?_ (fun _ => ?_)
theorem cupelref20_Line.mono : ∀ a0 a1 a2 a3 a4 k, LeO (cupelref20_Line.f k a0 a1 a2 a3 a4) (cupelref20_Line.f (k + 1) a0 a1 a2 a3 a4) := by
 intro a0 a1 a2 a3 a4 k
 obtain ⟨ih0, ih1⟩ := cupelref20_Line.mono_l k
 unfold cupelref20_Line.f
 repeat' first
   | (with_reducible exact ih0 _ _ _ _ _ _ _ _ _ _ _ _ _)
   | (with_reducible exact ih1 _ _ _ _ _ _ _ _ _ _ _ _ _)
   | (with_reducible exact cupelref20_number.mono _ _)
   | (with_reducible exact LeO.refl _)
   | (with_reducible exact LeO.none _)
   | (with_reducible refine LeO.ite ?_ ?_)
   | (with_reducible refine LeO.bind ?_ (fun _ => ?_))
   | exact LeO.none _
   | refine LeO.ite ?_ ?_
   | refine LeO.bind ?_ (fun _ => ?_)
end Go.Proofs.YtlaijeeeblcinaaDoor.A
