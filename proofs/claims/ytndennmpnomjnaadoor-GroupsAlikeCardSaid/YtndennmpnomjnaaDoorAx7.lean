/- Written by wip/tools/xprint.py, a program of this session that drives the kit's printer. Not trusted: Lean checks it. -/
import Derived.Test.YtndennmpnomjnaaDoorAx0
import Derived.Test.YtndennmpnomjnaaDoorAx6
set_option linter.all false
namespace Go.Proofs.YtndennmpnomjnaaDoor.A
open Go.RowKit Go.Proofs.YtndennmpnomjnaaDoorW.PrintWords Go.Proofs.YtndennmpnomjnaaDoorW.PrintLast Go.Proofs.YtndennmpnomjnaaDoorW.PrintMore
attribute [local go_sem] max2_int min2_int max_two min_two max_three min_three max_four min_four   -- for this text's walks alone
set_option linter.unusedVariables false
set_option linter.unusedSimpArgs false
/-! ### cupelref35_part: function 30 -/
def cupelref35_part.f (k : Nat) (l0 : List (S45)) (a1_0 : Int) (a1_1 : Int) (a1_2 : Int) (a1_3 : Int) : Option (ByteArray) := if 0 ≤ a1_0 then (if a1_0 < (l0.length : Int) then (if 0 ≤ a1_1 then (if a1_1 < (l0.length : Int) then ((cupelref35_Bare.f k ((rd_T45 l0 a1_0).f0)).bind fun t231 => (if t231.size + 2 ≤ 9223372036854775807 then ((cupelref35_Bare.f k ((rd_T45 l0 a1_1).f0)).bind fun t232 => (if (t231 ++ (⟨#[44, 32]⟩ : ByteArray)).size + t232.size ≤ 9223372036854775807 then (if ((t231 ++ (⟨#[44, 32]⟩ : ByteArray)) ++ t232).size + 2 ≤ 9223372036854775807 then (if a1_2 = 1 then (if (((t231 ++ (⟨#[44, 32]⟩ : ByteArray)) ++ t232) ++ (⟨#[58, 32]⟩ : ByteArray)).size + 3 ≤ 9223372036854775807 then (some ((((t231 ++ (⟨#[44, 32]⟩ : ByteArray)) ++ t232) ++ (⟨#[58, 32]⟩ : ByteArray)) ++ (⟨#[111, 117, 116]⟩ : ByteArray))) else (none)) else (if a1_2 = 2 then (if (((t231 ++ (⟨#[44, 32]⟩ : ByteArray)) ++ t232) ++ (⟨#[58, 32]⟩ : ByteArray)).size + 4 ≤ 9223372036854775807 then (some ((((t231 ++ (⟨#[44, 32]⟩ : ByteArray)) ++ t232) ++ (⟨#[58, 32]⟩ : ByteArray)) ++ (⟨#[109, 111, 114, 101]⟩ : ByteArray))) else (none)) else (if a1_2 = 3 then (if (((t231 ++ (⟨#[44, 32]⟩ : ByteArray)) ++ t232) ++ (⟨#[58, 32]⟩ : ByteArray)).size + 4 ≤ 9223372036854775807 then ((cupelref35_end.f k ((rd_T45 l0 a1_0).f1.f0) ((rd_T45 l0 a1_0).f1.f1) ((rd_T45 l0 a1_0).f1.f2)).bind fun t233 => (if ((((t231 ++ (⟨#[44, 32]⟩ : ByteArray)) ++ t232) ++ (⟨#[58, 32]⟩ : ByteArray)) ++ (⟨#[101, 110, 100, 32]⟩ : ByteArray)).size + t233.size ≤ 9223372036854775807 then (if (((((t231 ++ (⟨#[44, 32]⟩ : ByteArray)) ++ t232) ++ (⟨#[58, 32]⟩ : ByteArray)) ++ (⟨#[101, 110, 100, 32]⟩ : ByteArray)) ++ t233).size + 3 ≤ 9223372036854775807 then ((cupelref35_end.f k ((rd_T45 l0 a1_1).f1.f0) ((rd_T45 l0 a1_1).f1.f1) ((rd_T45 l0 a1_1).f1.f2)).bind fun t234 => (if ((((((t231 ++ (⟨#[44, 32]⟩ : ByteArray)) ++ t232) ++ (⟨#[58, 32]⟩ : ByteArray)) ++ (⟨#[101, 110, 100, 32]⟩ : ByteArray)) ++ t233) ++ (⟨#[32, 47, 32]⟩ : ByteArray)).size + t234.size ≤ 9223372036854775807 then (some (((((((t231 ++ (⟨#[44, 32]⟩ : ByteArray)) ++ t232) ++ (⟨#[58, 32]⟩ : ByteArray)) ++ (⟨#[101, 110, 100, 32]⟩ : ByteArray)) ++ t233) ++ (⟨#[32, 47, 32]⟩ : ByteArray)) ++ t234)) else (none))) else (none)) else (none))) else (none)) else (if (((t231 ++ (⟨#[44, 32]⟩ : ByteArray)) ++ t232) ++ (⟨#[58, 32]⟩ : ByteArray)).size + 5 ≤ 9223372036854775807 then ((cupelref35_end.f k ((rd_T45 l0 a1_0).f1.f0) ((rd_T45 l0 a1_0).f1.f1) ((rd_T45 l0 a1_0).f1.f2)).bind fun t235 => (if ((((t231 ++ (⟨#[44, 32]⟩ : ByteArray)) ++ t232) ++ (⟨#[58, 32]⟩ : ByteArray)) ++ (⟨#[99, 111, 100, 101, 32]⟩ : ByteArray)).size + t235.size ≤ 9223372036854775807 then (if (((((t231 ++ (⟨#[44, 32]⟩ : ByteArray)) ++ t232) ++ (⟨#[58, 32]⟩ : ByteArray)) ++ (⟨#[99, 111, 100, 101, 32]⟩ : ByteArray)) ++ t235).size + 3 ≤ 9223372036854775807 then ((cupelref35_end.f k ((rd_T45 l0 a1_1).f1.f0) ((rd_T45 l0 a1_1).f1.f1) ((rd_T45 l0 a1_1).f1.f2)).bind fun t236 => (if ((((((t231 ++ (⟨#[44, 32]⟩ : ByteArray)) ++ t232) ++ (⟨#[58, 32]⟩ : ByteArray)) ++ (⟨#[99, 111, 100, 101, 32]⟩ : ByteArray)) ++ t235) ++ (⟨#[32, 47, 32]⟩ : ByteArray)).size + t236.size ≤ 9223372036854775807 then (some (((((((t231 ++ (⟨#[44, 32]⟩ : ByteArray)) ++ t232) ++ (⟨#[58, 32]⟩ : ByteArray)) ++ (⟨#[99, 111, 100, 101, 32]⟩ : ByteArray)) ++ t235) ++ (⟨#[32, 47, 32]⟩ : ByteArray)) ++ t236)) else (none))) else (none)) else (none))) else (none))))) else (none)) else (none))) else (none))) else (none)) else (none)) else (none)) else (none)
theorem cupelref35_part.mono : ∀ a0 a1 a2 a3 a4 k, LeO (cupelref35_part.f k a0 a1 a2 a3 a4) (cupelref35_part.f (k + 1) a0 a1 a2 a3 a4) := by
 intro a0 a1 a2 a3 a4 k
 unfold cupelref35_part.f
 repeat' first
   | (with_reducible exact cupelref35_Bare.mono _ _)
   | (with_reducible exact cupelref35_end.mono _ _ _ _)
   | (with_reducible exact LeO.refl _)
   | (with_reducible exact LeO.none _)
   | (with_reducible refine LeO.ite ?_ ?_)
   | (with_reducible refine LeO.bind ?_ (fun _ => ?_))
   | exact LeO.none _
   | refine LeO.ite ?_ ?_
   | refine LeO.bind ?_ (fun _ => ?_)
end Go.Proofs.YtndennmpnomjnaaDoor.A
