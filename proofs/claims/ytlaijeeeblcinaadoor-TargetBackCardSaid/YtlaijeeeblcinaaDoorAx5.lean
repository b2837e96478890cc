/- Written by wip/tools/xprint.py, a program of this session that drives the kit's printer. Not trusted: Lean checks it. -/
import Derived.Test.YtlaijeeeblcinaaDoorAx0
set_option linter.all false
namespace Go.Proofs.YtlaijeeeblcinaaDoor.A
open Go.RowKit Go.Proofs.YtlaijeeeblcinaaDoorW.PrintWords Go.Proofs.YtlaijeeeblcinaaDoorW.PrintLast Go.Proofs.YtlaijeeeblcinaaDoorW.PrintMore
attribute [local go_sem] max2_int min2_int max_two min_two max_three min_three max_four min_four   -- for this text's walks alone
set_option linter.unusedVariables false
set_option linter.unusedSimpArgs false
/-! ### cupelref20_integer: function 83 -/
def cupelref20_integer.l0 : Nat → ByteArray → Bool → Int → Int → Option (Int × Bool)
 | 0, _, _, _, _ => none
 | k + 1, x0, x1, x6, x7 => if x7 < (x0.size : Int) then (if 0 ≤ x7 then (if x6 < (Int.tdiv ((-9223372036854775808) + (((bt x0 x7) - 48) % 256)) 10) then (some (0, false)) else (cupelref20_integer.l0 k x0 x1 (wrap64 ((wrap64 (10 * x6)) - (((bt x0 x7) - 48) % 256))) (wrap64 (x7 + 1)))) else (none)) else (if x1 = true then (some (x6, true)) else (some (wrap64 (-x6), (x6 != (-9223372036854775808)))))
def cupelref20_integer.f (k : Nat) (a0 : ByteArray) (a1 : Bool) : Option (Int × Bool) := cupelref20_integer.l0 k a0 a1 0 0
theorem cupelref20_integer.mono_l : ∀ k, (∀ y0 y1 y2 y3, LeO (cupelref20_integer.l0 k y0 y1 y2 y3) (cupelref20_integer.l0 (k + 1) y0 y1 y2 y3))
 | 0 => fun _ _ _ _ r h => by simp [cupelref20_integer.l0] at h
 | k + 1 => by
  have ih0 := cupelref20_integer.mono_l k
  ·intro y0 y1 y2 y3
   unfold cupelref20_integer.l0
   repeat' first
   | (with_reducible exact ih0 _ _ _ _)
   | (with_reducible exact LeO.refl _)
   | (with_reducible exact LeO.none _)
   | (with_reducible refine LeO.ite ?_ ?_)
   | (with_reducible refine LeO.bind ?_ (fun _ => ?_))
   | exact LeO.none _
   | refine LeO.ite ?_ ?_
   | refine LeO.bind ?_ (fun _ => ?_)
theorem cupelref20_integer.mono : ∀ a0 a1 k, LeO (cupelref20_integer.f k a0 a1) (cupelref20_integer.f (k + 1) a0 a1) := by
 intro a0 a1 k
 have ih0 := cupelref20_integer.mono_l k
 unfold cupelref20_integer.f
 repeat' first
   | (with_reducible exact ih0 _ _ _ _)
   | (with_reducible exact LeO.refl _)
   | (with_reducible exact LeO.none _)
   | (with_reducible refine LeO.ite ?_ ?_)
   | (with_reducible refine LeO.bind ?_ (fun _ => ?_))
   | exact LeO.none _
   | refine LeO.ite ?_ ?_
   | refine LeO.bind ?_ (fun _ => ?_)
end Go.Proofs.YtlaijeeeblcinaaDoor.A
