/- Written by wip/tools/xprint.py, a program of this session that drives the kit's printer. Not trusted: Lean checks it. -/
import Derived.Test.YtndennmpnomjnaaDoorBx0
import Derived.Test.YtndennmpnomjnaaDoorBx1
import Derived.Test.YtndennmpnomjnaaDoorAx3
import Derived.Test.YtndennmpnomjnaaDoorAx8
import Derived.Test.YtndennmpnomjnaaDoorKy
set_option linter.all false
namespace Go.Proofs.YtndennmpnomjnaaDoor.A
open Go.RowKit Go.Proofs.YtndennmpnomjnaaDoorW.PrintWords Go.Proofs.YtndennmpnomjnaaDoorW.PrintLast Go.Proofs.YtndennmpnomjnaaDoorW.PrintMore
attribute [local go_sem] max2_int min2_int max_two min_two max_three min_three max_four min_four   -- for this text's walks alone
set_option linter.unusedVariables false
set_option linter.unusedSimpArgs false
/-! ### cupellaw35_GroupsKeys: function 3 -/
def cupellaw35_GroupsKeys.f (k : Nat) (l0 : List (S45)) (a1 : Int) : Option (Bool) := (cupellaw35_shown.f k).bind fun t135 => (if t135 = true then ((cupellaw35_great.f k l0).bind fun t136 => (if t136 = true then (some true) else ((groups_Key.f k l0 a1).bind fun bt137 => ((cupelref35_Key.f k l0 a1).bind fun bt139 => (if bt137.1.toList = bt139.1.toList then (some (bt137.2 == bt139.2)) else (none)))))) else (none))
theorem cupellaw35_GroupsKeys.mono : ∀ a0 a1 k, LeO (cupellaw35_GroupsKeys.f k a0 a1) (cupellaw35_GroupsKeys.f (k + 1) a0 a1) := by
 intro a0 a1 k
 unfold cupellaw35_GroupsKeys.f
 repeat' first
   | (with_reducible exact cupellaw35_great.mono _ _)
   | (with_reducible exact cupellaw35_shown.mono _)
   | (with_reducible exact cupelref35_Key.mono _ _ _)
   | (with_reducible exact groups_Key.mono _ _ _)
   | (with_reducible exact LeO.refl _)
   | (with_reducible exact LeO.none _)
   | (with_reducible refine LeO.ite ?_ ?_)
   | (with_reducible refine LeO.bind ?_ (fun _ => ?_))
   | exact LeO.none _
   | refine LeO.ite ?_ ?_
   | refine LeO.bind ?_ (fun _ => ?_)
end Go.Proofs.YtndennmpnomjnaaDoor.A
