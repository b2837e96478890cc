/- Written by wip/tools/xprint.py, a program of this session that drives the kit's printer. Not trusted: Lean checks it. -/
import Derived.Test.YtlaijeeeblcinaaDoorBx2
import Derived.Test.YtlaijeeeblcinaaDoorBx3
import Derived.Test.YtlaijeeeblcinaaDoorAx3
import Derived.Test.YtlaijeeeblcinaaDoorAx4
import Derived.Test.YtlaijeeeblcinaaDoorEv2
set_option linter.all false
namespace Go.Proofs.YtlaijeeeblcinaaDoor.A
open Go.RowKit Go.Proofs.YtlaijeeeblcinaaDoorW.PrintWords Go.Proofs.YtlaijeeeblcinaaDoorW.PrintLast Go.Proofs.YtlaijeeeblcinaaDoorW.PrintMore
attribute [local go_sem] max2_int min2_int max_two min_two max_three min_three max_four min_four   -- for this text's walks alone
set_option linter.unusedVariables false
set_option linter.unusedSimpArgs false
attribute [local go_sem high] eqA26
/-! ### cupellaw20_TargetDecodes: function 4 -/
def cupellaw20_TargetDecodes.j0 : Nat → Int → Bool → List Int → List Int → Int → Option (Bool)
 | 0, _, _, _, _, _ => none
 | k + 1, x1, x20, x183000, x183001, x183002 => if x20 = true then ((cupellaw20_awake.f k).bind fun t183 => (some t183)) else ((et_Decode.f k x183000 x1).bind fun bt184 => ((cupelref20_Decode.f k x183000 x1).bind fun bt192 => (if (bt184.1 == bt192.1 && (bt184.2.1 == bt192.2.1 && (bt184.2.2.1 == bt192.2.2.1 && (bt184.2.2.2.1 == bt192.2.2.2.1 && (bt184.2.2.2.2.1 == bt192.2.2.2.2.1))))) = true then (if bt184.2.2.2.2.2.1 = bt192.2.2.2.2.2.1 then (if bt184.2.2.2.2.2.2 = bt192.2.2.2.2.2.2 then ((et_Check.f k x183000 x183001 x183002).bind fun t200 => ((cupelref20_Check.f k x183000 x183001 x183002).bind fun t201 => (if t200 = t201 then ((cupellaw20_awake.f k).bind fun t202 => (some t202)) else (none)))) else (none)) else (none)) else (none))))
def cupellaw20_TargetDecodes.f (k : Nat) (l0_0 : List Int) (l0_1 : List Int) (a0_2 : Int) (a1 : Int) : Option (Bool) := if (l0_0.length : Int) > 400 then (cupellaw20_TargetDecodes.j0 k a1 true l0_0 l0_1 a0_2) else (cupellaw20_TargetDecodes.j0 k a1 (decide ((l0_1.length : Int) > 30000)) l0_0 l0_1 a0_2)
theorem cupellaw20_TargetDecodes.mono_l : ∀ k, (∀ y0 y1 y2 y3 y4, LeO (cupellaw20_TargetDecodes.j0 k y0 y1 y2 y3 y4) (cupellaw20_TargetDecodes.j0 (k + 1) y0 y1 y2 y3 y4))
 | 0 => fun _ _ _ _ _ r h => by simp [cupellaw20_TargetDecodes.j0] at h
 | k + 1 => by
  have ih0 := cupellaw20_TargetDecodes.mono_l k
  ·intro y0 y1 y2 y3 y4
   unfold cupellaw20_TargetDecodes.j0
   repeat' first
   | (with_reducible exact ih0 _ _ _ _ _)
   | (with_reducible exact cupellaw20_awake.mono _)
   | (with_reducible exact cupelref20_Check.mono _ _ _ _)
   | (with_reducible exact cupelref20_Decode.mono _ _ _)
   | (with_reducible exact et_Check.mono _ _ _ _)
   | (with_reducible exact et_Decode.mono _ _ _)
   | (with_reducible exact LeO.refl _)
   | (with_reducible exact LeO.none _)
   | (with_reducible refine LeO.ite ?_ ?_)
   | (with_reducible refine LeO.bind ?_ (fun _ => ?_))
   | exact LeO.none _
   | refine LeO.ite ?_ ?_
   | refine LeO.bind ?_ (fun _ => ?_)
end Go.Proofs.YtlaijeeeblcinaaDoor.A
