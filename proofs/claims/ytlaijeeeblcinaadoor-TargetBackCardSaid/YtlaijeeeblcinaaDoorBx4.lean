/- Written by wip/tools/xprint.py, a program of this session that drives the kit's printer. Not trusted: Lean checks it. -/
import Derived.Test.YtlaijeeeblcinaaDoorBx2
import Derived.Test.YtlaijeeeblcinaaDoorBx3
import Derived.Test.YtlaijeeeblcinaaDoorAx2
import Derived.Test.YtlaijeeeblcinaaDoorEv2
set_option linter.all false
namespace Go.Proofs.YtlaijeeeblcinaaDoor.A
open Go.RowKit Go.Proofs.YtlaijeeeblcinaaDoorW.PrintWords Go.Proofs.YtlaijeeeblcinaaDoorW.PrintLast Go.Proofs.YtlaijeeeblcinaaDoorW.PrintMore
attribute [local go_sem] max2_int min2_int max_two min_two max_three min_three max_four min_four   -- for this text's walks alone
set_option linter.unusedVariables false
set_option linter.unusedSimpArgs false
/-! ### cupellaw20_TargetEncodes: function 3 -/
def cupellaw20_TargetEncodes.l0 : Nat → List (S26) → Int → Option (Bool)
 | 0, _, _ => none
 | k + 1, x0, x3 => if x3 < (x0.length : Int) then (if 0 ≤ x3 then ((et_Valid.f ((rd_T26 x0 x3).f0) ((rd_T26 x0 x3).f1) ((rd_T26 x0 x3).f2) ((rd_T26 x0 x3).f3) ((rd_T26 x0 x3).f4)).bind fun t169 => ((cupelref20_Valid.f ((rd_T26 x0 x3).f0) ((rd_T26 x0 x3).f1) ((rd_T26 x0 x3).f2) ((rd_T26 x0 x3).f3) ((rd_T26 x0 x3).f4)).bind fun t171 => (if (t169 != t171) = true then (none) else (cupellaw20_TargetEncodes.l0 k x0 (wrap64 (x3 + 1)))))) else (none)) else ((target_Encode.f k x0).bind fun bt172 => ((cupelref20_Encode.f k x0).bind fun bt176 => ((cupellaw20_sameWords.f k bt172.1 bt176.1).bind fun t180 => (if t180 = true then (if bt172.2 = bt176.2 then ((cupellaw20_awake.f k).bind fun t181 => (some t181)) else (none)) else (none)))))
def cupellaw20_TargetEncodes.f (k : Nat) (l0 : List (S26)) : Option (Bool) := if (l0.length : Int) > 300 then ((cupellaw20_awake.f k).bind fun t167 => (some t167)) else (cupellaw20_TargetEncodes.l0 k l0 0)
theorem cupellaw20_TargetEncodes.mono_l : ∀ k, (∀ y0 y1, LeO (cupellaw20_TargetEncodes.l0 k y0 y1) (cupellaw20_TargetEncodes.l0 (k + 1) y0 y1))
 | 0 => fun _ _ r h => by simp [cupellaw20_TargetEncodes.l0] at h
 | k + 1 => by
  have ih0 := cupellaw20_TargetEncodes.mono_l k
  ·intro y0 y1
   unfold cupellaw20_TargetEncodes.l0
   repeat' first
   | (with_reducible exact ih0 _ _)
   | (with_reducible exact cupellaw20_awake.mono _)
   | (with_reducible exact cupellaw20_sameWords.mono _ _ _)
   | (with_reducible exact cupelref20_Encode.mono _ _)
   | (with_reducible exact target_Encode.mono _ _)
   | (with_reducible exact LeO.refl _)
   | (with_reducible exact LeO.none _)
   | (with_reducible refine LeO.ite ?_ ?_)
   | (with_reducible refine LeO.bind ?_ (fun _ => ?_))
   | exact LeO.none _
   | refine LeO.ite ?_ ?_
   | refine LeO.bind ?_ (fun _ => ?_)
end Go.Proofs.YtlaijeeeblcinaaDoor.A
