/- Written by wip/tools/xprint.py, a program of this session that drives the kit's printer. Not trusted: Lean checks it. -/
import Derived.Test.YtlaijeeeblcinaaDoorDx1
import Derived.Test.YtlaijeeeblcinaaDoorAx12
import Derived.Test.YtlaijeeeblcinaaDoorBx3
import Derived.Test.YtlaijeeeblcinaaDoorEv2
import Derived.Test.YtlaijeeeblcinaaDoorPr3
set_option linter.all false
namespace Go.Proofs.YtlaijeeeblcinaaDoor.A
open Go.RowKit Go.Proofs.YtlaijeeeblcinaaDoorW.PrintWords Go.Proofs.YtlaijeeeblcinaaDoorW.PrintLast Go.Proofs.YtlaijeeeblcinaaDoorW.PrintMore
attribute [local go_sem] max2_int min2_int max_two min_two max_three min_three max_four min_four   -- for this text's walks alone
set_option linter.unusedVariables false
set_option linter.unusedSimpArgs false
/-! ### cupellaw20_TargetCanon: function 8 -/
def cupellaw20_TargetCanon.f (k : Nat) (a0 : ByteArray) : Option (Bool) := if (a0.size : Int) > 5000 then ((cupellaw20_awake.f k).bind fun t162 => (some t162)) else ((et_Parse.f k a0).bind fun bt163 => (if bt163.2.2.2.2 = 0 then ((target_Print.f k bt163.1 bt163.2.1 bt163.2.2.1).bind fun bt174 => ((et_Parse.f k bt174.1).bind fun bt176 => ((target_Print.f k bt176.1 bt176.2.1 bt176.2.2.1).bind fun bt186 => (if bt163.2.2.2.1 = 0 then ((et_Check.f k bt163.1 bt163.2.1 bt163.2.2.1).bind fun t188 => (if t188 = 0 then (if bt174.2 = 0 then (if bt176.2.2.2.2 = 0 then (if bt186.2 = 0 then ((cupelref20_Same.f k bt163.1 bt163.2.1 bt163.2.2.1 bt176.1 bt176.2.1 bt176.2.2.1).bind fun t189 => (if t189 = true then (if bt174.1.toList = bt186.1.toList then ((cupellaw20_awake.f k).bind fun t190 => (some t190)) else (none)) else (none))) else (none)) else (none)) else (none)) else (none))) else (none))))) else (if bt163.2.2.2.1 ≥ 0 then (if bt163.2.2.2.1 ≤ (a0.size : Int) then (if (bt163.1.length : Int) = 0 then ((cupellaw20_awake.f k).bind fun t173 => (some t173)) else (none)) else (none)) else (none))))
end Go.Proofs.YtlaijeeeblcinaaDoor.A
