/- What a law's row hands the code, opened by the values' own types: whole numbers, booleans, strings, slices and structs, nested as they like: each type's reader of cells (Kd) and what is known of its numbers. -/
import Derived.Test.YtlaijeeeblcinaaDoorWAll
import Derived.OpenShut
import Derived.ShutString
import Derived.ChangeOld
import Derived.Below
set_option linter.all false
set_option linter.unusedVariables false
namespace Go.Proofs.YtlaijeeeblcinaaDoor.RowKd
open Go.ChangeShapes Go.WideShapes Go.RowKit Go.Proofs.YtlaijeeeblcinaaDoorW.PrintWords
end Go.Proofs.YtlaijeeeblcinaaDoor.RowKd
