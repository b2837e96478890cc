/- Written by wip/tools/xprint.py, a program of this session that drives the kit's printer. Not trusted: Lean checks it. -/
import Derived.Test.YtlaijeeeblcinaaDoorAx0
import Derived.Test.YtlaijeeeblcinaaDoorBx2
import Derived.Test.YtlaijeeeblcinaaDoorProg
import Derived.Below
import Derived.Deep.Draws
import Derived.Deep.AppendLies
import Derived.Maps.AppendAt
import Derived.OwnWalk
import Derived.Laws.BytesArg
import Derived.Laws.MakeOwn
import Derived.Laws.OwnMore
import Derived.Deep.OwnRows
import Derived.Tactics
import Derived.Lib.ConvBytes
import Derived.Laws.Slices
import Derived.WalkKit
import Derived.KernelRfl
import Derived.RowKit3
import Derived.Deep.LoopGhost
import Derived.Deep.QuietTactic
import Derived.BigQuiet
import Derived.WideLaws
import Derived.Deep.DeepCutAuto
import Derived.Deep.CutBlock
import Derived.Deep.RegionHeld3
import Derived.Laws.Rows
import Derived.Lib.AppendStr
import Derived.ArgAppend
import Derived.Laws.IdiomCopy
import Derived.OrdersHeld
import Derived.Laws.BitsLemmas
import Derived.RowKit
import Derived.WalkSpells
import Derived.Test.YtlaijeeeblcinaaDoorWAll
set_option linter.all false
namespace Go.Proofs.YtlaijeeeblcinaaDoor.A
open Go.RowKit Go.Proofs.YtlaijeeeblcinaaDoorW.PrintWords Go.Proofs.YtlaijeeeblcinaaDoorW.PrintLast Go.Proofs.YtlaijeeeblcinaaDoorW.PrintMore
attribute [local go_sem] max2_int min2_int max_two min_two max_three min_three max_four min_four   -- for this text's walks alone
set_option linter.unusedVariables false
set_option linter.unusedSimpArgs false
end Go.Proofs.YtlaijeeeblcinaaDoor.A
namespace Go.Proofs.YtlaijeeeblcinaaDoor.A
open Go.RowKit Go.Proofs.YtlaijeeeblcinaaDoorW.PrintWords Go.Proofs.YtlaijeeeblcinaaDoorW.PrintLast Go.Proofs.YtlaijeeeblcinaaDoorW.PrintMore
attribute [local go_sem] max2_int min2_int max_two min_two max_three min_three max_four min_four   -- for this text's walks alone
set_option linter.unusedVariables false
set_option linter.unusedSimpArgs false
end Go.Proofs.YtlaijeeeblcinaaDoor.A
