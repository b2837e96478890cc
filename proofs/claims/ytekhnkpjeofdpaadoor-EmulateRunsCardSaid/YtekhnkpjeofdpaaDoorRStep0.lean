/- The reference's machine (cupelref23): Step: the contract over the same plain machine. -/
import Derived.Test.YtekhnkpjeofdpaaDoorRMac
import Derived.Test.YtekhnkpjeofdpaaDoorMacStep2
import Derived.Deep.RegionWith
import Derived.StillTailTactics
set_option linter.unusedVariables false
set_option maxRecDepth 100000
namespace Go.Proofs.YtekhnkpjeofdpaaDoor.A
open Go.RowKit Go.Proofs.YtekhnkpjeofdpaaDoorW.PrintWords Go.Proofs.YtekhnkpjeofdpaaDoorW.PrintLast Go.Proofs.YtekhnkpjeofdpaaDoorW.PrintMore
set_option maxHeartbeats 40000000
theorem withDepth_id (m : Mac) (h : m.depth = (m.kept.length : Int)) : withDepth m = m := by unfold withDepth; rw [← h]
end Go.Proofs.YtekhnkpjeofdpaaDoor.A
