/- TargetDecodes in plain Lean. -/
import Derived.Test.YtlaijeeeblcinaaDoorRk
import Derived.Test.YtlaijeeeblcinaaDoorBx5
set_option linter.all false
set_option linter.unusedVariables false
set_option linter.unusedSimpArgs false
set_option maxRecDepth 100000
namespace Go.Proofs.YtlaijeeeblcinaaDoor.A
open Go.RowKit Go.Proofs.YtlaijeeeblcinaaDoorW.PrintWords
theorem awake_30 : cupellaw20_awake.f 30 = some true := by decide +kernel
theorem awake_ge (k : Nat) (h : 30 ≤ k) : cupellaw20_awake.f k = some true := by
 obtain ⟨d, rfl⟩ : ∃ d, k = 30 + d := ⟨k - 30, by omega⟩
 clear h
 induction d with
 | zero => exact awake_30
 | succ d ih => exact cupellaw20_awake.mono _ _ ih
end Go.Proofs.YtlaijeeeblcinaaDoor.A
