/- TargetEncodes in plain Lean. -/
import Derived.Test.YtlaijeeeblcinaaDoorLd
import Derived.Test.YtlaijeeeblcinaaDoorBx4
set_option linter.all false
set_option linter.unusedVariables false
set_option linter.unusedSimpArgs false
set_option maxRecDepth 100000
namespace Go.Proofs.YtlaijeeeblcinaaDoor.A
open Go.RowKit Go.Proofs.YtlaijeeeblcinaaDoorW.PrintWords
theorem words_app (l : List Int) (hl : l.length ≤ 1000000) (a b c d e : Int) (ws : List Int) (h : target_words.f [] a b c d e = some ws) : target_words.f l a b c d e = some (l ++ ws) := by
 unfold target_words.f at h ⊢
 by_cases c3 : a = 3
 ·rw [if_pos c3] at h ⊢
  simp only [Option.bind_some, List.length_cons, List.length_nil, List.nil_append] at h ⊢
  rw [if_pos (by omega)] at h
  rw [if_pos (by omega)]
  cases h; rfl
 ·rw [if_neg c3] at h ⊢
  simp only [List.length_nil, List.nil_append] at h ⊢
  rw [if_pos (by omega)] at h
  rw [if_pos (by omega)]
  cases h; rfl
end Go.Proofs.YtlaijeeeblcinaaDoor.A
