/- TargetDecodes in plain Lean. -/
import Derived.Test.YtlaijeeeblcinaaDoorEq
import Derived.Test.YtlaijeeeblcinaaDoorBx5
set_option linter.all false
set_option linter.unusedVariables false
set_option linter.unusedSimpArgs false
set_option maxRecDepth 100000
namespace Go.Proofs.YtlaijeeeblcinaaDoor.A
open Go.RowKit Go.Proofs.YtlaijeeeblcinaaDoorW.PrintWords
theorem awake_30 : cupellaw20_awake.f 30 = some true := by decide +kernel
theorem awake_ge (k : Nat) (h : 30 ≤ k) : cupellaw20_awake.f k = some true := by
  obtain ⟨d, rfl⟩ : ∃ d, k = 30 + d := ⟨k - 30, by omega⟩
  clear h
  induction d with
  | zero => exact awake_30
  | succ d ih => exact cupellaw20_awake.mono _ _ ih
theorem decodes (code data : List Int) (e a : Int) : cupellaw20_TargetDecodes.f 601 code data e a = some true := by
  have A := awake_ge 600 (by omega)
  have hj : ∀ b : Bool, (b = false → code.length ≤ 400) → cupellaw20_TargetDecodes.j0 601 a b code data e = some true := by
    intro b hb
    show (if b = true then _ else _) = _
    cases b with
    | true => rw [if_pos rfl, A]; rfl
    | false =>
      have hl := hb rfl
      rw [if_neg (by decide)]
      obtain ⟨t, ht, _⟩ := decode_total 600 code (by omega) a (by omega)
      have ht2 : cupelref20_Decode.f 600 code a = some t := (decode_ref 580 579 code (by omega) a).trans ht
      obtain ⟨c, hc, _⟩ := check_total code data e hl 600 (by omega)
      have hc2 := check_ref code data e c hl 600 600 (by omega) (by omega) hc
      unfold et_Decode.f et_Check.f
      rw [ht, ht2]
      simp only [Option.bind_some, beq_self_eq_true, Bool.and_self, if_true]
      rw [hc, hc2]
      simp only [Option.bind_some, if_true]
      rw [A]; rfl
  unfold cupellaw20_TargetDecodes.f
  by_cases h : (code.length : Int) > 400
  · rw [if_pos h]; exact hj true (fun h => by cases h)
  · rw [if_neg h]; exact hj _ (fun _ => by omega)
end Go.Proofs.YtlaijeeeblcinaaDoor.A
