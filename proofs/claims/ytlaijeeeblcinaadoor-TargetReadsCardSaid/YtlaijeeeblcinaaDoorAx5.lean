/- Written by wip/tools/xprint.py, a program of this session that drives the kit's printer. Not trusted: Lean checks it. -/
import Derived.Test.YtlaijeeeblcinaaDoorAx0
set_option linter.all false
set_option maxHeartbeats 8000000
set_option maxRecDepth 100000
namespace Go.Proofs.YtlaijeeeblcinaaDoor.A
open Go.RowKit Go.Proofs.YtlaijeeeblcinaaDoorW.PrintWords Go.Proofs.YtlaijeeeblcinaaDoorW.PrintLast Go.Proofs.YtlaijeeeblcinaaDoorW.PrintMore
attribute [local go_sem] max2_int min2_int max_two min_two max_three min_three max_four min_four   -- for this text's walks alone
set_option linter.unusedVariables false
set_option linter.unusedSimpArgs false
/-! ### cupelref20_integer: function 83 -/
def cupelref20_integer.l0 : Nat → ByteArray → Bool → Int → Int → Option (Int × Bool)
 | 0, _, _, _, _ => none
 | k + 1, x0, x1, x6, x7 => if x7 < (x0.size : Int) then (if 0 ≤ x7 then (if x6 < (Int.tdiv ((-9223372036854775808) + (((bt x0 x7) - 48) % 256)) 10) then (some (0, false)) else (cupelref20_integer.l0 k x0 x1 (wrap64 ((wrap64 (10 * x6)) - (((bt x0 x7) - 48) % 256))) (wrap64 (x7 + 1)))) else (none)) else (if x1 = true then (some (x6, true)) else (some (wrap64 (-x6), (x6 != (-9223372036854775808)))))
def cupelref20_integer.f (k : Nat) (a0 : ByteArray) (a1 : Bool) : Option (Int × Bool) := cupelref20_integer.l0 k a0 a1 0 0
theorem cupelref20_integer.mono_l : ∀ k, (∀ y0 y1 y2 y3, LeO (cupelref20_integer.l0 k y0 y1 y2 y3) (cupelref20_integer.l0 (k + 1) y0 y1 y2 y3))
 | 0 => fun _ _ _ _ r h => by simp [cupelref20_integer.l0] at h
 | k + 1 => by
  have ih0 := cupelref20_integer.mono_l k
  ·intro y0 y1 y2 y3
   unfold cupelref20_integer.l0
   repeat' first
   | (with_reducible exact ih0 _ _ _ _)
   | (with_reducible exact LeO.refl _)
   | (with_reducible exact LeO.none _)
   | (with_reducible refine LeO.ite ?_ ?_)
   | (with_reducible refine LeO.bind ?_ (fun _ => ?_))
   | exact LeO.none _
   | refine LeO.ite ?_ ?_
   | refine LeO.bind ?_ (fun _ => ?_)
theorem cupelref20_integer.mono : ∀ a0 a1 k, LeO (cupelref20_integer.f k a0 a1) (cupelref20_integer.f (k + 1) a0 a1) := by
 intro a0 a1 k
 have ih0 := cupelref20_integer.mono_l k
 unfold cupelref20_integer.f
 repeat' first
   | (with_reducible exact ih0 _ _ _ _)
   | (with_reducible exact LeO.refl _)
   | (with_reducible exact LeO.none _)
   | (with_reducible refine LeO.ite ?_ ?_)
   | (with_reducible refine LeO.bind ?_ (fun _ => ?_))
   | exact LeO.none _
   | refine LeO.ite ?_ ?_
   | refine LeO.bind ?_ (fun _ => ?_)
theorem cupelref20_integer.calls (k : Nat) (a0 : ByteArray) (a1 : Bool) (r1 : Int) (r2 : Bool) (w : World) (h : cupelref20_integer.f k a0 a1 = some (r1, r2)) :
  Calls Tryd.prog 83 #[.string a0, .bool a1] w fun e w' => e = .returned (.tuple #[.int .i64 r1, .bool r2]) ∧ Drawn0 w w' := by
 have H : (cupelref20_integer.l0 k a0 a1 0 0) = some (r1, r2) := h
 clear h
 have H' := Aside0.mk H
 clear H
 go_enter Tryd.func83, Tryd.ntmps83
 go_wp2
 go_loopg [6, 7] k (fun kq v6 v7 w' => ∃ (x6_1 : Int) (x7_1 : Int), v6 = .int .i64 x6_1 ∧ v7 = .int .i64 x7_1 ∧ Aside0 (cupelref20_integer.l0 kq a0 a1 x6_1 x7_1 = some (r1, r2)) ∧ Aside0 (kq ≤ k) ∧ Drawn0 w w')
 case atStart => exact ⟨(0), (0), ts51_, ts51_, H', ⟨Nat.le_refl _⟩, ts27_⟩
 case round =>
  clear H'
  try clear p2
  obtain ⟨x6_1, x7_1, rfl, rfl, HA, HK1, ⟨m1, rfl⟩⟩ := hrel
  cases gk with
  | zero => exact absurd HA.out (by simp [cupelref20_integer.l0])
  | succ k1 =>
   have H := HA.out
   clear HA
   simp only [cupelref20_integer.l0] at H
   by_cases c3 : x7_1 < (a0.size : Int)
   ·rw [if_pos c3] at H
    have c3b0 : decide (x7_1 < (a0.size : Int)) = true := decide_eq_true c3
    clear c3
    by_cases c4 : 0 ≤ x7_1
    ·rw [if_pos c4] at H
     have c4b0 : decide (0 ≤ x7_1) = true := decide_eq_true c4
     clear c4
     by_cases c6 : x6_1 < (Int.tdiv ((-9223372036854775808) + (((bt a0 x7_1) - 48) % 256)) 10)
     ·rw [if_pos c6] at H
      have c6b0 : decide (x6_1 < (Int.tdiv ((-9223372036854775808) + (((bt a0 x7_1) - 48) % 256)) 10)) = true := decide_eq_true c6
      clear c6
      simp only [Option.some.injEq, Prod.mk.injEq] at H
      obtain ⟨rfl, rfl⟩ := H
      have p5 : 0 ≤ (x7_1 : Int) := of_decide_eq_true ts37_
      have q5 : x7_1 < (a0.size : Int) := of_decide_eq_true ts37_
      have hx5 := bt_at a0 x7_1
      replace p5 := eq_true p5
      replace q5 := eq_true q5
      go_wp2
      go_ret2
      exact ⟨ts51_, ts27_⟩
     rw [if_neg c6] at H
     have c6b0 : decide (x6_1 < (Int.tdiv ((-9223372036854775808) + (((bt a0 x7_1) - 48) % 256)) 10)) = false := decide_eq_false c6
     clear c6
     have H' := Aside0.mk H
     clear H
     have p5 : 0 ≤ (x7_1 : Int) := of_decide_eq_true ts37_
     have q5 : x7_1 < (a0.size : Int) := of_decide_eq_true ts37_
     have hx5 := bt_at a0 x7_1
     replace p5 := eq_true p5
     replace q5 := eq_true q5
     go_wp2
     go_roundg k1
     case measure => have := HK1.out; omega
     case rel => exact ⟨(wrap64 ((wrap64 (10 * x6_1)) - (((bt a0 x7_1) - 48) % 256))), (wrap64 (x7_1 + 1)), ts51_, ts51_, H', ⟨by have := HK1.out; omega⟩, ts27_⟩
    rw [if_neg c4] at H
    exact absurd H (by simp)
   rw [if_neg c3] at H
   have c3b0 : decide (x7_1 < (a0.size : Int)) = false := decide_eq_false c3
   clear c3
   by_cases c7 : a1 = true
   ·subst c7
    rw [if_pos rfl] at H
    simp only [Option.some.injEq, Prod.mk.injEq] at H
    obtain ⟨rfl, rfl⟩ := H
    go_wp2
    go_ret2
    exact ⟨ts51_, ts27_⟩
   replace c7 := Bool.eq_false_iff.mpr c7
   subst c7
   rw [if_neg Bool.false_ne_true] at H
   simp only [Option.some.injEq, Prod.mk.injEq] at H
   obtain ⟨rfl, rfl⟩ := H
   go_wp2
   go_ret2
   exact ⟨ts51_, ts27_⟩
end Go.Proofs.YtlaijeeeblcinaaDoor.A
