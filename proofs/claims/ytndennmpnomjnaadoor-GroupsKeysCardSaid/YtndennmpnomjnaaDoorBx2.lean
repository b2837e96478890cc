/- Written by wip/tools/xprint.py, a program of this session that drives the kit's printer. Not trusted: Lean checks it. -/
import Derived.Test.YtndennmpnomjnaaDoorBx0
import Derived.Test.YtndennmpnomjnaaDoorBx1
import Derived.Test.YtndennmpnomjnaaDoorAx3
import Derived.Test.YtndennmpnomjnaaDoorAx8
import Derived.Test.YtndennmpnomjnaaDoorKy
set_option linter.all false
set_option maxHeartbeats 8000000
set_option maxRecDepth 100000
namespace Go.Proofs.YtndennmpnomjnaaDoor.A
open Go.RowKit Go.Proofs.YtndennmpnomjnaaDoorW.PrintWords Go.Proofs.YtndennmpnomjnaaDoorW.PrintLast Go.Proofs.YtndennmpnomjnaaDoorW.PrintMore
attribute [local go_sem] max2_int min2_int max_two min_two max_three min_three max_four min_four   -- for this text's walks alone
set_option linter.unusedVariables false
set_option linter.unusedSimpArgs false
/-! ### cupellaw35_GroupsKeys: function 3 -/
def cupellaw35_GroupsKeys.f (k : Nat) (l0 : List (S45)) (a1 : Int) : Option (Bool) := (cupellaw35_shown.f k).bind fun t135 => (if t135 = true then ((cupellaw35_great.f k l0).bind fun t136 => (if t136 = true then (some true) else ((groups_Key.f k l0 a1).bind fun bt137 => ((cupelref35_Key.f k l0 a1).bind fun bt139 => (if bt137.1.toList = bt139.1.toList then (some (bt137.2 == bt139.2)) else (none)))))) else (none))
theorem cupellaw35_GroupsKeys.mono : ∀ a0 a1 k, LeO (cupellaw35_GroupsKeys.f k a0 a1) (cupellaw35_GroupsKeys.f (k + 1) a0 a1) := by
 intro a0 a1 k
 unfold cupellaw35_GroupsKeys.f
 repeat' first
   | (with_reducible exact cupellaw35_great.mono _ _)
   | (with_reducible exact cupellaw35_shown.mono _)
   | (with_reducible exact cupelref35_Key.mono _ _ _)
   | (with_reducible exact groups_Key.mono _ _ _)
   | (with_reducible exact LeO.refl _)
   | (with_reducible exact LeO.none _)
   | (with_reducible refine LeO.ite ?_ ?_)
   | (with_reducible refine LeO.bind ?_ (fun _ => ?_))
   | exact LeO.none _
   | refine LeO.ite ?_ ?_
   | refine LeO.bind ?_ (fun _ => ?_)
theorem cupellaw35_GroupsKeys.calls (k : Nat) (A0 : Option Addr) (c0 : Nat) (l0 : List (S45)) (a1 : Int) (r : Bool) (w : World) (hr0 : Kd.C k45 w A0 l0.length l0) (hc0 : l0.length ≤ c0) (h : cupellaw35_GroupsKeys.f k l0 a1 = some r) (hE_ : Env w := by exact Env.below HEnv_.out (by repeat (first | (with_reducible first | exact HB.out | apply below_alloc | apply pw_below_drewN | apply below_drew1 | refine below_set ?_ (Aside0.out (by assumption))) | exact HB.out)) HEnv_.out.big) :
  Calls Tryd.prog 3 #[.slice A0 l0.length c0, .int .i64 a1] w fun e w' => e = .returned (.bool r) ∧ Below w.heap.size w w' := by
 have HEnv_ := Aside0.mk hE_
 clear hE_
 have HR0 := Aside0.mk hr0
 have HC0 := Aside0.mk hc0
 clear hr0 hc0
 have HB := Aside0.mk (Below.refl w.heap.size w)
 have H : ((cupellaw35_shown.f k).bind fun t135 => (if t135 = true then ((cupellaw35_great.f k l0).bind fun t136 => (if t136 = true then (some true) else ((groups_Key.f k l0 a1).bind fun bt137 => ((cupelref35_Key.f k l0 a1).bind fun bt139 => (if bt137.1.toList = bt139.1.toList then (some (bt137.2 == bt139.2)) else (none)))))) else (none))) = some r := h
 clear h
 obtain ⟨t135, A3, H⟩ := bsA_ H
 try dsimp only at H
 by_cases c4 : t135 = true
 ·subst c4
  rw [if_pos rfl] at H
  obtain ⟨t136, A5, H⟩ := bsA_ H
  try dsimp only at H
  by_cases c6 : t136 = true
  ·subst c6
   rw [if_pos rfl] at H
   obtain rfl := Option.some.inj H
   go_enter Tryd.func3, Tryd.ntmps3
   go_wp2_with (first | ((with_reducible refine gate_callee (f := 8) rfl ?_); refine goesL_ (some 9) rfl rfl Tryd.func8 (by kernel_rfl) rfl #[] rfl ts10_ ?_; (with_reducible refine (cupellaw35_shown.calls k  true _ A3.out).mono ?_); rintro e w7 ⟨rfl, hb⟩; refine ⟨_, rfl, ?_⟩; replace HB := Aside0.mk (below_step (ts41_ HB.out) hb); clear hb) | ((with_reducible refine gate_callee (f := 9) rfl ?_); refine goesL_ (some 12) rfl rfl Tryd.func9 (by kernel_rfl) rfl #[.slice A0 l0.length c0] rfl ts10_ ?_; (with_reducible refine (cupellaw35_great.calls k _ _ l0 true _ ?side1 ?side2 A5.out).mono ?_); (case side1 => exact ts43_ HR0.out HB.out); (case side2 => exact HC0.out); rintro e w' ⟨rfl, ⟨nd, rfl⟩⟩; refine ⟨_, rfl, ?_⟩))
   go_ret
   exact ⟨ts33_, ts41_ HB.out⟩
  replace c6 := Bool.eq_false_iff.mpr c6
  subst c6
  rw [if_neg Bool.false_ne_true] at H
  obtain ⟨⟨t137, t138⟩, A8, H⟩ := bsA_ H
  try dsimp only at H
  obtain ⟨⟨t139, t140⟩, A9, H⟩ := bsA_ H
  try dsimp only at H
  by_cases c10 : t137.toList = t139.toList
  ·rw [if_pos c10] at H
   have c10b0 : (t137.toList == t139.toList) = true := beq_iff_eq.mpr c10
   have c10b1 : (t137.toList != t139.toList) = false := bne_eq_false_iff_eq.mpr c10
   clear c10
   obtain rfl := Option.some.inj H
   go_enter Tryd.func3, Tryd.ntmps3
   go_wp2_with (first | ((with_reducible refine gate_callee (f := 8) rfl ?_); refine goesL_ (some 9) rfl rfl Tryd.func8 (by kernel_rfl) rfl #[] rfl ts10_ ?_; (with_reducible refine (cupellaw35_shown.calls k  true _ A3.out).mono ?_); rintro e w11 ⟨rfl, hb⟩; refine ⟨_, rfl, ?_⟩; replace HB := Aside0.mk (below_step (ts41_ HB.out) hb); clear hb) | ((with_reducible refine gate_callee (f := 9) rfl ?_); refine goesL_ (some 12) rfl rfl Tryd.func9 (by kernel_rfl) rfl #[.slice A0 l0.length c0] rfl ts10_ ?_; (with_reducible refine (cupellaw35_great.calls k _ _ l0 false _ ?side1 ?side2 A5.out).mono ?_); (case side1 => exact ts43_ HR0.out HB.out); (case side2 => exact HC0.out); rintro e w' ⟨rfl, ⟨nd, rfl⟩⟩; refine ⟨_, rfl, ?_⟩) | ((with_reducible refine gate_callee (f := 10) rfl ?_); refine goesL_ (some 16) rfl rfl Tryd.func10 (by kernel_rfl) rfl #[.slice A0 l0.length c0, .int .i64 a1] rfl ts10_ ?_; (with_reducible refine (groups_Key.calls k _ _ l0 a1 t137 t138 _ ?side1 ?side2 A8.out).mono ?_); (case side1 => repeat (first | exact (Kd.C_below HR0.out (ts41_ HB.out)) | (with_reducible refine Kd.C_alloc ?_ _) | (with_reducible refine Kd.C_drewN ?_ _) | (with_reducible refine Kd.C_drew ?_))); (case side2 => exact HC0.out); rintro e w12 ⟨rfl, hb⟩; refine ⟨_, rfl, ?_⟩; replace HB := Aside0.mk (below_step (ts41_ HB.out) hb); clear hb) | ((with_reducible refine gate_callee (f := 11) rfl ?_); refine goesL_ (some 22) rfl rfl Tryd.func11 (by kernel_rfl) rfl #[.slice A0 l0.length c0, .int .i64 a1] rfl ts10_ ?_; (with_reducible refine (cupelref35_Key.calls k _ _ l0 a1 t139 t140 _ ?side1 ?side2 A9.out).mono ?_); (case side1 => exact ts43_ HR0.out HB.out); (case side2 => exact HC0.out); rintro e w13 ⟨rfl, hb⟩; refine ⟨_, rfl, ?_⟩; replace HB := Aside0.mk (below_step (ts41_ HB.out) hb); clear hb))
   go_ret
   exact ⟨ts33_, ts41_ HB.out⟩
  rw [if_neg c10] at H
  exact absurd H (by simp)
 replace c4 := Bool.eq_false_iff.mpr c4
 subst c4
 rw [if_neg Bool.false_ne_true] at H
 exact absurd H (by simp)
end Go.Proofs.YtndennmpnomjnaaDoor.A
