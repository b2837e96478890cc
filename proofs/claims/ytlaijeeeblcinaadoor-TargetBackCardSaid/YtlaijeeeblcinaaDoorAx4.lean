/- Written by wip/tools/xprint.py, a program of this session that drives the kit's printer. Not trusted: Lean checks it. -/
import Derived.Test.YtlaijeeeblcinaaDoorAx0
import Derived.Test.YtlaijeeeblcinaaDoorAx3
set_option linter.all false
namespace Go.Proofs.YtlaijeeeblcinaaDoor.A
open Go.RowKit Go.Proofs.YtlaijeeeblcinaaDoorW.PrintWords Go.Proofs.YtlaijeeeblcinaaDoorW.PrintLast Go.Proofs.YtlaijeeeblcinaaDoorW.PrintMore
attribute [local go_sem] max2_int min2_int max_two min_two max_three min_three max_four min_four   -- for this text's walks alone
set_option linter.unusedVariables false
set_option linter.unusedSimpArgs false
/-! ### cupelref20_Check: function 18 -/
mutual
def cupelref20_Check.j0 : Nat → Bool → List Int → List Int → Int → Option (Int)
 | 0, _, _, _, _ => none
 | k + 1, x16, x193000, x193001, x193002 => if x16 = true then (some 3) else (if x193002 < 0 then (cupelref20_Check.j1 k true x193000 x193001 x193002) else (cupelref20_Check.j1 k (decide (x193002 > (x193000.length : Int))) x193000 x193001 x193002))
def cupelref20_Check.j1 : Nat → Bool → List Int → List Int → Int → Option (Int)
 | 0, _, _, _, _ => none
 | k + 1, x27, x193000, x193001, x193002 => if x27 = true then (some 2) else (cupelref20_Check.l0 k 0 x193000 x193001 x193002)
def cupelref20_Check.l0 : Nat → Int → List Int → List Int → Int → Option (Int)
 | 0, _, _, _, _ => none
 | k + 1, x3, x193000, x193001, x193002 => if x3 < (x193000.length : Int) then ((cupelref20_Decode.f k x193000 x3).bind fun bt193 => (if bt193.2.2.2.2.2.2 = 0 then (cupelref20_Check.l0 k bt193.2.2.2.2.2.1 x193000 x193001 x193002) else (some 6))) else (some 0)
end
def cupelref20_Check.f (k : Nat) (l0_0 : List Int) (l0_1 : List Int) (a0_2 : Int) : Option (Int) := if (l0_0.length : Int) > 20000 then (cupelref20_Check.j0 k true l0_0 l0_1 a0_2) else (cupelref20_Check.j0 k (decide ((l0_1.length : Int) > 20000)) l0_0 l0_1 a0_2)
theorem cupelref20_Check.mono_l : ∀ k, (∀ y0 y1 y2 y3, LeO (cupelref20_Check.j0 k y0 y1 y2 y3) (cupelref20_Check.j0 (k + 1) y0 y1 y2 y3)) ∧ (∀ y0 y1 y2 y3, LeO (cupelref20_Check.j1 k y0 y1 y2 y3) (cupelref20_Check.j1 (k + 1) y0 y1 y2 y3)) ∧ (∀ y0 y1 y2 y3, LeO (cupelref20_Check.l0 k y0 y1 y2 y3) (cupelref20_Check.l0 (k + 1) y0 y1 y2 y3))
 | 0 => ⟨fun _ _ _ _ r h => by simp [cupelref20_Check.j0] at h, fun _ _ _ _ r h => by simp [cupelref20_Check.j1] at h, fun _ _ _ _ r h => by simp [cupelref20_Check.l0] at h⟩
 | k + 1 => by
  obtain ⟨ih0, ih1, ih2⟩ := cupelref20_Check.mono_l k
  refine ⟨?_, ?_, ?_⟩
  ·intro y0 y1 y2 y3
   unfold cupelref20_Check.j0
   repeat' first
   | (with_reducible exact ih0 _ _ _ _)
   | (with_reducible exact ih1 _ _ _ _)
   | (with_reducible exact ih2 _ _ _ _)
   | (with_reducible exact cupelref20_Decode.mono _ _ _)
   | (with_reducible exact LeO.refl _)
   | (with_reducible exact LeO.none _)
   | (with_reducible refine LeO.ite ?_ ?_)
   | (with_reducible refine LeO.bind ?_ (fun _ => ?_))
   | exact LeO.none _
   | refine LeO.ite ?_ ?_
   | refine LeO.bind ?_ (fun _ => ?_)
  ·intro y0 y1 y2 y3
   unfold cupelref20_Check.j1
   repeat' first
   | (with_reducible exact ih0 _ _ _ _)
   | (with_reducible exact ih1 _ _ _ _)
   | (with_reducible exact ih2 _ _ _ _)
   | (with_reducible exact cupelref20_Decode.mono _ _ _)
   | (with_reducible exact LeO.refl _)
   | (with_reducible exact LeO.none _)
   | (with_reducible refine LeO.ite ?_ ?_)
   | (with_reducible refine LeO.bind ?_ (fun _ => ?_))
   | exact LeO.none _
   | refine LeO.ite ?_ ?_
   | refine LeO.bind ?_ (fun _ => ?_)
  intro y0 y1 y2 y3
  unfold cupelref20_Check.l0
  repeat' first
  | (with_reducible exact ih0 _ _ _ _)
  | (with_reducible exact ih1 _ _ _ _)
  | (with_reducible exact ih2 _ _ _ _)
  | (with_reducible exact cupelref20_Decode.mono _ _ _)
  | (with_reducible exact LeO.refl _)
  | (with_reducible exact LeO.none _)
  | (with_reducible refine LeO.ite ?_ ?_)
  | (with_reducible refine LeO.bind ?_ (fun _ => ?_))
  | exact LeO.none _
  | refine LeO.ite ?_ ?_
  | refine LeO.bind ?_ (fun _ => ?_)
theorem cupelref20_Check.mono : ∀ a0 a1 a2 k, LeO (cupelref20_Check.f k a0 a1 a2) (cupelref20_Check.f (k + 1) a0 a1 a2) := by
 intro a0 a1 a2 k
 obtain ⟨ih0, ih1, ih2⟩ := cupelref20_Check.mono_l k
 unfold cupelref20_Check.f
 repeat' first
   | (with_reducible exact ih0 _ _ _ _)
   | (with_reducible exact ih1 _ _ _ _)
   | (with_reducible exact ih2 _ _ _ _)
   | (with_reducible exact cupelref20_Decode.mono _ _ _)
   | (with_reducible exact LeO.refl _)
   | (with_reducible exact LeO.none _)
   | (with_reducible refine LeO.ite ?_ ?_)
   | (with_reducible refine LeO.bind ?_ (fun _ => ?_))
   | exact LeO.none _
   | refine LeO.ite ?_ ?_
   | refine LeO.bind ?_ (fun _ => ?_)
-- NOT PRINTED: function 4 (cupellaw20_TargetDecodes)
/-! ### cupelref20_skip: function 80 -/
mutual
def cupelref20_skip.l0 : Nat → ByteArray → Int → Option (Int)
 | 0, _, _ => none
 | k + 1, x0, x1 => if x1 < (x0.size : Int) then (if 0 ≤ x1 then (if (bt x0 x1) = 32 then (cupelref20_skip.j1 k x0 x1 true) else (if (bt x0 x1) = 9 then (cupelref20_skip.j1 k x0 x1 true) else (if (bt x0 x1) = 13 then (cupelref20_skip.j1 k x0 x1 true) else (cupelref20_skip.j1 k x0 x1 ((bt x0 x1) == 10))))) else (none)) else (some x1)
def cupelref20_skip.j1 : Nat → ByteArray → Int → Bool → Option (Int)
 | 0, _, _, _ => none
 | k + 1, x0, x1, x30 => if x30 = true then (cupelref20_skip.l0 k x0 (wrap64 (x1 + 1))) else (if 0 ≤ x1 then (if x1 < (x0.size : Int) then (if (bt x0 x1) = 35 then (cupelref20_skip.l1 k x0 x1) else (some x1)) else (none)) else (none))
def cupelref20_skip.l1 : Nat → ByteArray → Int → Option (Int)
 | 0, _, _ => none
 | k + 1, x0, x1 => if x1 < (x0.size : Int) then (if 0 ≤ x1 then (if (bt x0 x1) = 10 then (cupelref20_skip.l0 k x0 x1) else (cupelref20_skip.l1 k x0 (wrap64 (x1 + 1)))) else (none)) else (cupelref20_skip.l0 k x0 x1)
end
def cupelref20_skip.f (k : Nat) (a0 : ByteArray) (a1 : Int) : Option (Int) := cupelref20_skip.l0 k a0 a1
theorem cupelref20_skip.mono_l : ∀ k, (∀ y0 y1, LeO (cupelref20_skip.l0 k y0 y1) (cupelref20_skip.l0 (k + 1) y0 y1)) ∧ (∀ y0 y1 y2, LeO (cupelref20_skip.j1 k y0 y1 y2) (cupelref20_skip.j1 (k + 1) y0 y1 y2)) ∧ (∀ y0 y1, LeO (cupelref20_skip.l1 k y0 y1) (cupelref20_skip.l1 (k + 1) y0 y1))
 | 0 => ⟨fun _ _ r h => by simp [cupelref20_skip.l0] at h, fun _ _ _ r h => by simp [cupelref20_skip.j1] at h, fun _ _ r h => by simp [cupelref20_skip.l1] at h⟩
 | k + 1 => by
  obtain ⟨ih0, ih1, ih2⟩ := cupelref20_skip.mono_l k
  refine ⟨?_, ?_, ?_⟩
  ·intro y0 y1
   unfold cupelref20_skip.l0
   repeat' first
   | (with_reducible exact ih0 _ _)
   | (with_reducible exact ih1 _ _ _)
   | (with_reducible exact ih2 _ _)
   | (with_reducible exact LeO.refl _)
   | (with_reducible exact LeO.none _)
   | (with_reducible refine LeO.ite ?_ ?_)
   | (with_reducible refine LeO.bind ?_ (fun _ => ?_))
   | exact LeO.none _
   | refine LeO.ite ?_ ?_
   | refine LeO.bind ?_ (fun _ => ?_)
  ·intro y0 y1 y2
   unfold cupelref20_skip.j1
   repeat' first
   | (with_reducible exact ih0 _ _)
   | (with_reducible exact ih1 _ _ _)
   | (with_reducible exact ih2 _ _)
   | (with_reducible exact LeO.refl _)
   | (with_reducible exact LeO.none _)
   | (with_reducible refine LeO.ite ?_ ?_)
   | (with_reducible refine LeO.bind ?_ (fun _ => ?_))
   | exact LeO.none _
   | refine LeO.ite ?_ ?_
   | refine LeO.bind ?_ (fun _ => ?_)
  intro y0 y1
  unfold cupelref20_skip.l1
  repeat' first
  | (with_reducible exact ih0 _ _)
  | (with_reducible exact ih1 _ _ _)
  | (with_reducible exact ih2 _ _)
  | (with_reducible exact LeO.refl _)
  | (with_reducible exact LeO.none _)
  | (with_reducible refine LeO.ite ?_ ?_)
  | (with_reducible refine LeO.bind ?_ (fun _ => ?_))
  | exact LeO.none _
  | refine LeO.ite ?_ ?_
  | refine LeO.bind ?_ (fun _ => ?_)
theorem cupelref20_skip.mono : ∀ a0 a1 k, LeO (cupelref20_skip.f k a0 a1) (cupelref20_skip.f (k + 1) a0 a1) := by
 intro a0 a1 k
 obtain ⟨ih0, ih1, ih2⟩ := cupelref20_skip.mono_l k
 unfold cupelref20_skip.f
 repeat' first
   | (with_reducible exact ih0 _ _)
   | (with_reducible exact ih1 _ _ _)
   | (with_reducible exact ih2 _ _)
   | (with_reducible exact LeO.refl _)
   | (with_reducible exact LeO.none _)
   | (with_reducible refine LeO.ite ?_ ?_)
   | (with_reducible refine LeO.bind ?_ (fun _ => ?_))
   | exact LeO.none _
   | refine LeO.ite ?_ ?_
   | refine LeO.bind ?_ (fun _ => ?_)
/-! ### cupelref20_lower: function 81 -/
def cupelref20_lower.f (a0 : Int) : Option (Bool) := if a0 ≥ 97 then (some (decide (a0 ≤ 122))) else (some false)
/-! ### cupelref20_digit: function 82 -/
def cupelref20_digit.f (a0 : Int) : Option (Bool) := if a0 ≥ 48 then (some (decide (a0 ≤ 57))) else (some false)
end Go.Proofs.YtlaijeeeblcinaaDoor.A
