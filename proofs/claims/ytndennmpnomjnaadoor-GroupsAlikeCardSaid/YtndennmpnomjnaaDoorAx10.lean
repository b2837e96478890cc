/- Written by wip/tools/xprint.py, a program of this session that drives the kit's printer. Not trusted: Lean checks it. -/
import Derived.Test.YtndennmpnomjnaaDoorAx0
set_option linter.all false
namespace Go.Proofs.YtndennmpnomjnaaDoor.A
open Go.RowKit Go.Proofs.YtndennmpnomjnaaDoorW.PrintWords Go.Proofs.YtndennmpnomjnaaDoorW.PrintLast Go.Proofs.YtndennmpnomjnaaDoorW.PrintMore
attribute [local go_sem] max2_int min2_int max_two min_two max_three min_three max_four min_four   -- for this text's walks alone
set_option linter.unusedVariables false
set_option linter.unusedSimpArgs false
/-! ### cupelref35_Represent: function 16 -/
mutual
def cupelref35_Represent.l0 : Nat → List (S35) → List Int → List Int → Int → Option (List Int × Int)
 | 0, _, _, _, _ => none
 | k + 1, x0, x1, x6, x7 => if x7 < (x0.length : Int) then (if 0 ≤ x7 then (cupelref35_Represent.l1 k x0 x1 x6 x7 ((rd_T35 x0 x7).f1) (-1) 0) else (none)) else (some (x6, 0))
def cupelref35_Represent.l1 : Nat → List (S35) → List Int → List Int → Int → List Int → Int → Int → Option (List Int × Int)
 | 0, _, _, _, _, _, _, _ => none
 | k + 1, x0, x1, x6, x7, x8, x9, x10 => if x10 < (x8.length : Int) then (if 0 ≤ x10 then (if (rd x8 x10) < 0 then (cupelref35_Represent.j2 k x0 x1 x6 x7 x8 x9 x10 true) else (cupelref35_Represent.j2 k x0 x1 x6 x7 x8 x9 x10 (decide ((rd x8 x10) ≥ (x1.length : Int))))) else (none)) else (if x9 < 0 then (some (([] : List Int), 2)) else (if x6.length < 17592186044416 then (cupelref35_Represent.l0 k x0 x1 (x6 ++ [x9]) (wrap64 (x7 + 1))) else (none)))
def cupelref35_Represent.j2 : Nat → List (S35) → List Int → List Int → Int → List Int → Int → Int → Bool → Option (List Int × Int)
 | 0, _, _, _, _, _, _, _, _ => none
 | k + 1, x0, x1, x6, x7, x8, x9, x10, x41 => if x41 = true then (some (([] : List Int), 2)) else (if x9 < 0 then (if 0 ≤ x10 then (if x10 < (x8.length : Int) then (cupelref35_Represent.l1 k x0 x1 x6 x7 x8 (rd x8 x10) (wrap64 (x10 + 1))) else (none)) else (none)) else (if 0 ≤ x10 then (if x10 < (x8.length : Int) then (if 0 ≤ (rd x8 x10) then (if (rd x8 x10) < (x1.length : Int) then (if 0 ≤ x9 then (if x9 < (x1.length : Int) then (if (rd x1 (rd x8 x10)) < (rd x1 x9) then (cupelref35_Represent.l1 k x0 x1 x6 x7 x8 (rd x8 x10) (wrap64 (x10 + 1))) else (cupelref35_Represent.l1 k x0 x1 x6 x7 x8 x9 (wrap64 (x10 + 1)))) else (none)) else (none)) else (none)) else (none)) else (none)) else (none)))
end
def cupelref35_Represent.f (k : Nat) (l0 : List (S35)) (l1 : List Int) : Option (List Int × Int) := cupelref35_Represent.l0 k l0 l1 ([] : List Int) 0
theorem cupelref35_Represent.mono_l : ∀ k, (∀ y0 y1 y2 y3, LeO (cupelref35_Represent.l0 k y0 y1 y2 y3) (cupelref35_Represent.l0 (k + 1) y0 y1 y2 y3)) ∧ (∀ y0 y1 y2 y3 y4 y5 y6, LeO (cupelref35_Represent.l1 k y0 y1 y2 y3 y4 y5 y6) (cupelref35_Represent.l1 (k + 1) y0 y1 y2 y3 y4 y5 y6)) ∧ (∀ y0 y1 y2 y3 y4 y5 y6 y7, LeO (cupelref35_Represent.j2 k y0 y1 y2 y3 y4 y5 y6 y7) (cupelref35_Represent.j2 (k + 1) y0 y1 y2 y3 y4 y5 y6 y7))
 | 0 => ⟨fun _ _ _ _ r h => by simp [cupelref35_Represent.l0] at h, fun _ _ _ _ _ _ _ r h => by simp [cupelref35_Represent.l1] at h, fun _ _ _ _ _ _ _ _ r h => by simp [cupelref35_Represent.j2] at h⟩
 | k + 1 => by
  obtain ⟨ih0, ih1, ih2⟩ := cupelref35_Represent.mono_l k
  refine ⟨?_, ?_, ?_⟩
  ·intro y0 y1 y2 y3
   unfold cupelref35_Represent.l0
   repeat' first
   | (with_reducible exact ih0 _ _ _ _)
   | (with_reducible exact ih1 _ _ _ _ _ _ _)
   | (with_reducible exact ih2 _ _ _ _ _ _ _ _)
   | (with_reducible exact LeO.refl _)
   | (with_reducible exact LeO.none _)
   | (with_reducible refine LeO.ite ?_ ?_)
   | (with_reducible refine LeO.bind ?_ (fun _ => ?_))
   | exact LeO.none _
   | refine LeO.ite ?_ ?_
   | refine LeO.bind ?_ (fun _ => ?_)
  ·intro y0 y1 y2 y3 y4 y5 y6
   unfold cupelref35_Represent.l1
   repeat' first
   | (with_reducible exact ih0 _ _ _ _)
   | (with_reducible exact ih1 _ _ _ _ _ _ _)
   | (with_reducible exact ih2 _ _ _ _ _ _ _ _)
   | (with_reducible exact LeO.refl _)
   | (with_reducible exact LeO.none _)
   | (with_reducible refine LeO.ite ?_ ?_)
   | (with_reducible refine LeO.bind ?_ (fun _ => ?_))
   | exact LeO.none _
   | refine LeO.ite ?_ ?_
   | refine LeO.bind ?_ (fun _ => ?_)
  intro y0 y1 y2 y3 y4 y5 y6 y7
  unfold cupelref35_Represent.j2
  repeat' first
  | (with_reducible exact ih0 _ _ _ _)
  | (with_reducible exact ih1 _ _ _ _ _ _ _)
  | (with_reducible exact ih2 _ _ _ _ _ _ _ _)
  | (with_reducible exact LeO.refl _)
  | (with_reducible exact LeO.none _)
  | (with_reducible refine LeO.ite ?_ ?_)
  | (with_reducible refine LeO.bind ?_ (fun _ => ?_))
  | exact LeO.none _
  | refine LeO.ite ?_ ?_
  | refine LeO.bind ?_ (fun _ => ?_)
theorem cupelref35_Represent.mono : ∀ a0 a1 k, LeO (cupelref35_Represent.f k a0 a1) (cupelref35_Represent.f (k + 1) a0 a1) := by
 intro a0 a1 k
 obtain ⟨ih0, ih1, ih2⟩ := cupelref35_Represent.mono_l k
 unfold cupelref35_Represent.f
 repeat' first
   | (with_reducible exact ih0 _ _ _ _)
   | (with_reducible exact ih1 _ _ _ _ _ _ _)
   | (with_reducible exact ih2 _ _ _ _ _ _ _ _)
   | (with_reducible exact LeO.refl _)
   | (with_reducible exact LeO.none _)
   | (with_reducible refine LeO.ite ?_ ?_)
   | (with_reducible refine LeO.bind ?_ (fun _ => ?_))
   | exact LeO.none _
   | refine LeO.ite ?_ ?_
   | refine LeO.bind ?_ (fun _ => ?_)
-- NOT PRINTED: function 4 (cupellaw35_GroupsGroups)
-- NOT PRINTED: function 5 (cupellaw35_GroupsAny)
-- NOT PRINTED: function 6 (cupellaw35_GroupsPart)
-- NOT PRINTED: function 7 (cupellaw35_GroupsAlike)
end Go.Proofs.YtndennmpnomjnaaDoor.A
