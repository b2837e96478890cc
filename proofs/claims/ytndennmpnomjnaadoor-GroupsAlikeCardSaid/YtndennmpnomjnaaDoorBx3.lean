/- Written by wip/tools/xprint.py, a program of this session that drives the kit's printer. Not trusted: Lean checks it. -/
import Derived.Test.YtndennmpnomjnaaDoorBx0
import Derived.Test.YtndennmpnomjnaaDoorBx1
import Derived.Test.YtndennmpnomjnaaDoorAx10
import Derived.Test.YtndennmpnomjnaaDoorAx9
import Derived.Test.YtndennmpnomjnaaDoorRe
import Derived.Test.YtndennmpnomjnaaDoorWr
set_option linter.all false
namespace Go.Proofs.YtndennmpnomjnaaDoor.A
open Go.RowKit Go.Proofs.YtndennmpnomjnaaDoorW.PrintWords Go.Proofs.YtndennmpnomjnaaDoorW.PrintLast Go.Proofs.YtndennmpnomjnaaDoorW.PrintMore
attribute [local go_sem] max2_int min2_int max_two min_two max_three min_three max_four min_four   -- for this text's walks alone
set_option linter.unusedVariables false
set_option linter.unusedSimpArgs false
/-! ### cupellaw35_GroupsGroups: function 4 -/
mutual
def cupellaw35_GroupsGroups.j0 : Nat → List Int → List (S35) → List (S35) → Bool → Option (Bool)
 | 0, _, _, _, _ => none
 | k + 1, x1, x5, x7, x36 => if x36 = true then (none) else (cupellaw35_GroupsGroups.l0 k x1 x5 x7 0)
def cupellaw35_GroupsGroups.l0 : Nat → List Int → List (S35) → List (S35) → Int → Option (Bool)
 | 0, _, _, _, _ => none
 | k + 1, x1, x5, x7, x9 => if x9 < (x5.length : Int) then (if 0 ≤ x9 then (if x9 < (x7.length : Int) then (if ((rd_T35 x5 x9).f0).toList = ((rd_T35 x7 x9).f0).toList then ((cupellaw35_sameInts.f k ((rd_T35 x5 x9).f1) ((rd_T35 x7 x9).f1)).bind fun t154 => (if t154 = true then (cupellaw35_GroupsGroups.l0 k x1 x5 x7 (wrap64 (x9 + 1))) else (none))) else (none)) else (none)) else (none)) else ((groups_Represent.f k x5 x1).bind fun bt155 => ((cupelref35_Represent.f k x7 x1).bind fun bt159 => ((cupellaw35_sameInts.f k bt155.1 bt159.1).bind fun t163 => (if t163 = true then (some (bt155.2 == bt159.2)) else (none)))))
end
def cupellaw35_GroupsGroups.f (k : Nat) (l0 : List ByteArray) (l1 : List Int) : Option (Bool) := (cupellaw35_shown.f k).bind fun t141 => (if t141 = true then (if (l0.length : Int) > 1200 then (some true) else ((gGroups.f k l0).bind fun bt142 => ((rGroups.f k l0).bind fun bt146 => (if (bt142.1.length : Int) = (bt146.1.length : Int) then (cupellaw35_GroupsGroups.j0 k l1 bt142.1 bt146.1 (bt142.2 != bt146.2)) else (cupellaw35_GroupsGroups.j0 k l1 bt142.1 bt146.1 true))))) else (none))
theorem cupellaw35_GroupsGroups.mono_l : ∀ k, (∀ y0 y1 y2 y3, LeO (cupellaw35_GroupsGroups.j0 k y0 y1 y2 y3) (cupellaw35_GroupsGroups.j0 (k + 1) y0 y1 y2 y3)) ∧ (∀ y0 y1 y2 y3, LeO (cupellaw35_GroupsGroups.l0 k y0 y1 y2 y3) (cupellaw35_GroupsGroups.l0 (k + 1) y0 y1 y2 y3))
 | 0 => ⟨fun _ _ _ _ r h => by simp [cupellaw35_GroupsGroups.j0] at h, fun _ _ _ _ r h => by simp [cupellaw35_GroupsGroups.l0] at h⟩
 | k + 1 => by
  obtain ⟨ih0, ih1⟩ := cupellaw35_GroupsGroups.mono_l k
  refine ⟨?_, ?_⟩
  ·intro y0 y1 y2 y3
   unfold cupellaw35_GroupsGroups.j0
   repeat' first
   | (with_reducible exact ih0 _ _ _ _)
   | (with_reducible exact ih1 _ _ _ _)
   | (with_reducible exact cupellaw35_sameInts.mono _ _ _)
   | (with_reducible exact cupellaw35_shown.mono _)
   | (with_reducible exact cupelref35_Represent.mono _ _ _)
   | (with_reducible exact gGroups.mono _ _)
   | (with_reducible exact groups_Represent.mono _ _ _)
   | (with_reducible exact rGroups.mono _ _)
   | (with_reducible exact LeO.refl _)
   | (with_reducible exact LeO.none _)
   | (with_reducible refine LeO.ite ?_ ?_)
   | (with_reducible refine LeO.bind ?_ (fun _ => ?_))
   | exact LeO.none _
   | refine LeO.ite ?_ ?_
   | refine LeO.bind ?_ (fun _ => ?_)
  intro y0 y1 y2 y3
  unfold cupellaw35_GroupsGroups.l0
  repeat' first
  | (with_reducible exact ih0 _ _ _ _)
  | (with_reducible exact ih1 _ _ _ _)
  | (with_reducible exact cupellaw35_sameInts.mono _ _ _)
  | (with_reducible exact cupellaw35_shown.mono _)
  | (with_reducible exact cupelref35_Represent.mono _ _ _)
  | (with_reducible exact gGroups.mono _ _)
  | (with_reducible exact groups_Represent.mono _ _ _)
  | (with_reducible exact rGroups.mono _ _)
  | (with_reducible exact LeO.refl _)
  | (with_reducible exact LeO.none _)
  | (with_reducible refine LeO.ite ?_ ?_)
  | (with_reducible refine LeO.bind ?_ (fun _ => ?_))
  | exact LeO.none _
  | refine LeO.ite ?_ ?_
  | refine LeO.bind ?_ (fun _ => ?_)
theorem cupellaw35_GroupsGroups.mono : ∀ a0 a1 k, LeO (cupellaw35_GroupsGroups.f k a0 a1) (cupellaw35_GroupsGroups.f (k + 1) a0 a1) := by
 intro a0 a1 k
 obtain ⟨ih0, ih1⟩ := cupellaw35_GroupsGroups.mono_l k
 unfold cupellaw35_GroupsGroups.f
 repeat' first
   | (with_reducible exact ih0 _ _ _ _)
   | (with_reducible exact ih1 _ _ _ _)
   | (with_reducible exact cupellaw35_sameInts.mono _ _ _)
   | (with_reducible exact cupellaw35_shown.mono _)
   | (with_reducible exact cupelref35_Represent.mono _ _ _)
   | (with_reducible exact gGroups.mono _ _)
   | (with_reducible exact groups_Represent.mono _ _ _)
   | (with_reducible exact rGroups.mono _ _)
   | (with_reducible exact LeO.refl _)
   | (with_reducible exact LeO.none _)
   | (with_reducible refine LeO.ite ?_ ?_)
   | (with_reducible refine LeO.bind ?_ (fun _ => ?_))
   | exact LeO.none _
   | refine LeO.ite ?_ ?_
   | refine LeO.bind ?_ (fun _ => ?_)
/-! ### cupellaw35_GroupsAny: function 5 -/
def cupellaw35_GroupsAny.l0 : Nat → List (S35) → List Int → Int → Option (Bool)
 | 0, _, _, _ => none
 | k + 1, x0, x1, x5 => if x5 < (x0.length : Int) then (if 0 ≤ x5 then (if (((rd_T35 x0 x5).f1).length : Int) > 300 then (some true) else (cupellaw35_GroupsAny.l0 k x0 x1 (wrap64 (x5 + 1)))) else (none)) else ((groups_Represent.f k x0 x1).bind fun bt166 => ((cupelref35_Represent.f k x0 x1).bind fun bt170 => ((cupellaw35_sameInts.f k bt166.1 bt170.1).bind fun t174 => (if t174 = true then (some (bt166.2 == bt170.2)) else (none)))))
def cupellaw35_GroupsAny.f (k : Nat) (l0 : List (S35)) (l1 : List Int) : Option (Bool) := (cupellaw35_shown.f k).bind fun t164 => (if t164 = true then (if (l0.length : Int) > 300 then (some true) else (cupellaw35_GroupsAny.l0 k l0 l1 0)) else (none))
theorem cupellaw35_GroupsAny.mono_l : ∀ k, (∀ y0 y1 y2, LeO (cupellaw35_GroupsAny.l0 k y0 y1 y2) (cupellaw35_GroupsAny.l0 (k + 1) y0 y1 y2))
 | 0 => fun _ _ _ r h => by simp [cupellaw35_GroupsAny.l0] at h
 | k + 1 => by
  have ih0 := cupellaw35_GroupsAny.mono_l k
  ·intro y0 y1 y2
   unfold cupellaw35_GroupsAny.l0
   repeat' first
   | (with_reducible exact ih0 _ _ _)
   | (with_reducible exact cupellaw35_sameInts.mono _ _ _)
   | (with_reducible exact cupellaw35_shown.mono _)
   | (with_reducible exact cupelref35_Represent.mono _ _ _)
   | (with_reducible exact groups_Represent.mono _ _ _)
   | (with_reducible exact LeO.refl _)
   | (with_reducible exact LeO.none _)
   | (with_reducible refine LeO.ite ?_ ?_)
   | (with_reducible refine LeO.bind ?_ (fun _ => ?_))
   | exact LeO.none _
   | refine LeO.ite ?_ ?_
   | refine LeO.bind ?_ (fun _ => ?_)
theorem cupellaw35_GroupsAny.mono : ∀ a0 a1 k, LeO (cupellaw35_GroupsAny.f k a0 a1) (cupellaw35_GroupsAny.f (k + 1) a0 a1) := by
 intro a0 a1 k
 have ih0 := cupellaw35_GroupsAny.mono_l k
 unfold cupellaw35_GroupsAny.f
 repeat' first
   | (with_reducible exact ih0 _ _ _)
   | (with_reducible exact cupellaw35_sameInts.mono _ _ _)
   | (with_reducible exact cupellaw35_shown.mono _)
   | (with_reducible exact cupelref35_Represent.mono _ _ _)
   | (with_reducible exact groups_Represent.mono _ _ _)
   | (with_reducible exact LeO.refl _)
   | (with_reducible exact LeO.none _)
   | (with_reducible refine LeO.ite ?_ ?_)
   | (with_reducible refine LeO.bind ?_ (fun _ => ?_))
   | exact LeO.none _
   | refine LeO.ite ?_ ?_
   | refine LeO.bind ?_ (fun _ => ?_)
end Go.Proofs.YtndennmpnomjnaaDoor.A
