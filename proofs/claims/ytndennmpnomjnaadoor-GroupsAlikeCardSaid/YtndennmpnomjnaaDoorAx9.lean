/- Written by wip/tools/xprint.py, a program of this session that drives the kit's printer. Not trusted: Lean checks it. -/
import Derived.Test.YtndennmpnomjnaaDoorAx0
set_option linter.all false
namespace Go.Proofs.YtndennmpnomjnaaDoor.A
open Go.RowKit Go.Proofs.YtndennmpnomjnaaDoorW.PrintWords Go.Proofs.YtndennmpnomjnaaDoorW.PrintLast Go.Proofs.YtndennmpnomjnaaDoorW.PrintMore
attribute [local go_sem] max2_int min2_int max_two min_two max_three min_three max_four min_four   -- for this text's walks alone
set_option linter.unusedVariables false
set_option linter.unusedSimpArgs false
/-! ### cupelref35_Groups: function 13 -/
mutual
def cupelref35_Groups.l0 : Nat → List ByteArray → List (S35) → Int → Option ((List (S35)) × Int)
 | 0, _, _, _ => none
 | k + 1, x0, x4, x5 => if x5 < (x0.length : Int) then (cupelref35_Groups.l1 k x0 x4 x5 0) else (some (x4, 0))
def cupelref35_Groups.l1 : Nat → List ByteArray → List (S35) → Int → Int → Option ((List (S35)) × Int)
 | 0, _, _, _, _ => none
 | k + 1, x0, x4, x5, x6 => if x6 < (x4.length : Int) then (if 0 ≤ x6 then (if 0 ≤ x5 then (if x5 < (x0.length : Int) then (if ((rd_T35 x4 x6).f0).toList = (rdOf ByteArray.empty x0 x5).toList then (if x6 = (x4.length : Int) then (if x4.length < 3518437208883 then ((some (x4 ++ [(⟨rdOf ByteArray.empty x0 x5, ([] : List Int)⟩ : S35)] : List (S35))).bind fun y253 => (if x6 < (y253.length : Int) then (if ((rd_T35 y253 x6).f1).length < 17592186044416 then (cupelref35_Groups.l0 k x0 (y253.set (x6 : Int).toNat (⟨(rd_T35 y253 x6).f0, (((rd_T35 y253 x6).f1) ++ [x5])⟩ : S35)) (wrap64 (x5 + 1))) else (none)) else (none))) else (none)) else (if ((rd_T35 x4 x6).f1).length < 17592186044416 then (cupelref35_Groups.l0 k x0 (x4.set (x6 : Int).toNat (⟨(rd_T35 x4 x6).f0, (((rd_T35 x4 x6).f1) ++ [x5])⟩ : S35)) (wrap64 (x5 + 1))) else (none))) else (cupelref35_Groups.l1 k x0 x4 x5 (wrap64 (x6 + 1)))) else (none)) else (none)) else (none)) else (if x6 = (x4.length : Int) then (if 0 ≤ x5 then (if x5 < (x0.length : Int) then (if x4.length < 3518437208883 then ((some (x4 ++ [(⟨rdOf ByteArray.empty x0 x5, ([] : List Int)⟩ : S35)] : List (S35))).bind fun y267 => (if 0 ≤ x6 then (if x6 < (y267.length : Int) then (if ((rd_T35 y267 x6).f1).length < 17592186044416 then (cupelref35_Groups.l0 k x0 (y267.set (x6 : Int).toNat (⟨(rd_T35 y267 x6).f0, (((rd_T35 y267 x6).f1) ++ [x5])⟩ : S35)) (wrap64 (x5 + 1))) else (none)) else (none)) else (none))) else (none)) else (none)) else (none)) else (if 0 ≤ x6 then (none) else (none)))
end
def cupelref35_Groups.f (k : Nat) (l0 : List ByteArray) : Option ((List (S35)) × Int) := if (l0.length : Int) > 1000 then (some (([] : List (S35)), 3)) else (cupelref35_Groups.l0 k l0 ([] : List (S35)) 0)
theorem cupelref35_Groups.mono_l : ∀ k, (∀ y0 y1 y2, LeO (cupelref35_Groups.l0 k y0 y1 y2) (cupelref35_Groups.l0 (k + 1) y0 y1 y2)) ∧ (∀ y0 y1 y2 y3, LeO (cupelref35_Groups.l1 k y0 y1 y2 y3) (cupelref35_Groups.l1 (k + 1) y0 y1 y2 y3))
 | 0 => ⟨fun _ _ _ r h => by simp [cupelref35_Groups.l0] at h, fun _ _ _ _ r h => by simp [cupelref35_Groups.l1] at h⟩
 | k + 1 => by
  obtain ⟨ih0, ih1⟩ := cupelref35_Groups.mono_l k
  refine ⟨?_, ?_⟩
  ·intro y0 y1 y2
   unfold cupelref35_Groups.l0
   repeat' first
   | (with_reducible exact ih0 _ _ _)
   | (with_reducible exact ih1 _ _ _ _)
   | (with_reducible exact LeO.refl _)
   | (with_reducible exact LeO.none _)
   | (with_reducible refine LeO.ite ?_ ?_)
   | (with_reducible refine LeO.bind ?_ (fun _ => ?_))
   | exact LeO.none _
   | refine LeO.ite ?_ ?_
   | refine LeO.bind ?_ (fun _ => ?_)
  intro y0 y1 y2 y3
  unfold cupelref35_Groups.l1
  repeat' first
  | (with_reducible exact ih0 _ _ _)
  | (with_reducible exact ih1 _ _ _ _)
  | (with_reducible exact LeO.refl _)
  | (with_reducible exact LeO.none _)
  | (with_reducible refine LeO.ite ?_ ?_)
  | (with_reducible refine LeO.bind ?_ (fun _ => ?_))
  | exact LeO.none _
  | refine LeO.ite ?_ ?_
  | refine LeO.bind ?_ (fun _ => ?_)
theorem cupelref35_Groups.mono : ∀ a0 k, LeO (cupelref35_Groups.f k a0) (cupelref35_Groups.f (k + 1) a0) := by
 intro a0 k
 obtain ⟨ih0, ih1⟩ := cupelref35_Groups.mono_l k
 unfold cupelref35_Groups.f
 repeat' first
   | (with_reducible exact ih0 _ _ _)
   | (with_reducible exact ih1 _ _ _ _)
   | (with_reducible exact LeO.refl _)
   | (with_reducible exact LeO.none _)
   | (with_reducible refine LeO.ite ?_ ?_)
   | (with_reducible refine LeO.bind ?_ (fun _ => ?_))
   | exact LeO.none _
   | refine LeO.ite ?_ ?_
   | refine LeO.bind ?_ (fun _ => ?_)
/-! ### cupellaw35_sameInts: function 14 -/
def cupellaw35_sameInts.l0 : Nat → List Int → List Int → Int → Option (Bool)
 | 0, _, _, _ => none
 | k + 1, x0, x1, x5 => if x5 < (x0.length : Int) then (if 0 ≤ x5 then (if x5 < (x1.length : Int) then (if (rd x0 x5) = (rd x1 x5) then (cupellaw35_sameInts.l0 k x0 x1 (wrap64 (x5 + 1))) else (some false)) else (none)) else (none)) else (some true)
def cupellaw35_sameInts.f (k : Nat) (l0 : List Int) (l1 : List Int) : Option (Bool) := if (l0.length : Int) = (l1.length : Int) then (cupellaw35_sameInts.l0 k l0 l1 0) else (some false)
theorem cupellaw35_sameInts.mono_l : ∀ k, (∀ y0 y1 y2, LeO (cupellaw35_sameInts.l0 k y0 y1 y2) (cupellaw35_sameInts.l0 (k + 1) y0 y1 y2))
 | 0 => fun _ _ _ r h => by simp [cupellaw35_sameInts.l0] at h
 | k + 1 => by
  have ih0 := cupellaw35_sameInts.mono_l k
  ·intro y0 y1 y2
   unfold cupellaw35_sameInts.l0
   repeat' first
   | (with_reducible exact ih0 _ _ _)
   | (with_reducible exact LeO.refl _)
   | (with_reducible exact LeO.none _)
   | (with_reducible refine LeO.ite ?_ ?_)
   | (with_reducible refine LeO.bind ?_ (fun _ => ?_))
   | exact LeO.none _
   | refine LeO.ite ?_ ?_
   | refine LeO.bind ?_ (fun _ => ?_)
theorem cupellaw35_sameInts.mono : ∀ a0 a1 k, LeO (cupellaw35_sameInts.f k a0 a1) (cupellaw35_sameInts.f (k + 1) a0 a1) := by
 intro a0 a1 k
 have ih0 := cupellaw35_sameInts.mono_l k
 unfold cupellaw35_sameInts.f
 repeat' first
   | (with_reducible exact ih0 _ _ _)
   | (with_reducible exact LeO.refl _)
   | (with_reducible exact LeO.none _)
   | (with_reducible refine LeO.ite ?_ ?_)
   | (with_reducible refine LeO.bind ?_ (fun _ => ?_))
   | exact LeO.none _
   | refine LeO.ite ?_ ?_
   | refine LeO.bind ?_ (fun _ => ?_)
end Go.Proofs.YtndennmpnomjnaaDoor.A
