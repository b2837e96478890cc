/- Written by wip/tools/xprint.py, a program of this session that drives the kit's printer. Not trusted: Lean checks it. -/
import Derived.Test.YtndennmpnomjnaaDoorAx0
import Derived.Test.YtndennmpnomjnaaDoorAx5
import Derived.Test.YtndennmpnomjnaaDoorAx6
import Derived.Test.YtndennmpnomjnaaDoorAx7
set_option linter.all false
namespace Go.Proofs.YtndennmpnomjnaaDoor.A
open Go.RowKit Go.Proofs.YtndennmpnomjnaaDoorW.PrintWords Go.Proofs.YtndennmpnomjnaaDoorW.PrintLast Go.Proofs.YtndennmpnomjnaaDoorW.PrintMore
attribute [local go_sem] max2_int min2_int max_two min_two max_three min_three max_four min_four   -- for this text's walks alone
set_option linter.unusedVariables false
set_option linter.unusedSimpArgs false
/-! ### cupelref35_Key: function 11 -/
mutual
def cupelref35_Key.j0 : Nat → List (S45) → Int → List (S57) → Bool → Option (ByteArray × Int)
 | 0, _, _, _, _ => none
 | k + 1, x0, x1, x6, x28 => if x28 = true then (some ((⟨#[]⟩ : ByteArray), 2)) else (cupelref35_Key.l0 k x0 x1 x6 0)
def cupelref35_Key.l0 : Nat → List (S45) → Int → List (S57) → Int → Option (ByteArray × Int)
 | 0, _, _, _, _ => none
 | k + 1, x0, x1, x6, x8 => if x8 < (x0.length : Int) then (if 0 ≤ x8 then ((cupelref35_way.f k ((rd_T45 x0 x8).f0)).bind fun t242 => (if t242 = true then (cupelref35_Key.l0 k x0 x1 x6 (wrap64 (x8 + 1))) else (some ((⟨#[]⟩ : ByteArray), 2)))) else (none)) else ((cupelref35_decimal.f k x1).bind fun t243 => (if 5 + t243.size ≤ 9223372036854775807 then (cupelref35_Key.l1 k x0 x6 ((⟨#[112, 97, 115, 115, 32]⟩ : ByteArray) ++ t243) ([] : List ByteArray) 0) else (none)))
def cupelref35_Key.l1 : Nat → List (S45) → List (S57) → ByteArray → List ByteArray → Int → Option (ByteArray × Int)
 | 0, _, _, _, _, _ => none
 | k + 1, x0, x6, x9, x10, x11 => if x11 < (x6.length : Int) then (if 0 ≤ x11 then ((cupelref35_part.f k x0 ((rd_T57 x6 x11).f0) ((rd_T57 x6 x11).f1) ((rd_T57 x6 x11).f2) ((rd_T57 x6 x11).f3)).bind fun t245 => (cupelref35_Key.l2 k x0 x6 x9 x10 x11 t245 false 0)) else (none)) else (some (x9, 0))
def cupelref35_Key.l2 : Nat → List (S45) → List (S57) → ByteArray → List ByteArray → Int → ByteArray → Bool → Int → Option (ByteArray × Int)
 | 0, _, _, _, _, _, _, _, _ => none
 | k + 1, x0, x6, x9, x10, x11, x12, x13, x14 => if x14 < (x10.length : Int) then (if x13 = true then (cupelref35_Key.l2 k x0 x6 x9 x10 x11 x12 true (wrap64 (x14 + 1))) else (if 0 ≤ x14 then (cupelref35_Key.l2 k x0 x6 x9 x10 x11 x12 ((rdOf ByteArray.empty x10 x14).toList == x12.toList) (wrap64 (x14 + 1))) else (none))) else (if x13 = true then (cupelref35_Key.l1 k x0 x6 x9 x10 (wrap64 (x11 + 1))) else (if x10.length < 8796093022208 then (if x9.size + 2 ≤ 9223372036854775807 then (if (x9 ++ (⟨#[59, 32]⟩ : ByteArray)).size + x12.size ≤ 9223372036854775807 then (cupelref35_Key.l1 k x0 x6 ((x9 ++ (⟨#[59, 32]⟩ : ByteArray)) ++ x12) (x10 ++ [x12]) (wrap64 (x11 + 1))) else (none)) else (none)) else (none)))
end
def cupelref35_Key.f (k : Nat) (l0 : List (S45)) (a1 : Int) : Option (ByteArray × Int) := (cupelref26_Differ.f k l0).bind fun bt237 => (if bt237.2 = 0 then (if a1 < (-1) then (cupelref35_Key.j0 k l0 a1 bt237.1 true) else (cupelref35_Key.j0 k l0 a1 bt237.1 (decide (a1 > 9)))) else (some ((⟨#[]⟩ : ByteArray), bt237.2)))
theorem cupelref35_Key.mono_l : ∀ k, (∀ y0 y1 y2 y3, LeO (cupelref35_Key.j0 k y0 y1 y2 y3) (cupelref35_Key.j0 (k + 1) y0 y1 y2 y3)) ∧ (∀ y0 y1 y2 y3, LeO (cupelref35_Key.l0 k y0 y1 y2 y3) (cupelref35_Key.l0 (k + 1) y0 y1 y2 y3)) ∧ (∀ y0 y1 y2 y3 y4, LeO (cupelref35_Key.l1 k y0 y1 y2 y3 y4) (cupelref35_Key.l1 (k + 1) y0 y1 y2 y3 y4)) ∧ (∀ y0 y1 y2 y3 y4 y5 y6 y7, LeO (cupelref35_Key.l2 k y0 y1 y2 y3 y4 y5 y6 y7) (cupelref35_Key.l2 (k + 1) y0 y1 y2 y3 y4 y5 y6 y7))
 | 0 => ⟨fun _ _ _ _ r h => by simp [cupelref35_Key.j0] at h, fun _ _ _ _ r h => by simp [cupelref35_Key.l0] at h, fun _ _ _ _ _ r h => by simp [cupelref35_Key.l1] at h, fun _ _ _ _ _ _ _ _ r h => by simp [cupelref35_Key.l2] at h⟩
 | k + 1 => by
  obtain ⟨ih0, ih1, ih2, ih3⟩ := cupelref35_Key.mono_l k
  refine ⟨?_, ?_, ?_, ?_⟩
  ·intro y0 y1 y2 y3
   unfold cupelref35_Key.j0
   repeat' first
   | (with_reducible exact ih0 _ _ _ _)
   | (with_reducible exact ih1 _ _ _ _)
   | (with_reducible exact ih2 _ _ _ _ _)
   | (with_reducible exact ih3 _ _ _ _ _ _ _ _)
   | (with_reducible exact cupelref26_Differ.mono _ _)
   | (with_reducible exact cupelref35_decimal.mono _ _)
   | (with_reducible exact cupelref35_part.mono _ _ _ _ _ _)
   | (with_reducible exact cupelref35_way.mono _ _)
   | (with_reducible exact LeO.refl _)
   | (with_reducible exact LeO.none _)
   | (with_reducible refine LeO.ite ?_ ?_)
   | (with_reducible refine LeO.bind ?_ (fun _ => ?_))
   | exact LeO.none _
   | refine LeO.ite ?_ ?_
   | refine LeO.bind ?_ (fun _ => ?_)
  ·intro y0 y1 y2 y3
   unfold cupelref35_Key.l0
   repeat' first
   | (with_reducible exact ih0 _ _ _ _)
   | (with_reducible exact ih1 _ _ _ _)
   | (with_reducible exact ih2 _ _ _ _ _)
   | (with_reducible exact ih3 _ _ _ _ _ _ _ _)
   | (with_reducible exact cupelref26_Differ.mono _ _)
   | (with_reducible exact cupelref35_decimal.mono _ _)
   | (with_reducible exact cupelref35_part.mono _ _ _ _ _ _)
   | (with_reducible exact cupelref35_way.mono _ _)
   | (with_reducible exact LeO.refl _)
   | (with_reducible exact LeO.none _)
   | (with_reducible refine LeO.ite ?_ ?_)
   | (with_reducible refine LeO.bind ?_ (fun _ => ?_))
   | exact LeO.none _
   | refine LeO.ite ?_ ?_
   | refine LeO.bind ?_ (fun _ => ?_)
  ·intro y0 y1 y2 y3 y4
   unfold cupelref35_Key.l1
   repeat' first
   | (with_reducible exact ih0 _ _ _ _)
   | (with_reducible exact ih1 _ _ _ _)
   | (with_reducible exact ih2 _ _ _ _ _)
   | (with_reducible exact ih3 _ _ _ _ _ _ _ _)
   | (with_reducible exact cupelref26_Differ.mono _ _)
   | (with_reducible exact cupelref35_decimal.mono _ _)
   | (with_reducible exact cupelref35_part.mono _ _ _ _ _ _)
   | (with_reducible exact cupelref35_way.mono _ _)
   | (with_reducible exact LeO.refl _)
   | (with_reducible exact LeO.none _)
   | (with_reducible refine LeO.ite ?_ ?_)
   | (with_reducible refine LeO.bind ?_ (fun _ => ?_))
   | exact LeO.none _
   | refine LeO.ite ?_ ?_
   | refine LeO.bind ?_ (fun _ => ?_)
  intro y0 y1 y2 y3 y4 y5 y6 y7
  unfold cupelref35_Key.l2
  repeat' first
  | (with_reducible exact ih0 _ _ _ _)
  | (with_reducible exact ih1 _ _ _ _)
  | (with_reducible exact ih2 _ _ _ _ _)
  | (with_reducible exact ih3 _ _ _ _ _ _ _ _)
  | (with_reducible exact cupelref26_Differ.mono _ _)
  | (with_reducible exact cupelref35_decimal.mono _ _)
  | (with_reducible exact cupelref35_part.mono _ _ _ _ _ _)
  | (with_reducible exact cupelref35_way.mono _ _)
  | (with_reducible exact LeO.refl _)
  | (with_reducible exact LeO.none _)
  | (with_reducible refine LeO.ite ?_ ?_)
  | (with_reducible refine LeO.bind ?_ (fun _ => ?_))
  | exact LeO.none _
  | refine LeO.ite ?_ ?_
  | refine LeO.bind ?_ (fun _ => ?_)
theorem cupelref35_Key.mono : ∀ a0 a1 k, LeO (cupelref35_Key.f k a0 a1) (cupelref35_Key.f (k + 1) a0 a1) := by
 intro a0 a1 k
 obtain ⟨ih0, ih1, ih2, ih3⟩ := cupelref35_Key.mono_l k
 unfold cupelref35_Key.f
 repeat' first
   | (with_reducible exact ih0 _ _ _ _)
   | (with_reducible exact ih1 _ _ _ _)
   | (with_reducible exact ih2 _ _ _ _ _)
   | (with_reducible exact ih3 _ _ _ _ _ _ _ _)
   | (with_reducible exact cupelref26_Differ.mono _ _)
   | (with_reducible exact cupelref35_decimal.mono _ _)
   | (with_reducible exact cupelref35_part.mono _ _ _ _ _ _)
   | (with_reducible exact cupelref35_way.mono _ _)
   | (with_reducible exact LeO.refl _)
   | (with_reducible exact LeO.none _)
   | (with_reducible refine LeO.ite ?_ ?_)
   | (with_reducible refine LeO.bind ?_ (fun _ => ?_))
   | exact LeO.none _
   | refine LeO.ite ?_ ?_
   | refine LeO.bind ?_ (fun _ => ?_)
-- NOT PRINTED: function 3 (cupellaw35_GroupsKeys)
end Go.Proofs.YtndennmpnomjnaaDoor.A
