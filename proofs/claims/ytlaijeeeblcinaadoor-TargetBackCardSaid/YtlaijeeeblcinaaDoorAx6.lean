/- Written by wip/tools/xprint.py, a program of this session that drives the kit's printer. Not trusted: Lean checks it. -/
import Derived.Test.YtlaijeeeblcinaaDoorAx0
import Derived.Test.YtlaijeeeblcinaaDoorAx4
import Derived.Test.YtlaijeeeblcinaaDoorAx5
set_option linter.all false
namespace Go.Proofs.YtlaijeeeblcinaaDoor.A
open Go.RowKit Go.Proofs.YtlaijeeeblcinaaDoorW.PrintWords Go.Proofs.YtlaijeeeblcinaaDoorW.PrintLast Go.Proofs.YtlaijeeeblcinaaDoorW.PrintMore
attribute [local go_sem] max2_int min2_int max_two min_two max_three min_three max_four min_four   -- for this text's walks alone
set_option linter.unusedVariables false
set_option linter.unusedSimpArgs false
/-! ### cupelref20_read: function 66 -/
mutual
def cupelref20_read.l0 : Nat → ByteArray → Int → Int → Option (Int × Int × Int × ByteArray × Int)
 | 0, _, _, _ => none
 | k + 1, x0, x1, x6 => if x6 < (x0.size : Int) then (if 0 ≤ x6 then ((cupelref20_lower.f (bt x0 x6)).bind fun t205 => (if t205 = true then (cupelref20_read.l0 k x0 x1 (wrap64 (x6 + 1))) else ((cupelref20_digit.f (bt x0 x6)).bind fun t206 => (if t206 = true then (cupelref20_read.l0 k x0 x1 (wrap64 (x6 + 1))) else (if 0 ≤ x1 then (if x1 ≤ x6 then (if x6 ≤ (x0.size : Int) then (some (x1, x6, 97, x0.extract (x1 : Int).toNat (x6 : Int).toNat, 0)) else (none)) else (none)) else (none)))))) else (none)) else (if 0 ≤ x1 then (if x1 ≤ x6 then (if x6 ≤ (x0.size : Int) then (some (x1, x6, 97, x0.extract (x1 : Int).toNat (x6 : Int).toNat, 0)) else (none)) else (none)) else (none))
def cupelref20_read.j1 : Nat → ByteArray → Int → Int → Int → Int → Option (Int × Int × Int × ByteArray × Int)
 | 0, _, _, _, _, _ => none
 | k + 1, x0, x1, x5, x6, x7 => if x7 < (x0.size : Int) then (if 0 ≤ x7 then ((cupelref20_digit.f (bt x0 x7)).bind fun t207 => (cupelref20_read.j2 k x0 x1 x5 x6 x7 t207)) else (none)) else (cupelref20_read.j2 k x0 x1 x5 x6 x7 false)
def cupelref20_read.j2 : Nat → ByteArray → Int → Int → Int → Int → Bool → Option (Int × Int × Int × ByteArray × Int)
 | 0, _, _, _, _, _, _ => none
 | k + 1, x0, x1, x5, x6, x7, x66 => if x66 = true then (cupelref20_read.l1 k x0 x1 x5 x7 x7) else (if x5 = 44 then (if 0 ≤ x1 then (if x1 ≤ x6 then (if x6 ≤ (x0.size : Int) then (some (x1, x6, 115, x0.extract (x1 : Int).toNat (x6 : Int).toNat, 0)) else (none)) else (none)) else (none)) else (if x5 = 59 then (if 0 ≤ x1 then (if x1 ≤ x6 then (if x6 ≤ (x0.size : Int) then (some (x1, x6, 115, x0.extract (x1 : Int).toNat (x6 : Int).toNat, 0)) else (none)) else (none)) else (none)) else (if x5 = 40 then (if 0 ≤ x1 then (if x1 ≤ x6 then (if x6 ≤ (x0.size : Int) then (some (x1, x6, 115, x0.extract (x1 : Int).toNat (x6 : Int).toNat, 0)) else (none)) else (none)) else (none)) else (if x5 = 41 then (if 0 ≤ x1 then (if x1 ≤ x6 then (if x6 ≤ (x0.size : Int) then (some (x1, x6, 115, x0.extract (x1 : Int).toNat (x6 : Int).toNat, 0)) else (none)) else (none)) else (none)) else (some (x1, x1, 33, (⟨#[]⟩ : ByteArray), 0))))))
def cupelref20_read.j4 : Nat → ByteArray → Int → Int → Int → Int → Option (Int × Int × Int × ByteArray × Int)
 | 0, _, _, _, _, _ => none
 | k + 1, x0, x1, x5, x6, x7 => if 0 ≤ x7 then (if x7 ≤ x6 then (if x6 ≤ (x0.size : Int) then ((cupelref20_integer.f k (x0.extract (x7 : Int).toNat (x6 : Int).toNat) (x5 == 45)).bind fun bt209 => (if bt209.2 = true then (if x7 < (x0.size : Int) then (if (bt x0 x7) = 48 then (if x6 > (wrap64 (x7 + 1)) then (cupelref20_read.j5 k x1 x6 bt209.1 true) else (cupelref20_read.j5 k x1 x6 bt209.1 (x5 == 45))) else (cupelref20_read.j5 k x1 x6 bt209.1 false)) else (none)) else (cupelref20_read.j5 k x1 x6 bt209.1 true))) else (none)) else (none)) else (none)
def cupelref20_read.j5 : Nat → Int → Int → Int → Bool → Option (Int × Int × Int × ByteArray × Int)
 | 0, _, _, _, _ => none
 | k + 1, x1, x6, x8, x107 => if x107 = true then (some (x1, x1, 33, (⟨#[]⟩ : ByteArray), 0)) else (some (x1, x6, 48, (⟨#[]⟩ : ByteArray), x8))
def cupelref20_read.l1 : Nat → ByteArray → Int → Int → Int → Int → Option (Int × Int × Int × ByteArray × Int)
 | 0, _, _, _, _, _ => none
 | k + 1, x0, x1, x5, x6, x7 => if x6 < (x0.size : Int) then (if 0 ≤ x6 then ((cupelref20_digit.f (bt x0 x6)).bind fun t208 => (if t208 = true then (cupelref20_read.l1 k x0 x1 x5 (wrap64 (x6 + 1)) x7) else (cupelref20_read.j4 k x0 x1 x5 x6 x7))) else (none)) else (cupelref20_read.j4 k x0 x1 x5 x6 x7)
end
def cupelref20_read.f (k : Nat) (a0 : ByteArray) (a1 : Int) : Option (Int × Int × Int × ByteArray × Int) := (cupelref20_skip.f k a0 a1).bind fun t203 => (if t203 = (a0.size : Int) then (some (t203, t203, 46, (⟨#[]⟩ : ByteArray), 0)) else (if 0 ≤ t203 then (if t203 < (a0.size : Int) then ((cupelref20_lower.f (bt a0 t203)).bind fun t204 => (if t204 = true then (cupelref20_read.l0 k a0 t203 (wrap64 (t203 + 1))) else (if (bt a0 t203) = 45 then (cupelref20_read.j1 k a0 t203 (bt a0 t203) (wrap64 (t203 + 1)) (wrap64 (t203 + 1))) else (cupelref20_read.j1 k a0 t203 (bt a0 t203) (wrap64 (t203 + 1)) t203)))) else (none)) else (none)))
theorem cupelref20_read.mono_l : ∀ k, (∀ y0 y1 y2, LeO (cupelref20_read.l0 k y0 y1 y2) (cupelref20_read.l0 (k + 1) y0 y1 y2)) ∧ (∀ y0 y1 y2 y3 y4, LeO (cupelref20_read.j1 k y0 y1 y2 y3 y4) (cupelref20_read.j1 (k + 1) y0 y1 y2 y3 y4)) ∧ (∀ y0 y1 y2 y3 y4 y5, LeO (cupelref20_read.j2 k y0 y1 y2 y3 y4 y5) (cupelref20_read.j2 (k + 1) y0 y1 y2 y3 y4 y5)) ∧ (∀ y0 y1 y2 y3 y4, LeO (cupelref20_read.j4 k y0 y1 y2 y3 y4) (cupelref20_read.j4 (k + 1) y0 y1 y2 y3 y4)) ∧ (∀ y0 y1 y2 y3, LeO (cupelref20_read.j5 k y0 y1 y2 y3) (cupelref20_read.j5 (k + 1) y0 y1 y2 y3)) ∧ (∀ y0 y1 y2 y3 y4, LeO (cupelref20_read.l1 k y0 y1 y2 y3 y4) (cupelref20_read.l1 (k + 1) y0 y1 y2 y3 y4))
 | 0 => ⟨fun _ _ _ r h => by simp [cupelref20_read.l0] at h, fun _ _ _ _ _ r h => by simp [cupelref20_read.j1] at h, fun _ _ _ _ _ _ r h => by simp [cupelref20_read.j2] at h, fun _ _ _ _ _ r h => by simp [cupelref20_read.j4] at h, fun _ _ _ _ r h => by simp [cupelref20_read.j5] at h, fun _ _ _ _ _ r h => by simp [cupelref20_read.l1] at h⟩
 | k + 1 => by
  obtain ⟨ih0, ih1, ih2, ih3, ih4, ih5⟩ := cupelref20_read.mono_l k
  refine ⟨?_, ?_, ?_, ?_, ?_, ?_⟩
  ·intro y0 y1 y2
   unfold cupelref20_read.l0
   repeat' first
   | (with_reducible exact ih0 _ _ _)
   | (with_reducible exact ih1 _ _ _ _ _)
   | (with_reducible exact ih2 _ _ _ _ _ _)
   | (with_reducible exact ih3 _ _ _ _ _)
   | (with_reducible exact ih4 _ _ _ _)
   | (with_reducible exact ih5 _ _ _ _ _)
   | (with_reducible exact cupelref20_integer.mono _ _ _)
   | (with_reducible exact cupelref20_skip.mono _ _ _)
   | (with_reducible exact LeO.refl _)
   | (with_reducible exact LeO.none _)
   | (with_reducible refine LeO.ite ?_ ?_)
   | (with_reducible refine LeO.bind ?_ (fun _ => ?_))
   | exact LeO.none _
   | refine LeO.ite ?_ ?_
   | refine LeO.bind ?_ (fun _ => ?_)
  ·intro y0 y1 y2 y3 y4
   unfold cupelref20_read.j1
   repeat' first
   | (with_reducible exact ih0 _ _ _)
   | (with_reducible exact ih1 _ _ _ _ _)
   | (with_reducible exact ih2 _ _ _ _ _ _)
   | (with_reducible exact ih3 _ _ _ _ _)
   | (with_reducible exact ih4 _ _ _ _)
   | (with_reducible exact ih5 _ _ _ _ _)
   | (with_reducible exact cupelref20_integer.mono _ _ _)
   | (with_reducible exact cupelref20_skip.mono _ _ _)
   | (with_reducible exact LeO.refl _)
   | (with_reducible exact LeO.none _)
   | (with_reducible refine LeO.ite ?_ ?_)
   | (with_reducible refine LeO.bind ?_ (fun _ => ?_))
   | exact LeO.none _
   | refine LeO.ite ?_ ?_
   | refine LeO.bind ?_ (fun _ => ?_)
  ·intro y0 y1 y2 y3 y4 y5
   unfold cupelref20_read.j2
   repeat' first
   | (with_reducible exact ih0 _ _ _)
   | (with_reducible exact ih1 _ _ _ _ _)
   | (with_reducible exact ih2 _ _ _ _ _ _)
   | (with_reducible exact ih3 _ _ _ _ _)
   | (with_reducible exact ih4 _ _ _ _)
   | (with_reducible exact ih5 _ _ _ _ _)
   | (with_reducible exact cupelref20_integer.mono _ _ _)
   | (with_reducible exact cupelref20_skip.mono _ _ _)
   | (with_reducible exact LeO.refl _)
   | (with_reducible exact LeO.none _)
   | (with_reducible refine LeO.ite ?_ ?_)
   | (with_reducible refine LeO.bind ?_ (fun _ => ?_))
   | exact LeO.none _
   | refine LeO.ite ?_ ?_
   | refine LeO.bind ?_ (fun _ => ?_)
  ·intro y0 y1 y2 y3 y4
   unfold cupelref20_read.j4
   repeat' first
   | (with_reducible exact ih0 _ _ _)
   | (with_reducible exact ih1 _ _ _ _ _)
   | (with_reducible exact ih2 _ _ _ _ _ _)
   | (with_reducible exact ih3 _ _ _ _ _)
   | (with_reducible exact ih4 _ _ _ _)
   | (with_reducible exact ih5 _ _ _ _ _)
   | (with_reducible exact cupelref20_integer.mono _ _ _)
   | (with_reducible exact cupelref20_skip.mono _ _ _)
   | (with_reducible exact LeO.refl _)
   | (with_reducible exact LeO.none _)
   | (with_reducible refine LeO.ite ?_ ?_)
   | (with_reducible refine LeO.bind ?_ (fun _ => ?_))
   | exact LeO.none _
   | refine LeO.ite ?_ ?_
   | refine LeO.bind ?_ (fun _ => ?_)
  ·intro y0 y1 y2 y3
   unfold cupelref20_read.j5
   repeat' first
   | (with_reducible exact ih0 _ _ _)
   | (with_reducible exact ih1 _ _ _ _ _)
   | (with_reducible exact ih2 _ _ _ _ _ _)
   | (with_reducible exact ih3 _ _ _ _ _)
   | (with_reducible exact ih4 _ _ _ _)
   | (with_reducible exact ih5 _ _ _ _ _)
   | (with_reducible exact cupelref20_integer.mono _ _ _)
   | (with_reducible exact cupelref20_skip.mono _ _ _)
   | (with_reducible exact LeO.refl _)
   | (with_reducible exact LeO.none _)
   | (with_reducible refine LeO.ite ?_ ?_)
   | (with_reducible refine LeO.bind ?_ (fun _ => ?_))
   | exact LeO.none _
   | refine LeO.ite ?_ ?_
   | refine LeO.bind ?_ (fun _ => ?_)
  intro y0 y1 y2 y3 y4
  unfold cupelref20_read.l1
  repeat' first
  | (with_reducible exact ih0 _ _ _)
  | (with_reducible exact ih1 _ _ _ _ _)
  | (with_reducible exact ih2 _ _ _ _ _ _)
  | (with_reducible exact ih3 _ _ _ _ _)
  | (with_reducible exact ih4 _ _ _ _)
  | (with_reducible exact ih5 _ _ _ _ _)
  | (with_reducible exact cupelref20_integer.mono _ _ _)
  | (with_reducible exact cupelref20_skip.mono _ _ _)
  | (with_reducible exact LeO.refl _)
  | (with_reducible exact LeO.none _)
  | (with_reducible refine LeO.ite ?_ ?_)
  | (with_reducible refine LeO.bind ?_ (fun _ => ?_))
  | exact LeO.none _
  | refine LeO.ite ?_ ?_
  | refine LeO.bind ?_ (fun _ => ?_)
end Go.Proofs.YtlaijeeeblcinaaDoor.A
