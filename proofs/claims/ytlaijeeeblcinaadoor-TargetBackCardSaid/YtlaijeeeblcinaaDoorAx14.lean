/- Written by wip/tools/xprint.py, a program of this session that drives the kit's printer. Not trusted: Lean checks it. -/
import Derived.Test.YtlaijeeeblcinaaDoorAx0
import Derived.Test.YtlaijeeeblcinaaDoorAx3
import Derived.Test.YtlaijeeeblcinaaDoorAx4
import Derived.Test.YtlaijeeeblcinaaDoorAx12
import Derived.Test.YtlaijeeeblcinaaDoorAx13
set_option linter.all false
namespace Go.Proofs.YtlaijeeeblcinaaDoor.A
open Go.RowKit Go.Proofs.YtlaijeeeblcinaaDoorW.PrintWords Go.Proofs.YtlaijeeeblcinaaDoorW.PrintLast Go.Proofs.YtlaijeeeblcinaaDoorW.PrintMore
attribute [local go_sem] max2_int min2_int max_two min_two max_three min_three max_four min_four   -- for this text's walks alone
set_option linter.unusedVariables false
set_option linter.unusedSimpArgs false
/-! ### cupelref20_Print: function 23 -/
mutual
def cupelref20_Print.l0 : Nat → ByteArray → Int → List Int → List Int → Int → Option (ByteArray × Int)
 | 0, _, _, _, _, _ => none
 | k + 1, x5, x6, x620000, x620001, x620002 => if x6 < (x620001.length : Int) then (if x5.size + 5 ≤ 9223372036854775807 then (if 0 ≤ x6 then ((cupelref20_number.f k (rd x620001 x6)).bind fun t623 => (if (x5 ++ (⟨#[100, 97, 116, 97, 32]⟩ : ByteArray)).size + t623.size ≤ 9223372036854775807 then (if ((x5 ++ (⟨#[100, 97, 116, 97, 32]⟩ : ByteArray)) ++ t623).size + 2 ≤ 9223372036854775807 then (cupelref20_Print.l0 k (((x5 ++ (⟨#[100, 97, 116, 97, 32]⟩ : ByteArray)) ++ t623) ++ (⟨#[59, 10]⟩ : ByteArray)) (wrap64 (x6 + 1)) x620000 x620001 x620002) else (none)) else (none))) else (none)) else (none)) else (cupelref20_Print.l1 k x5 0 x620000 x620001 x620002)
def cupelref20_Print.l1 : Nat → ByteArray → Int → List Int → List Int → Int → Option (ByteArray × Int)
 | 0, _, _, _, _, _ => none
 | k + 1, x5, x7, x620000, x620001, x620002 => if x7 < (x620000.length : Int) then ((cupelref20_Decode.f k x620000 x7).bind fun bt624 => ((cupelref20_Line.f k bt624.1 bt624.2.1 bt624.2.2.1 bt624.2.2.2.1 bt624.2.2.2.2.1).bind fun t632 => (if x5.size + t632.size ≤ 9223372036854775807 then (if (x5 ++ t632).size + 1 ≤ 9223372036854775807 then (cupelref20_Print.l1 k ((x5 ++ t632) ++ (⟨#[10]⟩ : ByteArray)) bt624.2.2.2.2.2.1 x620000 x620001 x620002) else (none)) else (none)))) else (some (x5, 0))
end
def cupelref20_Print.f (k : Nat) (l0_0 : List Int) (l0_1 : List Int) (a0_2 : Int) : Option (ByteArray × Int) := (cupelref20_Check.f k l0_0 l0_1 a0_2).bind fun t620 => (if t620 = 0 then ((cupelref20_number.f k a0_2).bind fun t621 => (if 6 + t621.size ≤ 9223372036854775807 then (if ((⟨#[101, 110, 116, 114, 121, 32]⟩ : ByteArray) ++ t621).size + 2 ≤ 9223372036854775807 then (cupelref20_Print.l0 k (((⟨#[101, 110, 116, 114, 121, 32]⟩ : ByteArray) ++ t621) ++ (⟨#[59, 10]⟩ : ByteArray)) 0 l0_0 l0_1 a0_2) else (none)) else (none))) else (some ((⟨#[]⟩ : ByteArray), t620)))
theorem cupelref20_Print.mono_l : ∀ k, (∀ y0 y1 y2 y3 y4, LeO (cupelref20_Print.l0 k y0 y1 y2 y3 y4) (cupelref20_Print.l0 (k + 1) y0 y1 y2 y3 y4)) ∧ (∀ y0 y1 y2 y3 y4, LeO (cupelref20_Print.l1 k y0 y1 y2 y3 y4) (cupelref20_Print.l1 (k + 1) y0 y1 y2 y3 y4))
 | 0 => ⟨fun _ _ _ _ _ r h => by simp [cupelref20_Print.l0] at h, fun _ _ _ _ _ r h => by simp [cupelref20_Print.l1] at h⟩
 | k + 1 => by
  obtain ⟨ih0, ih1⟩ := cupelref20_Print.mono_l k
  refine ⟨?_, ?_⟩
  ·intro y0 y1 y2 y3 y4
   unfold cupelref20_Print.l0
   repeat' first
   | (with_reducible exact ih0 _ _ _ _ _)
   | (with_reducible exact ih1 _ _ _ _ _)
   | (with_reducible exact cupelref20_Check.mono _ _ _ _)
   | (with_reducible exact cupelref20_Decode.mono _ _ _)
   | (with_reducible exact cupelref20_Line.mono _ _ _ _ _ _)
   | (with_reducible exact cupelref20_number.mono _ _)
   | (with_reducible exact LeO.refl _)
   | (with_reducible exact LeO.none _)
   | (with_reducible refine LeO.ite ?_ ?_)
   | (with_reducible refine LeO.bind ?_ (fun _ => ?_))
   | exact LeO.none _
   | refine LeO.ite ?_ ?_
   | refine LeO.bind ?_ (fun _ => ?_)
  intro y0 y1 y2 y3 y4
  unfold cupelref20_Print.l1
  repeat' first
  | (with_reducible exact ih0 _ _ _ _ _)
  | (with_reducible exact ih1 _ _ _ _ _)
  | (with_reducible exact cupelref20_Check.mono _ _ _ _)
  | (with_reducible exact cupelref20_Decode.mono _ _ _)
  | (with_reducible exact cupelref20_Line.mono _ _ _ _ _ _)
  | (with_reducible exact cupelref20_number.mono _ _)
  | (with_reducible exact LeO.refl _)
  | (with_reducible exact LeO.none _)
  | (with_reducible refine LeO.ite ?_ ?_)
  | (with_reducible refine LeO.bind ?_ (fun _ => ?_))
  | exact LeO.none _
  | refine LeO.ite ?_ ?_
  | refine LeO.bind ?_ (fun _ => ?_)
-- NOT PRINTED: function 6 (cupellaw20_TargetPrints)
-- NOT PRINTED: function 7 (cupellaw20_TargetBack)
-- NOT PRINTED: function 8 (cupellaw20_TargetCanon)
end Go.Proofs.YtlaijeeeblcinaaDoor.A
