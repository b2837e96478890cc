/- Written by wip/tools/xprint.py, a program of this session that drives the kit's printer. Not trusted: Lean checks it. -/
import Derived.Test.YtlaijeeeblcinaaDoorAx0
import Derived.Test.YtlaijeeeblcinaaDoorAx2
set_option linter.all false
namespace Go.Proofs.YtlaijeeeblcinaaDoor.A
open Go.RowKit Go.Proofs.YtlaijeeeblcinaaDoorW.PrintWords Go.Proofs.YtlaijeeeblcinaaDoorW.PrintLast Go.Proofs.YtlaijeeeblcinaaDoorW.PrintMore
attribute [local go_sem] max2_int min2_int max_two min_two max_three min_three max_four min_four   -- for this text's walks alone
set_option linter.unusedVariables false
set_option linter.unusedSimpArgs false
/-! ### cupelref20_Decode: function 16 -/
mutual
def cupelref20_Decode.j0 : Nat → List Int → Int → Bool → Option (Int × Int × Int × Int × Int × Int × Int)
 | 0, _, _, _ => none
 | k + 1, x0, x1, x17 => if x17 = true then (some (0, 0, 0, 0, 0, 0, 2)) else (if 0 ≤ x1 then (if x1 < (x0.length : Int) then (if (wrap64 (Go.bits .and .u64 (rd x0 x1) 255)) = 3 then (cupelref20_Decode.j1 k x0 x1 (wrap64 (x1 + 1)) (decide ((wrap64 (x1 + 1)) < (x0.length : Int))) (wrap64 (Go.bits .and .u64 (rd x0 x1) 255)) (wrap64 (Go.bits .and .u64 ((rd x0 x1) / 256) 15)) (wrap64 (Go.bits .and .u64 ((rd x0 x1) / 4096) 15)) (wrap64 (Go.bits .and .u64 ((rd x0 x1) / 65536) 15)) ((wrap64 (rd x0 x1)) / 4294967296)) else (cupelref20_Decode.j1 k x0 x1 (wrap64 (x1 + 1)) false (wrap64 (Go.bits .and .u64 (rd x0 x1) 255)) (wrap64 (Go.bits .and .u64 ((rd x0 x1) / 256) 15)) (wrap64 (Go.bits .and .u64 ((rd x0 x1) / 4096) 15)) (wrap64 (Go.bits .and .u64 ((rd x0 x1) / 65536) 15)) ((wrap64 (rd x0 x1)) / 4294967296))) else (none)) else (none))
def cupelref20_Decode.j1 : Nat → List Int → Int → Int → Bool → Int → Int → Int → Int → Int → Option (Int × Int × Int × Int × Int × Int × Int)
 | 0, _, _, _, _, _, _, _, _, _ => none
 | k + 1, x0, x1, x5, x52, x184000, x184001, x184002, x184003, x184004 => if x52 = true then (if 0 ≤ x5 then (if x5 < (x0.length : Int) then (cupelref20_Decode.j2 k x0 x1 (wrap64 (x5 + 1)) x184000 x184001 x184002 x184003 (wrap64 (rd x0 x5))) else (none)) else (none)) else (if x184000 = 3 then (some (0, 0, 0, 0, 0, 0, 6)) else (cupelref20_Decode.j2 k x0 x1 x5 x184000 x184001 x184002 x184003 x184004))
def cupelref20_Decode.j2 : Nat → List Int → Int → Int → Int → Int → Int → Int → Int → Option (Int × Int × Int × Int × Int × Int × Int)
 | 0, _, _, _, _, _, _, _, _ => none
 | k + 1, x0, x1, x5, x184000, x184001, x184002, x184003, x184004 => (cupelref20_Valid.f x184000 x184001 x184002 x184003 x184004).bind fun t186 => (if t186 = true then ((cupelref20_words.f x184000 x184001 x184002 x184003 x184004).bind fun t187 => (cupelref20_Decode.l0 k x0 x1 x5 t187 0 x184000 x184001 x184002 x184003 x184004)) else (some (0, 0, 0, 0, 0, 0, 6)))
def cupelref20_Decode.l0 : Nat → List Int → Int → Int → List Int → Int → Int → Int → Int → Int → Int → Option (Int × Int × Int × Int × Int × Int × Int)
 | 0, _, _, _, _, _, _, _, _, _, _ => none
 | k + 1, x0, x1, x5, x8, x9, x184000, x184001, x184002, x184003, x184004 => if x9 < (x8.length : Int) then (if 0 ≤ x9 then (if 0 ≤ (wrap64 (x1 + x9)) then (if (wrap64 (x1 + x9)) < (x0.length : Int) then (if (rd x8 x9) = (rd x0 (wrap64 (x1 + x9))) then (cupelref20_Decode.l0 k x0 x1 x5 x8 (wrap64 (x9 + 1)) x184000 x184001 x184002 x184003 x184004) else (some (0, 0, 0, 0, 0, 0, 6))) else (none)) else (none)) else (none)) else (some (x184000, x184001, x184002, x184003, x184004, x5, 0))
end
def cupelref20_Decode.f (k : Nat) (l0 : List Int) (a1 : Int) : Option (Int × Int × Int × Int × Int × Int × Int) := if a1 < 0 then (cupelref20_Decode.j0 k l0 a1 true) else (cupelref20_Decode.j0 k l0 a1 (decide (a1 ≥ (l0.length : Int))))
theorem cupelref20_Decode.mono_l : ∀ k, (∀ y0 y1 y2, LeO (cupelref20_Decode.j0 k y0 y1 y2) (cupelref20_Decode.j0 (k + 1) y0 y1 y2)) ∧ (∀ y0 y1 y2 y3 y4 y5 y6 y7 y8, LeO (cupelref20_Decode.j1 k y0 y1 y2 y3 y4 y5 y6 y7 y8) (cupelref20_Decode.j1 (k + 1) y0 y1 y2 y3 y4 y5 y6 y7 y8)) ∧ (∀ y0 y1 y2 y3 y4 y5 y6 y7, LeO (cupelref20_Decode.j2 k y0 y1 y2 y3 y4 y5 y6 y7) (cupelref20_Decode.j2 (k + 1) y0 y1 y2 y3 y4 y5 y6 y7)) ∧ (∀ y0 y1 y2 y3 y4 y5 y6 y7 y8 y9, LeO (cupelref20_Decode.l0 k y0 y1 y2 y3 y4 y5 y6 y7 y8 y9) (cupelref20_Decode.l0 (k + 1) y0 y1 y2 y3 y4 y5 y6 y7 y8 y9))
 | 0 => ⟨fun _ _ _ r h => by simp [cupelref20_Decode.j0] at h, fun _ _ _ _ _ _ _ _ _ r h => by simp [cupelref20_Decode.j1] at h, fun _ _ _ _ _ _ _ _ r h => by simp [cupelref20_Decode.j2] at h, fun _ _ _ _ _ _ _ _ _ _ r h => by simp [cupelref20_Decode.l0] at h⟩
 | k + 1 => by
  obtain ⟨ih0, ih1, ih2, ih3⟩ := cupelref20_Decode.mono_l k
  refine ⟨?_, ?_, ?_, ?_⟩
  ·intro y0 y1 y2
   unfold cupelref20_Decode.j0
   repeat' first
   | (with_reducible exact ih0 _ _ _)
   | (with_reducible exact ih1 _ _ _ _ _ _ _ _ _)
   | (with_reducible exact ih2 _ _ _ _ _ _ _ _)
   | (with_reducible exact ih3 _ _ _ _ _ _ _ _ _ _)
   | (with_reducible exact LeO.refl _)
   | (with_reducible exact LeO.none _)
   | (with_reducible refine LeO.ite ?_ ?_)
   | (with_reducible refine LeO.bind ?_ (fun _ => ?_))
   | exact LeO.none _
   | refine LeO.ite ?_ ?_
   | refine LeO.bind ?_ (fun _ => ?_)
  ·intro y0 y1 y2 y3 y4 y5 y6 y7 y8
   unfold cupelref20_Decode.j1
   repeat' first
   | (with_reducible exact ih0 _ _ _)
   | (with_reducible exact ih1 _ _ _ _ _ _ _ _ _)
   | (with_reducible exact ih2 _ _ _ _ _ _ _ _)
   | (with_reducible exact ih3 _ _ _ _ _ _ _ _ _ _)
   | (with_reducible exact LeO.refl _)
   | (with_reducible exact LeO.none _)
   | (with_reducible refine LeO.ite ?_ ?_)
   | (with_reducible refine LeO.bind ?_ (fun _ => ?_))
   | exact LeO.none _
   | refine LeO.ite ?_ ?_
   | refine LeO.bind ?_ (fun _ => ?_)
  ·intro y0 y1 y2 y3 y4 y5 y6 y7
   unfold cupelref20_Decode.j2
   repeat' first
   | (with_reducible exact ih0 _ _ _)
   | (with_reducible exact ih1 _ _ _ _ _ _ _ _ _)
   | (with_reducible exact ih2 _ _ _ _ _ _ _ _)
   | (with_reducible exact ih3 _ _ _ _ _ _ _ _ _ _)
   | (with_reducible exact LeO.refl _)
   | (with_reducible exact LeO.none _)
   | (with_reducible refine LeO.ite ?_ ?_)
   | (with_reducible refine LeO.bind ?_ (fun _ => ?_))
   | exact LeO.none _
   | refine LeO.ite ?_ ?_
   | refine LeO.bind ?_ (fun _ => ?_)
  intro y0 y1 y2 y3 y4 y5 y6 y7 y8 y9
  unfold cupelref20_Decode.l0
  repeat' first
  | (with_reducible exact ih0 _ _ _)
  | (with_reducible exact ih1 _ _ _ _ _ _ _ _ _)
  | (with_reducible exact ih2 _ _ _ _ _ _ _ _)
  | (with_reducible exact ih3 _ _ _ _ _ _ _ _ _ _)
  | (with_reducible exact LeO.refl _)
  | (with_reducible exact LeO.none _)
  | (with_reducible refine LeO.ite ?_ ?_)
  | (with_reducible refine LeO.bind ?_ (fun _ => ?_))
  | exact LeO.none _
  | refine LeO.ite ?_ ?_
  | refine LeO.bind ?_ (fun _ => ?_)
theorem cupelref20_Decode.mono : ∀ a0 a1 k, LeO (cupelref20_Decode.f k a0 a1) (cupelref20_Decode.f (k + 1) a0 a1) := by
 intro a0 a1 k
 obtain ⟨ih0, ih1, ih2, ih3⟩ := cupelref20_Decode.mono_l k
 unfold cupelref20_Decode.f
 repeat' first
   | (with_reducible exact ih0 _ _ _)
   | (with_reducible exact ih1 _ _ _ _ _ _ _ _ _)
   | (with_reducible exact ih2 _ _ _ _ _ _ _ _)
   | (with_reducible exact ih3 _ _ _ _ _ _ _ _ _ _)
   | (with_reducible exact LeO.refl _)
   | (with_reducible exact LeO.none _)
   | (with_reducible refine LeO.ite ?_ ?_)
   | (with_reducible refine LeO.bind ?_ (fun _ => ?_))
   | exact LeO.none _
   | refine LeO.ite ?_ ?_
   | refine LeO.bind ?_ (fun _ => ?_)
end Go.Proofs.YtlaijeeeblcinaaDoor.A
