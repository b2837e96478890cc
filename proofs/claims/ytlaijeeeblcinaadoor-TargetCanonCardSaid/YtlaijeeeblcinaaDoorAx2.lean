/- Written by wip/tools/xprint.py, a program of this session that drives the kit's printer. Not trusted: Lean checks it. -/
import Derived.Test.YtlaijeeeblcinaaDoorAx0
import Derived.Test.YtlaijeeeblcinaaDoorRefFindC
set_option linter.all false
namespace Go.Proofs.YtlaijeeeblcinaaDoor.A
open Go.RowKit Go.Proofs.YtlaijeeeblcinaaDoorW.PrintWords Go.Proofs.YtlaijeeeblcinaaDoorW.PrintLast Go.Proofs.YtlaijeeeblcinaaDoorW.PrintMore
attribute [local go_sem] max2_int min2_int max_two min_two max_three min_three max_four min_four   -- for this text's walks alone
set_option linter.unusedVariables false
set_option linter.unusedSimpArgs false
/-! ### cupelref20_register: function 28 -/
def cupelref20_register.f (a0 : Bool) (a1 : Int) : Option (Bool) := if a0 = true then (if a1 ≥ 0 then (some (decide (a1 < 10))) else (some false)) else (some (a1 == 0))
/-! ### cupelref20_immediate: function 29 -/
def cupelref20_immediate.f (a0 : Int) (a1 : Int) : Option (Bool) := if a0 = 0 then (some (a1 == 0)) else (if a0 = 1 then (if a1 ≥ (-2147483648) then (some (decide (a1 < 2147483648))) else (some false)) else (if a0 = 3 then (if a1 ≥ 0 then (some (decide (a1 ≤ 20000))) else (some false)) else (some true)))
/-! ### cupelref20_Valid: function 11 -/
def cupelref20_Valid.f (a0_0 : Int) (a0_1 : Int) (a0_2 : Int) (a0_3 : Int) (a0_4 : Int) : Option (Bool) := (cupelref20_find.f a0_0).bind fun bt153 => (if bt153.2.2.2.2.2.2 = true then ((cupelref20_register.f bt153.2.2.1 a0_1).bind fun t161 => (if t161 = true then ((cupelref20_register.f bt153.2.2.2.1 a0_2).bind fun t162 => (if t162 = true then ((cupelref20_register.f bt153.2.2.2.2.1 a0_3).bind fun t163 => (if t163 = true then ((cupelref20_immediate.f bt153.2.2.2.2.2.1 a0_4).bind fun t164 => (some t164)) else (some false))) else (some false))) else (some false))) else (some false))
/-! ### cupelref20_words: function 31 -/
def cupelref20_words.f (a0_0 : Int) (a0_1 : Int) (a0_2 : Int) (a0_3 : Int) (a0_4 : Int) : Option (List Int) := if a0_0 = 3 then (some (([IntKind.u64.wrap ((IntKind.u64.wrap ((IntKind.u64.wrap ((IntKind.u64.wrap (a0_0)) + (IntKind.u64.wrap ((IntKind.u64.wrap (a0_1)) * 256)))) + (IntKind.u64.wrap ((IntKind.u64.wrap (a0_2)) * 4096)))) + (IntKind.u64.wrap ((IntKind.u64.wrap (a0_3)) * 65536))), IntKind.u64.wrap (a0_4)] : List Int))) else (some (([IntKind.u64.wrap ((IntKind.u64.wrap ((IntKind.u64.wrap ((IntKind.u64.wrap ((IntKind.u64.wrap (a0_0)) + (IntKind.u64.wrap ((IntKind.u64.wrap (a0_1)) * 256)))) + (IntKind.u64.wrap ((IntKind.u64.wrap (a0_2)) * 4096)))) + (IntKind.u64.wrap ((IntKind.u64.wrap (a0_3)) * 65536)))) + (IntKind.u64.wrap ((IntKind.u64.wrap (a0_4)) * 4294967296)))] : List Int)))
/-! ### cupelref20_Encode: function 13 -/
mutual
def cupelref20_Encode.l0 : Nat → List (S26) → Int → Option (List Int × Int)
 | 0, _, _ => none
 | k + 1, x0, x5 => if x5 < (x0.length : Int) then (if 0 ≤ x5 then ((cupelref20_Valid.f ((rd_T26 x0 x5).f0) ((rd_T26 x0 x5).f1) ((rd_T26 x0 x5).f2) ((rd_T26 x0 x5).f3) ((rd_T26 x0 x5).f4)).bind fun t173 => (if t173 = true then (cupelref20_Encode.l0 k x0 (wrap64 (x5 + 1))) else (some (([] : List Int), 2)))) else (none)) else (cupelref20_Encode.l1 k x0 ([] : List Int) 0)
def cupelref20_Encode.l1 : Nat → List (S26) → List Int → Int → Option (List Int × Int)
 | 0, _, _, _ => none
 | k + 1, x0, x4, x6 => if x6 < (x0.length : Int) then (if 0 ≤ x6 then ((cupelref20_words.f ((rd_T26 x0 x6).f0) ((rd_T26 x0 x6).f1) ((rd_T26 x0 x6).f2) ((rd_T26 x0 x6).f3) ((rd_T26 x0 x6).f4)).bind fun t175 => (if x4.length + t175.length < 17592186044416 then (cupelref20_Encode.l1 k x0 (x4 ++ t175) (wrap64 (x6 + 1))) else (none))) else (none)) else (if (x4.length : Int) > 20000 then (some (([] : List Int), 3)) else (some (x4, 0)))
end
def cupelref20_Encode.f (k : Nat) (l0 : List (S26)) : Option (List Int × Int) := cupelref20_Encode.l0 k l0 0
theorem cupelref20_Encode.mono_l : ∀ k, (∀ y0 y1, LeO (cupelref20_Encode.l0 k y0 y1) (cupelref20_Encode.l0 (k + 1) y0 y1)) ∧ (∀ y0 y1 y2, LeO (cupelref20_Encode.l1 k y0 y1 y2) (cupelref20_Encode.l1 (k + 1) y0 y1 y2))
 | 0 => ⟨fun _ _ r h => by simp [cupelref20_Encode.l0] at h, fun _ _ _ r h => by simp [cupelref20_Encode.l1] at h⟩
 | k + 1 => by
  obtain ⟨ih0, ih1⟩ := cupelref20_Encode.mono_l k
  refine ⟨?_, ?_⟩
  ·intro y0 y1
   unfold cupelref20_Encode.l0
   repeat' first
   | (with_reducible exact ih0 _ _)
   | (with_reducible exact ih1 _ _ _)
   | (with_reducible exact LeO.refl _)
   | (with_reducible exact LeO.none _)
   | (with_reducible refine LeO.ite ?_ ?_)
   | (with_reducible refine LeO.bind ?_ (fun _ => ?_))
   | exact LeO.none _
   | refine LeO.ite ?_ ?_
   | refine LeO.bind ?_ (fun _ => ?_)
  intro y0 y1 y2
  unfold cupelref20_Encode.l1
  repeat' first
  | (with_reducible exact ih0 _ _)
  | (with_reducible exact ih1 _ _ _)
  | (with_reducible exact LeO.refl _)
  | (with_reducible exact LeO.none _)
  | (with_reducible refine LeO.ite ?_ ?_)
  | (with_reducible refine LeO.bind ?_ (fun _ => ?_))
  | exact LeO.none _
  | refine LeO.ite ?_ ?_
  | refine LeO.bind ?_ (fun _ => ?_)
theorem cupelref20_Encode.mono : ∀ a0 k, LeO (cupelref20_Encode.f k a0) (cupelref20_Encode.f (k + 1) a0) := by
 intro a0 k
 obtain ⟨ih0, ih1⟩ := cupelref20_Encode.mono_l k
 unfold cupelref20_Encode.f
 repeat' first
   | (with_reducible exact ih0 _ _)
   | (with_reducible exact ih1 _ _ _)
   | (with_reducible exact LeO.refl _)
   | (with_reducible exact LeO.none _)
   | (with_reducible refine LeO.ite ?_ ?_)
   | (with_reducible refine LeO.bind ?_ (fun _ => ?_))
   | exact LeO.none _
   | refine LeO.ite ?_ ?_
   | refine LeO.bind ?_ (fun _ => ?_)
/-! ### cupellaw20_sameWords: function 14 -/
mutual
def cupellaw20_sameWords.l0 : Nat → List Int → List Int → Int → Option (Bool)
 | 0, _, _, _ => none
 | k + 1, x0, x1, x5 => if x5 < (x0.length : Int) then (cupellaw20_sameWords.j1 k x0 x1 x5 (decide (x5 < (x1.length : Int)))) else (cupellaw20_sameWords.j1 k x0 x1 x5 false)
def cupellaw20_sameWords.j1 : Nat → List Int → List Int → Int → Bool → Option (Bool)
 | 0, _, _, _, _ => none
 | k + 1, x0, x1, x5, x15 => if x15 = true then (if 0 ≤ x5 then (if x5 < (x0.length : Int) then (if x5 < (x1.length : Int) then (if (rd x0 x5) = (rd x1 x5) then (cupellaw20_sameWords.l0 k x0 x1 (wrap64 (x5 + 1))) else (some false)) else (none)) else (none)) else (none)) else (some ((x0.length : Int) == (x1.length : Int)))
end
def cupellaw20_sameWords.f (k : Nat) (l0 : List Int) (l1 : List Int) : Option (Bool) := cupellaw20_sameWords.l0 k l0 l1 0
theorem cupellaw20_sameWords.mono_l : ∀ k, (∀ y0 y1 y2, LeO (cupellaw20_sameWords.l0 k y0 y1 y2) (cupellaw20_sameWords.l0 (k + 1) y0 y1 y2)) ∧ (∀ y0 y1 y2 y3, LeO (cupellaw20_sameWords.j1 k y0 y1 y2 y3) (cupellaw20_sameWords.j1 (k + 1) y0 y1 y2 y3))
 | 0 => ⟨fun _ _ _ r h => by simp [cupellaw20_sameWords.l0] at h, fun _ _ _ _ r h => by simp [cupellaw20_sameWords.j1] at h⟩
 | k + 1 => by
  obtain ⟨ih0, ih1⟩ := cupellaw20_sameWords.mono_l k
  refine ⟨?_, ?_⟩
  ·intro y0 y1 y2
   unfold cupellaw20_sameWords.l0
   repeat' first
   | (with_reducible exact ih0 _ _ _)
   | (with_reducible exact ih1 _ _ _ _)
   | (with_reducible exact LeO.refl _)
   | (with_reducible exact LeO.none _)
   | (with_reducible refine LeO.ite ?_ ?_)
   | (with_reducible refine LeO.bind ?_ (fun _ => ?_))
   | exact LeO.none _
   | refine LeO.ite ?_ ?_
   | refine LeO.bind ?_ (fun _ => ?_)
  intro y0 y1 y2 y3
  unfold cupellaw20_sameWords.j1
  repeat' first
  | (with_reducible exact ih0 _ _ _)
  | (with_reducible exact ih1 _ _ _ _)
  | (with_reducible exact LeO.refl _)
  | (with_reducible exact LeO.none _)
  | (with_reducible refine LeO.ite ?_ ?_)
  | (with_reducible refine LeO.bind ?_ (fun _ => ?_))
  | exact LeO.none _
  | refine LeO.ite ?_ ?_
  | refine LeO.bind ?_ (fun _ => ?_)
theorem cupellaw20_sameWords.mono : ∀ a0 a1 k, LeO (cupellaw20_sameWords.f k a0 a1) (cupellaw20_sameWords.f (k + 1) a0 a1) := by
 intro a0 a1 k
 obtain ⟨ih0, ih1⟩ := cupellaw20_sameWords.mono_l k
 unfold cupellaw20_sameWords.f
 repeat' first
   | (with_reducible exact ih0 _ _ _)
   | (with_reducible exact ih1 _ _ _ _)
   | (with_reducible exact LeO.refl _)
   | (with_reducible exact LeO.none _)
   | (with_reducible refine LeO.ite ?_ ?_)
   | (with_reducible refine LeO.bind ?_ (fun _ => ?_))
   | exact LeO.none _
   | refine LeO.ite ?_ ?_
   | refine LeO.bind ?_ (fun _ => ?_)
-- NOT PRINTED: function 3 (cupellaw20_TargetEncodes)
end Go.Proofs.YtlaijeeeblcinaaDoor.A
