/- Written by wip/tools/xprint.py, a program of this session that drives the kit's printer. Not trusted: Lean checks it. -/
import Derived.Test.YtlaijeeeblcinaaDoorAx0
import Derived.Test.YtlaijeeeblcinaaDoorAx2
import Derived.Test.YtlaijeeeblcinaaDoorAx4
import Derived.Test.YtlaijeeeblcinaaDoorRefNext
import Derived.Test.YtlaijeeeblcinaaDoorAx8
import Derived.Test.YtlaijeeeblcinaaDoorAx10
import Derived.Test.YtlaijeeeblcinaaDoorRefRows
set_option linter.all false
set_option maxHeartbeats 8000000
set_option maxRecDepth 100000
namespace Go.Proofs.YtlaijeeeblcinaaDoor.A
open Go.RowKit Go.Proofs.YtlaijeeeblcinaaDoorW.PrintWords Go.Proofs.YtlaijeeeblcinaaDoorW.PrintLast Go.Proofs.YtlaijeeeblcinaaDoorW.PrintMore
attribute [local go_sem] max2_int min2_int max_two min_two max_three min_three max_four min_four   -- for this text's walks alone
set_option linter.unusedVariables false
set_option linter.unusedSimpArgs false
/-! ### cupelref20_Parse: function 20 -/
mutual
def cupelref20_Parse.l0 : Nat → ByteArray → Int → Int → Int → ByteArray → Int → Bool → Int → List Int → Int → Option (List Int × List Int × Int × Int × Int)
 | 0, _, _, _, _, _, _, _, _, _, _ => none
 | k + 1, x479000, x479001, x479002, x479003, x479004, x479005, x479006, x479007, x505001, x505002 => (cupelref20_reader_take.f k x479000 x479001 x479002 x479003 x479004 x479005 x479006 x479007 (⟨#[100, 97, 116, 97]⟩ : ByteArray)).bind fun bt513 => (if bt513.1 = true then ((cupelref20_reader_number.f k bt513.2.1 bt513.2.2.1 bt513.2.2.2.1 bt513.2.2.2.2.1 bt513.2.2.2.2.2.1 bt513.2.2.2.2.2.2.1 bt513.2.2.2.2.2.2.2.1 bt513.2.2.2.2.2.2.2.2 2).bind fun bt522 => (if x505001.length < 17592186044416 then ((cupelref20_reader_want.f k bt522.2.1 bt522.2.2.1 bt522.2.2.2.1 bt522.2.2.2.2.1 bt522.2.2.2.2.2.1 bt522.2.2.2.2.2.2.1 bt522.2.2.2.2.2.2.2.1 bt522.2.2.2.2.2.2.2.2 (⟨#[59]⟩ : ByteArray)).bind fun bt534 => (cupelref20_Parse.l0 k bt534.1 bt534.2.1 bt534.2.2.1 bt534.2.2.2.1 bt534.2.2.2.2.1 bt534.2.2.2.2.2.1 bt534.2.2.2.2.2.2.1 bt534.2.2.2.2.2.2.2 (x505001 ++ [bt522.1]) x505002)) else (none))) else ((cupelref20_rows.f).bind fun t542 => (cupelref20_Parse.l1 k t542 bt513.2.1 bt513.2.2.1 bt513.2.2.2.1 bt513.2.2.2.2.1 bt513.2.2.2.2.2.1 bt513.2.2.2.2.2.2.1 bt513.2.2.2.2.2.2.2.1 bt513.2.2.2.2.2.2.2.2 ([] : List Int) x505001 x505002)))
def cupelref20_Parse.l1 : Nat → List (S56) → ByteArray → Int → Int → Int → ByteArray → Int → Bool → Int → List Int → List Int → Int → Option (List Int × List Int × Int × Int × Int)
 | 0, _, _, _, _, _, _, _, _, _, _, _, _ => none
 | k + 1, x7, x479000, x479001, x479002, x479003, x479004, x479005, x479006, x479007, x505000, x505001, x505002 => if x479006 = true then (cupelref20_Parse.j2 k x7 false x479000 x479001 x479002 x479003 x479004 x479005 x479006 x479007 x505000 x505001 x505002) else (cupelref20_Parse.j2 k x7 (x479003 != 46) x479000 x479001 x479002 x479003 x479004 x479005 x479006 x479007 x505000 x505001 x505002)
def cupelref20_Parse.j2 : Nat → List (S56) → Bool → ByteArray → Int → Int → Int → ByteArray → Int → Bool → Int → List Int → List Int → Int → Option (List Int × List Int × Int × Int × Int)
 | 0, _, _, _, _, _, _, _, _, _, _, _, _, _ => none
 | k + 1, x7, x52, x479000, x479001, x479002, x479003, x479004, x479005, x479006, x479007, x505000, x505001, x505002 => if x52 = true then (cupelref20_Parse.l2 k x7 false 0 x479000 x479001 x479002 x479003 x479004 x479005 x479006 x479007 x505000 x505001 x505002) else (if x479006 = true then (some (([] : List Int), ([] : List Int), 0, x479007, 6)) else ((cupelref20_Check.f k x505000 x505001 x505002).bind fun t584 => (if t584 = 0 then (some (x505000, x505001, x505002, 0, 0)) else (some (([] : List Int), ([] : List Int), 0, 0, t584)))))
def cupelref20_Parse.l2 : Nat → List (S56) → Bool → Int → ByteArray → Int → Int → Int → ByteArray → Int → Bool → Int → List Int → List Int → Int → Option (List Int × List Int × Int × Int × Int)
 | 0, _, _, _, _, _, _, _, _, _, _, _, _, _, _ => none
 | k + 1, x7, x8, x9, x479000, x479001, x479002, x479003, x479004, x479005, x479006, x479007, x505000, x505001, x505002 => if x9 < (x7.length : Int) then (cupelref20_Parse.j4 k x7 x8 x9 (!x8) x479000 x479001 x479002 x479003 x479004 x479005 x479006 x479007 x505000 x505001 x505002) else (cupelref20_Parse.j4 k x7 x8 x9 false x479000 x479001 x479002 x479003 x479004 x479005 x479006 x479007 x505000 x505001 x505002)
def cupelref20_Parse.j4 : Nat → List (S56) → Bool → Int → Bool → ByteArray → Int → Int → Int → ByteArray → Int → Bool → Int → List Int → List Int → Int → Option (List Int × List Int × Int × Int × Int)
 | 0, _, _, _, _, _, _, _, _, _, _, _, _, _, _, _ => none
 | k + 1, x7, x8, x9, x60, x479000, x479001, x479002, x479003, x479004, x479005, x479006, x479007, x505000, x505001, x505002 => if x60 = true then (if 0 ≤ x9 then (if x9 < (x7.length : Int) then ((cupelref20_reader_take.f k x479000 x479001 x479002 x479003 x479004 x479005 x479006 x479007 ((rd_T56 x7 x9).f1)).bind fun bt554 => (if bt554.1 = true then ((cupelref20_reader_instr.f k bt554.2.1 bt554.2.2.1 bt554.2.2.2.1 bt554.2.2.2.2.1 bt554.2.2.2.2.2.1 bt554.2.2.2.2.2.2.1 bt554.2.2.2.2.2.2.2.1 bt554.2.2.2.2.2.2.2.2 ((rd_T56 x7 x9).f0) ((rd_T56 x7 x9).f1) ((rd_T56 x7 x9).f2) ((rd_T56 x7 x9).f3) ((rd_T56 x7 x9).f4) ((rd_T56 x7 x9).f5)).bind fun bt564 => (if bt564.2.2.2.2.2.2.2.2.2.2.2.1 = true then (cupelref20_Parse.l2 k x7 true (wrap64 (x9 + 1)) bt564.2.2.2.2.2.1 bt564.2.2.2.2.2.2.1 bt564.2.2.2.2.2.2.2.1 bt564.2.2.2.2.2.2.2.2.1 bt564.2.2.2.2.2.2.2.2.2.1 bt564.2.2.2.2.2.2.2.2.2.2.1 bt564.2.2.2.2.2.2.2.2.2.2.2.1 bt564.2.2.2.2.2.2.2.2.2.2.2.2 x505000 x505001 x505002) else ((cupelref20_words.f bt564.1 bt564.2.1 bt564.2.2.1 bt564.2.2.2.1 bt564.2.2.2.2.1).bind fun t578 => (if x505000.length + t578.length < 17592186044416 then (cupelref20_Parse.l2 k x7 true (wrap64 (x9 + 1)) bt564.2.2.2.2.2.1 bt564.2.2.2.2.2.2.1 bt564.2.2.2.2.2.2.2.1 bt564.2.2.2.2.2.2.2.2.1 bt564.2.2.2.2.2.2.2.2.2.1 bt564.2.2.2.2.2.2.2.2.2.2.1 bt564.2.2.2.2.2.2.2.2.2.2.2.1 bt564.2.2.2.2.2.2.2.2.2.2.2.2 (x505000 ++ t578) x505001 x505002) else (none))))) else (cupelref20_Parse.l2 k x7 x8 (wrap64 (x9 + 1)) bt554.2.1 bt554.2.2.1 bt554.2.2.2.1 bt554.2.2.2.2.1 bt554.2.2.2.2.2.1 bt554.2.2.2.2.2.2.1 bt554.2.2.2.2.2.2.2.1 bt554.2.2.2.2.2.2.2.2 x505000 x505001 x505002))) else (none)) else (none)) else (if x8 = true then (cupelref20_Parse.l1 k x7 x479000 x479001 x479002 x479003 x479004 x479005 x479006 x479007 x505000 x505001 x505002) else ((cupelref20_reader_wrong.f x479000 x479001 x479002 x479003 x479004 x479005 x479006 x479007).bind fun bt545 => (cupelref20_Parse.l1 k x7 bt545.1 bt545.2.1 bt545.2.2.1 bt545.2.2.2.1 bt545.2.2.2.2.1 bt545.2.2.2.2.2.1 bt545.2.2.2.2.2.2.1 bt545.2.2.2.2.2.2.2 x505000 x505001 x505002)))
end
def cupelref20_Parse.f (k : Nat) (a0 : ByteArray) : Option (List Int × List Int × Int × Int × Int) := if (a0.size : Int) > 600000 then (some (([] : List Int), ([] : List Int), 0, 0, 3)) else ((cupelref20_reader_next.f k a0 0 0 0 (⟨#[]⟩ : ByteArray) 0 false 0).bind fun bt479 => ((cupelref20_reader_want.f k bt479.1 bt479.2.1 bt479.2.2.1 bt479.2.2.2.1 bt479.2.2.2.2.1 bt479.2.2.2.2.2.1 bt479.2.2.2.2.2.2.1 bt479.2.2.2.2.2.2.2 (⟨#[101, 110, 116, 114, 121]⟩ : ByteArray)).bind fun bt487 => ((cupelref20_reader_number.f k bt487.1 bt487.2.1 bt487.2.2.1 bt487.2.2.2.1 bt487.2.2.2.2.1 bt487.2.2.2.2.2.1 bt487.2.2.2.2.2.2.1 bt487.2.2.2.2.2.2.2 3).bind fun bt495 => ((cupelref20_reader_want.f k bt495.2.1 bt495.2.2.1 bt495.2.2.2.1 bt495.2.2.2.2.1 bt495.2.2.2.2.2.1 bt495.2.2.2.2.2.2.1 bt495.2.2.2.2.2.2.2.1 bt495.2.2.2.2.2.2.2.2 (⟨#[59]⟩ : ByteArray)).bind fun bt505 => (cupelref20_Parse.l0 k bt505.1 bt505.2.1 bt505.2.2.1 bt505.2.2.2.1 bt505.2.2.2.2.1 bt505.2.2.2.2.2.1 bt505.2.2.2.2.2.2.1 bt505.2.2.2.2.2.2.2 ([] : List Int) bt495.1)))))
theorem cupelref20_Parse.mono_l : ∀ k, (∀ y0 y1 y2 y3 y4 y5 y6 y7 y8 y9, LeO (cupelref20_Parse.l0 k y0 y1 y2 y3 y4 y5 y6 y7 y8 y9) (cupelref20_Parse.l0 (k + 1) y0 y1 y2 y3 y4 y5 y6 y7 y8 y9)) ∧ (∀ y0 y1 y2 y3 y4 y5 y6 y7 y8 y9 y10 y11, LeO (cupelref20_Parse.l1 k y0 y1 y2 y3 y4 y5 y6 y7 y8 y9 y10 y11) (cupelref20_Parse.l1 (k + 1) y0 y1 y2 y3 y4 y5 y6 y7 y8 y9 y10 y11)) ∧ (∀ y0 y1 y2 y3 y4 y5 y6 y7 y8 y9 y10 y11 y12, LeO (cupelref20_Parse.j2 k y0 y1 y2 y3 y4 y5 y6 y7 y8 y9 y10 y11 y12) (cupelref20_Parse.j2 (k + 1) y0 y1 y2 y3 y4 y5 y6 y7 y8 y9 y10 y11 y12)) ∧ (∀ y0 y1 y2 y3 y4 y5 y6 y7 y8 y9 y10 y11 y12 y13, LeO (cupelref20_Parse.l2 k y0 y1 y2 y3 y4 y5 y6 y7 y8 y9 y10 y11 y12 y13) (cupelref20_Parse.l2 (k + 1) y0 y1 y2 y3 y4 y5 y6 y7 y8 y9 y10 y11 y12 y13)) ∧ (∀ y0 y1 y2 y3 y4 y5 y6 y7 y8 y9 y10 y11 y12 y13 y14, LeO (cupelref20_Parse.j4 k y0 y1 y2 y3 y4 y5 y6 y7 y8 y9 y10 y11 y12 y13 y14) (cupelref20_Parse.j4 (k + 1) y0 y1 y2 y3 y4 y5 y6 y7 y8 y9 y10 y11 y12 y13 y14))
 | 0 => ⟨fun _ _ _ _ _ _ _ _ _ _ r h => by simp [cupelref20_Parse.l0] at h, fun _ _ _ _ _ _ _ _ _ _ _ _ r h => by simp [cupelref20_Parse.l1] at h, fun _ _ _ _ _ _ _ _ _ _ _ _ _ r h => by simp [cupelref20_Parse.j2] at h, fun _ _ _ _ _ _ _ _ _ _ _ _ _ _ r h => by simp [cupelref20_Parse.l2] at h, fun _ _ _ _ _ _ _ _ _ _ _ _ _ _ _ r h => by simp [cupelref20_Parse.j4] at h⟩
 | k + 1 => by
  obtain ⟨ih0, ih1, ih2, ih3, ih4⟩ := cupelref20_Parse.mono_l k
  refine ⟨?_, ?_, ?_, ?_, ?_⟩
  ·intro y0 y1 y2 y3 y4 y5 y6 y7 y8 y9
   unfold cupelref20_Parse.l0
   repeat' first
   | (with_reducible exact ih0 _ _ _ _ _ _ _ _ _ _)
   | (with_reducible exact ih1 _ _ _ _ _ _ _ _ _ _ _ _)
   | (with_reducible exact ih2 _ _ _ _ _ _ _ _ _ _ _ _ _)
   | (with_reducible exact ih3 _ _ _ _ _ _ _ _ _ _ _ _ _ _)
   | (with_reducible exact ih4 _ _ _ _ _ _ _ _ _ _ _ _ _ _ _)
   | (with_reducible exact cupelref20_Check.mono _ _ _ _)
   | (with_reducible exact cupelref20_reader_instr.mono _ _ _ _ _ _ _ _ _ _ _ _ _ _ _)
   | (with_reducible exact cupelref20_reader_next.mono _ _ _ _ _ _ _ _ _)
   | (with_reducible exact cupelref20_reader_number.mono _ _ _ _ _ _ _ _ _ _)
   | (with_reducible exact cupelref20_reader_take.mono _ _ _ _ _ _ _ _ _ _)
   | (with_reducible exact cupelref20_reader_want.mono _ _ _ _ _ _ _ _ _ _)
   | (with_reducible exact LeO.refl _)
   | (with_reducible exact LeO.none _)
   | (with_reducible refine LeO.ite ?_ ?_)
   | (with_reducible refine LeO.bind ?_ (fun _ => ?_))
   | exact LeO.none _
   | refine LeO.ite ?_ ?_
   | refine LeO.bind ?_ (fun _ => ?_)
  ·intro y0 y1 y2 y3 y4 y5 y6 y7 y8 y9 y10 y11
   unfold cupelref20_Parse.l1
   repeat' first
   | (with_reducible exact ih0 _ _ _ _ _ _ _ _ _ _)
   | (with_reducible exact ih1 _ _ _ _ _ _ _ _ _ _ _ _)
   | (with_reducible exact ih2 _ _ _ _ _ _ _ _ _ _ _ _ _)
   | (with_reducible exact ih3 _ _ _ _ _ _ _ _ _ _ _ _ _ _)
   | (with_reducible exact ih4 _ _ _ _ _ _ _ _ _ _ _ _ _ _ _)
   | (with_reducible exact cupelref20_Check.mono _ _ _ _)
   | (with_reducible exact cupelref20_reader_instr.mono _ _ _ _ _ _ _ _ _ _ _ _ _ _ _)
   | (with_reducible exact cupelref20_reader_next.mono _ _ _ _ _ _ _ _ _)
   | (with_reducible exact cupelref20_reader_number.mono _ _ _ _ _ _ _ _ _ _)
   | (with_reducible exact cupelref20_reader_take.mono _ _ _ _ _ _ _ _ _ _)
   | (with_reducible exact cupelref20_reader_want.mono _ _ _ _ _ _ _ _ _ _)
   | (with_reducible exact LeO.refl _)
   | (with_reducible exact LeO.none _)
   | (with_reducible refine LeO.ite ?_ ?_)
   | (with_reducible refine LeO.bind ?_ (fun _ => ?_))
   | exact LeO.none _
   | refine LeO.ite ?_ ?_
   | refine LeO.bind ?_ (fun _ => ?_)
  ·intro y0 y1 y2 y3 y4 y5 y6 y7 y8 y9 y10 y11 y12
   unfold cupelref20_Parse.j2
   repeat' first
   | (with_reducible exact ih0 _ _ _ _ _ _ _ _ _ _)
   | (with_reducible exact ih1 _ _ _ _ _ _ _ _ _ _ _ _)
   | (with_reducible exact ih2 _ _ _ _ _ _ _ _ _ _ _ _ _)
   | (with_reducible exact ih3 _ _ _ _ _ _ _ _ _ _ _ _ _ _)
   | (with_reducible exact ih4 _ _ _ _ _ _ _ _ _ _ _ _ _ _ _)
   | (with_reducible exact cupelref20_Check.mono _ _ _ _)
   | (with_reducible exact cupelref20_reader_instr.mono _ _ _ _ _ _ _ _ _ _ _ _ _ _ _)
   | (with_reducible exact cupelref20_reader_next.mono _ _ _ _ _ _ _ _ _)
   | (with_reducible exact cupelref20_reader_number.mono _ _ _ _ _ _ _ _ _ _)
   | (with_reducible exact cupelref20_reader_take.mono _ _ _ _ _ _ _ _ _ _)
   | (with_reducible exact cupelref20_reader_want.mono _ _ _ _ _ _ _ _ _ _)
   | (with_reducible exact LeO.refl _)
   | (with_reducible exact LeO.none _)
   | (with_reducible refine LeO.ite ?_ ?_)
   | (with_reducible refine LeO.bind ?_ (fun _ => ?_))
   | exact LeO.none _
   | refine LeO.ite ?_ ?_
   | refine LeO.bind ?_ (fun _ => ?_)
  ·intro y0 y1 y2 y3 y4 y5 y6 y7 y8 y9 y10 y11 y12 y13
   unfold cupelref20_Parse.l2
   repeat' first
   | (with_reducible exact ih0 _ _ _ _ _ _ _ _ _ _)
   | (with_reducible exact ih1 _ _ _ _ _ _ _ _ _ _ _ _)
   | (with_reducible exact ih2 _ _ _ _ _ _ _ _ _ _ _ _ _)
   | (with_reducible exact ih3 _ _ _ _ _ _ _ _ _ _ _ _ _ _)
   | (with_reducible exact ih4 _ _ _ _ _ _ _ _ _ _ _ _ _ _ _)
   | (with_reducible exact cupelref20_Check.mono _ _ _ _)
   | (with_reducible exact cupelref20_reader_instr.mono _ _ _ _ _ _ _ _ _ _ _ _ _ _ _)
   | (with_reducible exact cupelref20_reader_next.mono _ _ _ _ _ _ _ _ _)
   | (with_reducible exact cupelref20_reader_number.mono _ _ _ _ _ _ _ _ _ _)
   | (with_reducible exact cupelref20_reader_take.mono _ _ _ _ _ _ _ _ _ _)
   | (with_reducible exact cupelref20_reader_want.mono _ _ _ _ _ _ _ _ _ _)
   | (with_reducible exact LeO.refl _)
   | (with_reducible exact LeO.none _)
   | (with_reducible refine LeO.ite ?_ ?_)
   | (with_reducible refine LeO.bind ?_ (fun _ => ?_))
   | exact LeO.none _
   | refine LeO.ite ?_ ?_
   | refine LeO.bind ?_ (fun _ => ?_)
  intro y0 y1 y2 y3 y4 y5 y6 y7 y8 y9 y10 y11 y12 y13 y14
  unfold cupelref20_Parse.j4
  repeat' first
  | (with_reducible exact ih0 _ _ _ _ _ _ _ _ _ _)
  | (with_reducible exact ih1 _ _ _ _ _ _ _ _ _ _ _ _)
  | (with_reducible exact ih2 _ _ _ _ _ _ _ _ _ _ _ _ _)
  | (with_reducible exact ih3 _ _ _ _ _ _ _ _ _ _ _ _ _ _)
  | (with_reducible exact ih4 _ _ _ _ _ _ _ _ _ _ _ _ _ _ _)
  | (with_reducible exact cupelref20_Check.mono _ _ _ _)
  | (with_reducible exact cupelref20_reader_instr.mono _ _ _ _ _ _ _ _ _ _ _ _ _ _ _)
  | (with_reducible exact cupelref20_reader_next.mono _ _ _ _ _ _ _ _ _)
  | (with_reducible exact cupelref20_reader_number.mono _ _ _ _ _ _ _ _ _ _)
  | (with_reducible exact cupelref20_reader_take.mono _ _ _ _ _ _ _ _ _ _)
  | (with_reducible exact cupelref20_reader_want.mono _ _ _ _ _ _ _ _ _ _)
  | (with_reducible exact LeO.refl _)
  | (with_reducible exact LeO.none _)
  | (with_reducible refine LeO.ite ?_ ?_)
  | (with_reducible refine LeO.bind ?_ (fun _ => ?_))
  | exact LeO.none _
  | refine LeO.ite ?_ ?_
  | refine LeO.bind ?_ (fun _ => ?_)
theorem cupelref20_Parse.mono : ∀ a0 k, LeO (cupelref20_Parse.f k a0) (cupelref20_Parse.f (k + 1) a0) := by
 intro a0 k
 obtain ⟨ih0, ih1, ih2, ih3, ih4⟩ := cupelref20_Parse.mono_l k
 unfold cupelref20_Parse.f
 repeat' first
   | (with_reducible exact ih0 _ _ _ _ _ _ _ _ _ _)
   | (with_reducible exact ih1 _ _ _ _ _ _ _ _ _ _ _ _)
   | (with_reducible exact ih2 _ _ _ _ _ _ _ _ _ _ _ _ _)
   | (with_reducible exact ih3 _ _ _ _ _ _ _ _ _ _ _ _ _ _)
   | (with_reducible exact ih4 _ _ _ _ _ _ _ _ _ _ _ _ _ _ _)
   | (with_reducible exact cupelref20_Check.mono _ _ _ _)
   | (with_reducible exact cupelref20_reader_instr.mono _ _ _ _ _ _ _ _ _ _ _ _ _ _ _)
   | (with_reducible exact cupelref20_reader_next.mono _ _ _ _ _ _ _ _ _)
   | (with_reducible exact cupelref20_reader_number.mono _ _ _ _ _ _ _ _ _ _)
   | (with_reducible exact cupelref20_reader_take.mono _ _ _ _ _ _ _ _ _ _)
   | (with_reducible exact cupelref20_reader_want.mono _ _ _ _ _ _ _ _ _ _)
   | (with_reducible exact LeO.refl _)
   | (with_reducible exact LeO.none _)
   | (with_reducible refine LeO.ite ?_ ?_)
   | (with_reducible refine LeO.bind ?_ (fun _ => ?_))
   | exact LeO.none _
   | refine LeO.ite ?_ ?_
   | refine LeO.bind ?_ (fun _ => ?_)
def cupelref20_Parse.T9 : Bool × List (List Nat × List Nat) := (true, [([], []), ([0], [0]), ([], []), ([2], [2]), ([3], [3]), ([1, 4, 3], [1, 4]), ([0, 1, 2, 3, 4, 5], []), ([6, 5, 5, 0, 1, 2, 3, 4, 5], [5, 6])])
def cupelref20_Parse.B9 : List Nat := [0, 1, 0, 4, 12, 31, 63, 127]
theorem cupelref20_Parse.tab9 : rtab .any (opsOf Tryd.f20 9) = cupelref20_Parse.T9 := by kernel_rfl
theorem cupelref20_Parse.bits9 : waitsOk cupelref20_Parse.T9.2 cupelref20_Parse.B9 = true := by kernel_rfl
def cupelref20_Parse.T25 : Bool × List (List Nat × List Nat) := (true, [([], []), ([], []), ([1], [1]), ([2], [2]), ([3], [3]), ([0, 0], [0]), ([4, 5, 0, 1, 2, 3, 4, 5], [4]), ([6, 0, 1, 2, 3, 4, 5, 6], [])])
def cupelref20_Parse.B25 : List Nat := [0, 0, 2, 6, 14, 1, 63, 127]
theorem cupelref20_Parse.tab25 : rtab .any (opsOf Tryd.f20 25) = cupelref20_Parse.T25 := by kernel_rfl
theorem cupelref20_Parse.bits25 : waitsOk cupelref20_Parse.T25.2 cupelref20_Parse.B25 = true := by kernel_rfl
theorem cupelref20_Parse.calls (k : Nat) (a0 : ByteArray) (r1 : List Int) (r2 : List Int) (r3 : Int) (r4 : Int) (r5 : Int) (w : World) (h : cupelref20_Parse.f k a0 = some (r1, r2, r3, r4, r5)) :
  Calls Tryd.prog 20 #[.string a0] w fun e w' => ∃ v0_ v1_ : Value, e = .returned (.tuple #[.agg #[v0_, v1_, .int .i64 r3], .int .i64 r4, .int .i64 r5]) ∧ Kd.R (Kd.int .u64) 48 w' w.heap.size (fun _ => True) v0_ r1 ∧ Kd.R (Kd.int .i64) 2 w' w.heap.size (fun _ => True) v1_ r2 ∧ Below w.heap.size w w' := by
 have hu35 := Tryd.underlying35
 have hu80 := Tryd.underlying80
 have hu56 := Tryd.underlying56
 have hu26 := Tryd.underlying26
 have HB := Aside0.mk (Below.refl w.heap.size w)
 have H : (if (a0.size : Int) > 600000 then (some (([] : List Int), ([] : List Int), 0, 0, 3)) else ((cupelref20_reader_next.f k a0 0 0 0 (⟨#[]⟩ : ByteArray) 0 false 0).bind fun bt479 => ((cupelref20_reader_want.f k bt479.1 bt479.2.1 bt479.2.2.1 bt479.2.2.2.1 bt479.2.2.2.2.1 bt479.2.2.2.2.2.1 bt479.2.2.2.2.2.2.1 bt479.2.2.2.2.2.2.2 (⟨#[101, 110, 116, 114, 121]⟩ : ByteArray)).bind fun bt487 => ((cupelref20_reader_number.f k bt487.1 bt487.2.1 bt487.2.2.1 bt487.2.2.2.1 bt487.2.2.2.2.1 bt487.2.2.2.2.2.1 bt487.2.2.2.2.2.2.1 bt487.2.2.2.2.2.2.2 3).bind fun bt495 => ((cupelref20_reader_want.f k bt495.2.1 bt495.2.2.1 bt495.2.2.2.1 bt495.2.2.2.2.1 bt495.2.2.2.2.2.1 bt495.2.2.2.2.2.2.1 bt495.2.2.2.2.2.2.2.1 bt495.2.2.2.2.2.2.2.2 (⟨#[59]⟩ : ByteArray)).bind fun bt505 => (cupelref20_Parse.l0 k bt505.1 bt505.2.1 bt505.2.2.1 bt505.2.2.2.1 bt505.2.2.2.2.1 bt505.2.2.2.2.2.1 bt505.2.2.2.2.2.2.1 bt505.2.2.2.2.2.2.2 ([] : List Int) bt495.1)))))) = some (r1, r2, r3, r4, r5) := h
 clear h
 by_cases c2 : (a0.size : Int) > 600000
 ·rw [if_pos c2] at H
  have c2b0 : decide (600000 < (a0.size : Int)) = true := decide_eq_true c2
  have c2b1 : decide (600000 < a0.size) = true := decide_eq_true (by omega)
  clear c2
  simp only [Option.some.injEq, Prod.mk.injEq] at H
  obtain ⟨rfl, rfl, rfl, rfl, rfl⟩ := H
  go_enter Tryd.func20, Tryd.ntmps20
  go_wp2_with (first | ((with_reducible refine gate_dst (N := 2) rfl ?_); refine box_event ?hg (N := 2) ?hd (cs := #[.slice none 0 0, .slice none 0 0, .int .i64 0]) (t := 35) ?hr ?_; (case hd => rfl); (case hg => rfl); (case hr => exact ts26_); intro gb477 hg w3 hbox hb; have BK477 := Aside0.mk (hbox); have GW477 := Aside0.mk ((ts73_ HB.out : w.heap.size ≤ gb477)); have GE477 := Aside0.mk ((ts73_ HB.out : w.heap.size ≤ gb477)); replace HB := Aside0.mk (below_step (ts54_ HB.out) hb); clear hb hbox hg; have hcz4_0 : w3.cell? ⟨gb477, 0, none⟩ = some (.slice none 0 0) := (blk_cell BK477.out 0).trans rfl; have hcz4_1 : w3.cell? ⟨gb477, 1, none⟩ = some (.slice none 0 0) := (blk_cell BK477.out 1).trans rfl; have hcz4_2 : w3.cell? ⟨gb477, 2, none⟩ = some (.int .i64 0) := (blk_cell BK477.out 2).trans rfl; have hfz4_0 := blk_frozen BK477.out 0; have hfz4_1 := blk_frozen BK477.out 1; have hfz4_2 := blk_frozen BK477.out 2))
  refine bodyPost_ret (results_ctt rfl _ _ gb477 35 #[.slice none 0 0, .slice none 0 0, .int .i64 0] (0, 0) _ rfl (ts32_ BK477.out) Tryd.underlying35 rfl (by kernel_rfl)) rfl ?_
  exact ⟨_, _, ts42_, ts33_, ts33_, ts29_ HB.out GE477.out⟩
 rw [if_neg c2] at H
 have c2b0 : decide (600000 < (a0.size : Int)) = false := decide_eq_false c2
 have c2b1 : decide (600000 < a0.size) = false := decide_eq_false (by omega)
 clear c2
 obtain ⟨⟨t479, t480, t481, t482, t483, t484, t485, t486⟩, A5, H⟩ := bsA_ H
 try dsimp only at H
 obtain ⟨⟨t487, t488, t489, t490, t491, t492, t493, t494⟩, A6, H⟩ := bsA_ H
 try dsimp only at H
 obtain ⟨⟨t495, t496, t497, t498, t499, t500, t501, t502, t503⟩, A7, H⟩ := bsA_ H
 try dsimp only at H
 obtain ⟨⟨t505, t506, t507, t508, t509, t510, t511, t512⟩, A8, H⟩ := bsA_ H
 try dsimp only at H
 have H' := Aside0.mk H
 clear H
 go_enter Tryd.func20, Tryd.ntmps20
 go_wp2_with (first | ((with_reducible refine gate_dst (N := 2) rfl ?_); refine box_event ?hg (N := 2) ?hd (cs := #[.slice none 0 0, .slice none 0 0, .int .i64 0]) (t := 35) ?hr ?_; (case hd => rfl); (case hg => rfl); (case hr => exact ts26_); intro gb477 hg w9 hbox hb; have BK477 := Aside0.mk (hbox); have GW477 := Aside0.mk ((ts73_ HB.out : w.heap.size ≤ gb477)); have GE477 := Aside0.mk ((ts73_ HB.out : w.heap.size ≤ gb477)); replace HB := Aside0.mk (below_step (ts54_ HB.out) hb); clear hb hbox hg) | ((with_reducible refine gate_dst (N := 18) rfl ?_); refine box_event ?hg (N := 18) ?hd (cs := #[.string a0, .int .i64 0, .int .i64 0, .int .u8 0, .string (⟨#[]⟩ : ByteArray), .int .i64 0, .bool false, .int .i64 0]) (t := 80) ?hr ?_; (case hd => rfl); (case hg => rfl); (case hr => exact ts26_); intro gb478 hg w10 hbox hb; have NB477_478 := Aside0.mk ((ts70_ BK477.out : gb477 ≠ gb478)); have NB478_477 := Aside0.mk ((ts75_ BK477.out : gb478 ≠ gb477)); replace BK477 := Aside0.mk (blk_below (g := gb477) (o := .cells #[.slice none 0 0, .slice none 0 0, .int .i64 0] 35 (0, 0)) (ts25_ BK477.out) hb); have HI478 := Aside0.mk ((⟨hbox, (ts78_ HB.out GE477.out : w.heap.size ≤ gb478)⟩ : IsS80 w _ gb478 a0 0 0 0 (⟨#[]⟩ : ByteArray) 0 false 0)); replace HB := Aside0.mk (below_step (ts29_ HB.out GE477.out) hb); clear hb hbox hg) | ((with_reducible refine gate_callee (f := 41) rfl ?_); refine goesL_ (some 20) rfl rfl Tryd.func41 (by kernel_rfl) rfl #[.pointer (some ⟨gb478, 0, none⟩)] rfl ts17_ ?_; (with_reducible refine (cupelref20_reader_next.calls k gb478 a0 0 0 0 (⟨#[]⟩ : ByteArray) 0 false 0 t479 t480 t481 t482 t483 t484 t485 t486 w _ ?side1 ?side2 A5.out).mono ?_); (case side1 => exact ts6_ HI478.out NB478_477.out); (case side2 => exact ts9_ HB.out HI478.out GE477.out); rintro e w11 ⟨rfl, hi, hb, hk⟩; refine ⟨_, rfl, ?_⟩; replace BK477 := Aside0.mk (KeepBut.blk hk (g' := gb477) (o := .cells #[.slice none 0 0, .slice none 0 0, .int .i64 0] 35 (0, 0)) (ts25_ BK477.out) NB477_478.out (by simp)); replace HB := Aside0.mk (hb); replace HI478 := Aside0.mk (hi); clear hi hb hk) | ((with_reducible refine gate_callee (f := 42) rfl ?_); refine goesL_ (some 22) rfl rfl Tryd.func42 (by kernel_rfl) rfl #[.pointer (some ⟨gb478, 0, none⟩), .string (⟨#[101, 110, 116, 114, 121]⟩ : ByteArray)] rfl ts17_ ?_; (with_reducible refine (cupelref20_reader_want.calls k gb478 t479 t480 t481 t482 t483 t484 t485 t486 (⟨#[101, 110, 116, 114, 121]⟩ : ByteArray) t487 t488 t489 t490 t491 t492 t493 t494 w _ ?side1 ?side2 A6.out).mono ?_); (case side1 => exact ts6_ HI478.out NB478_477.out); (case side2 => exact ts9_ HB.out HI478.out GE477.out); rintro e w12 ⟨rfl, hi, hb, hk⟩; refine ⟨_, rfl, ?_⟩; replace BK477 := Aside0.mk (KeepBut.blk hk (g' := gb477) (o := .cells #[.slice none 0 0, .slice none 0 0, .int .i64 0] 35 (0, 0)) (ts25_ BK477.out) NB477_478.out (by simp)); replace HB := Aside0.mk (hb); replace HI478 := Aside0.mk (hi); clear hi hb hk) | ((with_reducible refine gate_callee (f := 43) rfl ?_); refine goesL_ (some 24) rfl rfl Tryd.func43 (by kernel_rfl) rfl #[.pointer (some ⟨gb478, 0, none⟩), .int .i64 3] rfl ts17_ ?_; (with_reducible refine (cupelref20_reader_number.calls k gb478 t487 t488 t489 t490 t491 t492 t493 t494 3 t495 t496 t497 t498 t499 t500 t501 t502 t503 w _ ?side1 ?side2 A7.out).mono ?_); (case side1 => exact ts6_ HI478.out NB478_477.out); (case side2 => exact ts9_ HB.out HI478.out GE477.out); rintro e w13 ⟨rfl, hi, hb, hk⟩; refine ⟨_, rfl, ?_⟩; replace BK477 := Aside0.mk (KeepBut.blk hk (g' := gb477) (o := .cells #[.slice none 0 0, .slice none 0 0, .int .i64 0] 35 (0, 0)) (ts25_ BK477.out) NB477_478.out (by simp)); replace HB := Aside0.mk (hb); replace HI478 := Aside0.mk (hi); clear hi hb hk) | ((with_reducible refine gate_dst (N := 6) rfl ?_); refine box_event ?hg (N := 6) ?hd (cs := #[.slice none 0 0, .slice none 0 0, .int .i64 0]) (t := 35) ?hr ?_; (case hd => rfl); (case hg => rfl); (case hr => exact ts26_); intro gb504 hg w14 hbox hb; have BK504 := Aside0.mk (hbox); have GW504 := Aside0.mk ((by rw [hg]; exact (below_size (ts9_ HB.out HI478.out GE477.out)) : w.heap.size ≤ gb504)); have GE504 := Aside0.mk ((by rw [hg]; exact (below_size (ts9_ HB.out HI478.out GE477.out)) : w.heap.size ≤ gb504)); replace HB := Aside0.mk (below_step (ts9_ HB.out HI478.out GE477.out) hb); have NB477_504 := Aside0.mk ((ts70_ BK477.out : gb477 ≠ gb504)); have NB504_477 := Aside0.mk ((ts75_ BK477.out : gb504 ≠ gb477)); replace BK477 := Aside0.mk (blk_below (g := gb477) (o := .cells #[.slice none 0 0, .slice none 0 0, .int .i64 0] 35 (0, 0)) (ts25_ BK477.out) hb); have NB478_504 := Aside0.mk ((by rw [hg]; exact Nat.ne_of_lt (IsS80.lt (show IsS80 w _ gb478 t496 t497 t498 t499 t500 t501 t502 t503 from ts6_ HI478.out NB478_477.out)) : gb478 ≠ gb504)); have NB504_478 := Aside0.mk ((by rw [hg]; exact Nat.ne_of_gt (IsS80.lt (show IsS80 w _ gb478 t496 t497 t498 t499 t500 t501 t502 t503 from ts6_ HI478.out NB478_477.out)) : gb504 ≠ gb478)); replace HI478 := Aside0.mk (IsS80.below (ts6_ HI478.out NB478_477.out) hb); clear hb hbox hg; have hnb15 := NB504_477.out; have hnc15 := NB477_504.out; have hnb16 := NB504_478.out; have hnc16 := NB478_504.out; have hcz17_0 : w14.cell? ⟨gb504, 0, none⟩ = some (.slice none 0 0) := (blk_cell BK504.out 0).trans rfl; have hcz17_1 : w14.cell? ⟨gb504, 1, none⟩ = some (.slice none 0 0) := (blk_cell BK504.out 1).trans rfl; have hcz17_2 : w14.cell? ⟨gb504, 2, none⟩ = some (.int .i64 0) := (blk_cell BK504.out 2).trans rfl; have hfz17_0 := blk_frozen BK504.out 0; have hfz17_1 := blk_frozen BK504.out 1; have hfz17_2 := blk_frozen BK504.out 2) | ((with_reducible refine gate_callee (f := 42) rfl ?_); refine goesL_ (some 27) rfl rfl Tryd.func42 (by kernel_rfl) rfl #[.pointer (some ⟨gb478, 0, none⟩), .string (⟨#[59]⟩ : ByteArray)] rfl ts17_ ?_; (with_reducible refine (cupelref20_reader_want.calls k gb478 t496 t497 t498 t499 t500 t501 t502 t503 (⟨#[59]⟩ : ByteArray) t505 t506 t507 t508 t509 t510 t511 t512 w _ ?side1 ?side2 A8.out).mono ?_); (case side1 => exact ts39_ HI478.out NB478_477.out NB478_504.out); (case side2 => exact ts20_ HB.out HI478.out GE477.out GE504.out); rintro e w18 ⟨rfl, hi, hb, hk⟩; refine ⟨_, rfl, ?_⟩; replace BK477 := Aside0.mk (KeepBut.blk hk (g' := gb477) (o := .cells #[.slice none 0 0, .slice none 0 0, .int .i64 0] 35 (0, 0)) (ts13_ NB477_504.out BK477.out) NB477_478.out (by simp)); replace BK504 := Aside0.mk (KeepBut.blk hk (g' := gb504) (o := .cells #[.slice none 0 0, .slice none 0 0, .int .i64 t495] 35 (0, 0)) (ts32_ BK504.out) NB504_478.out (by simp)); replace HB := Aside0.mk (hb); replace HI478 := Aside0.mk (hi); clear hi hb hk))
 try go_frame
 go_loopg [] k (fun kq w' => ∃ (x479000_1 : ByteArray) (x479001_1 : Int) (x479002_1 : Int) (x479003_1 : Int) (x479004_1 : ByteArray) (x479005_1 : Int) (x479006_1 : Bool) (x479007_1 : Int) (x505001_1 : List Int) (u505001 : Value), Aside0 (cupelref20_Parse.l0 kq x479000_1 x479001_1 x479002_1 x479003_1 x479004_1 x479005_1 x479006_1 x479007_1 x505001_1 t495 = some (r1, r2, r3, r4, r5)) ∧ Aside0 (kq ≤ k) ∧ Aside0 (Kd.R (Kd.int .i64) 2 w' w.heap.size (fun _ => True) u505001 x505001_1) ∧ Aside0 (w'.heap[gb477]? = some (.cells #[(.slice none 0 0), (.slice none 0 0), .int .i64 0] 35 (0, 0))) ∧ Aside0 (w'.heap[gb504]? = some (.cells #[(.slice none 0 0), u505001, .int .i64 t495] 35 (0, 0))) ∧ Aside0 (IsS80 w w' gb478 x479000_1 x479001_1 x479002_1 x479003_1 x479004_1 x479005_1 x479006_1 x479007_1) ∧ Aside0 (Below w.heap.size w w'))
 case atStart => exact ⟨(t505), (t506), (t507), (t508), (t509), (t510), (t511), (t512), (([] : List Int)), (.slice none 0 0), H', ⟨Nat.le_refl _⟩, ⟨ts33_⟩, ⟨ts25_ BK477.out⟩, ⟨ts25_ BK504.out⟩, ⟨ts39_ HI478.out NB478_477.out NB478_504.out⟩, ⟨ts20_ HB.out HI478.out GE477.out GE504.out⟩⟩
 case round =>
  clear H' c2b0 c2b1 hcz17_0 hcz17_1 hcz17_2 hfz17_0 hfz17_1 hfz17_2
  obtain ⟨x479000_1, x479001_1, x479002_1, x479003_1, x479004_1, x479005_1, x479006_1, x479007_1, x505001_1, u505001, HA, HK1, HO_505001, BK477, BK504, HI478, HB⟩ := hrel
  cases gk with
  | zero => exact absurd HA.out (by simp [cupelref20_Parse.l0])
  | succ k1 =>
   have H := HA.out
   clear HA
   simp only [cupelref20_Parse.l0] at H
   obtain ⟨⟨t513, t514, t515, t516, t517, t518, t519, t520, t521⟩, A19, H⟩ := bsA_ H
   try dsimp only at H
   by_cases c20 : t513 = true
   ·subst c20
    rw [if_pos rfl] at H
    obtain ⟨⟨t522, t523, t524, t525, t526, t527, t528, t529, t530⟩, A21, H⟩ := bsA_ H
    try dsimp only at H
    by_cases c22 : x505001_1.length < 17592186044416
    ·rw [if_pos c22] at H
     have LMc22 := Aside0.mk c22
     clear c22
     obtain ⟨y531, hy531⟩ : ∃ y_ : List Int, y_ = (x505001_1 ++ [t522]) := ⟨_, rfl⟩
     replace H : ((cupelref20_reader_want.f k1 t523 t524 t525 t526 t527 t528 t529 t530 (⟨#[59]⟩ : ByteArray)).bind fun bt534 => (cupelref20_Parse.l0 k1 bt534.1 bt534.2.1 bt534.2.2.1 bt534.2.2.2.1 bt534.2.2.2.2.1 bt534.2.2.2.2.2.1 bt534.2.2.2.2.2.2.1 bt534.2.2.2.2.2.2.2 y531 t495)) = some (r1, r2, r3, r4, r5) := by first | (rw [hy531]; with_reducible exact H) | (have H2_ := (Option.bind_some _ _).symm.trans H; rw [hy531]; with_reducible exact H2_) | (have H2_ := (Option.bind_some _ _).symm.trans H; with_reducible exact H2_) | with_reducible exact H | (rw [hy531]; exact H) | exact H
     have Ny531 := Aside0.mk hy531
     clear hy531
     obtain ⟨⟨t534, t535, t536, t537, t538, t539, t540, t541⟩, A23, H⟩ := bsA_ H
     try dsimp only at H
     have H' := Aside0.mk H
     clear H
     try go_wp2_with (first | ((with_reducible refine gate_callee (f := 44) rfl ?_); refine goesL_ (some 29) rfl rfl Tryd.func44 (by kernel_rfl) rfl #[.pointer (some ⟨gb478, 0, none⟩), .string (⟨#[100, 97, 116, 97]⟩ : ByteArray)] rfl ts17_ ?_; (with_reducible refine (cupelref20_reader_take.calls k1 gb478 x479000_1 x479001_1 x479002_1 x479003_1 x479004_1 x479005_1 x479006_1 x479007_1 (⟨#[100, 97, 116, 97]⟩ : ByteArray) true t514 t515 t516 t517 t518 t519 t520 t521 w _ ?side1 ?side2 A19.out).mono ?_); (case side1 => exact ts39_ HI478.out NB478_477.out NB478_504.out); (case side2 => exact ts20_ HB.out HI478.out GE477.out GE504.out); rintro e w24 ⟨rfl, hi, hb, hk⟩; refine ⟨_, rfl, ?_⟩; replace HO_505001 := Aside0.mk (Kd.R_mono (Kd.R_keep (IsS80.apart (show IsS80 w _ gb478 x479000_1 x479001_1 x479002_1 x479003_1 x479004_1 x479005_1 x479006_1 x479007_1 from ts39_ HI478.out NB478_477.out NB478_504.out) (ts30_ HO_505001.out) (by decide)) hk (fun _ h => h.2)) (fun _ h => h.1)); replace BK477 := Aside0.mk (KeepBut.blk hk (g' := gb477) (o := .cells #[.slice none 0 0, .slice none 0 0, .int .i64 0] 35 (0, 0)) (ts25_ BK477.out) NB477_478.out (by simp)); replace BK504 := Aside0.mk (KeepBut.blk hk (g' := gb504) (o := .cells #[.slice none 0 0, u505001, .int .i64 t495] 35 (0, 0)) (ts25_ BK504.out) NB504_478.out (by simp)); replace HB := Aside0.mk (hb); replace HI478 := Aside0.mk (hi); clear hi hb hk))
     have n0_ := Aside0.mk (Kd.R_drew HO_505001.out)
     have n1_ := Aside0.mk (blk_drew BK477.out)
     have n2_ := Aside0.mk (blk_drew BK504.out)
     have n3_ := Aside0.mk (IsS80.drew HI478.out)
     have n4_ := Aside0.mk (below_drew1 HB.out)
     clear HO_505001 BK477 BK504 HI478 HB
     have HO_505001 := n0_
     have BK477 := n1_
     have BK504 := n2_
     have HI478 := n3_
     have HB := n4_
     clear n0_ n1_ n2_ n3_ n4_
     refine start_ (n := 8) (S := fun w' => w'.cell? ⟨gb504, 0, none⟩ = some (.slice none 0 0) ∧ w'.cell? ⟨gb504, 1, none⟩ = some (u505001) ∧ w'.cell? ⟨gb504, 2, none⟩ = some (.int .i64 t495)) (ds := [7]) #[false, false, false, false, false, false, false, false] (by kernel_rfl) rfl rfl ⟨(blk_cell BK504.out 0).trans rfl, (blk_cell BK504.out 1).trans rfl, (blk_cell BK504.out 2).trans rfl⟩ (fun hHeld => ?_); refine with_tabW cupelref20_Parse.tab9 cupelref20_Parse.bits9 (fun HT_ HW_ => ?_)
     generalize w24.drew = w25 at HO_505001 BK477 BK504 HI478 HB hHeld ⊢
     refine pure_ (i := 0) (N := some 30) (v := ?_) (a' := ?_) #[true, false, false, false, false, false, false, false] rfl rfl (any_of HT_.out (by kernel_rfl)) (fun _ _ _ h => h) (Or.inl ⟨by rfl, ?_⟩) ?_ ?_
     rotate_left
     ·intro w'
      go_simp
      with_reducible rfl
     rotate_left
     ·simp only [Act.put, List.setIfInBounds_toArray, List.set_cons_zero, List.set_cons_succ, i64_w, i32_w]
      rfl
     refine pure_ (i := 2) (N := some 32) (v := ?_) (a' := ?_) #[true, false, true, false, false, false, false, false] rfl rfl (any_of HT_.out (by kernel_rfl)) (fun _ _ _ h => h) (Or.inl ⟨by rfl, ?_⟩) ?_ ?_
     rotate_left
     ·intro w'
      go_simp
      with_reducible rfl
     rotate_left
     ·simp only [Act.put, List.setIfInBounds_toArray, List.set_cons_zero, List.set_cons_succ, i64_w, i32_w]
      rfl
     refine take_ (i := 1) (N := some 31) (v := ?_) (a' := ?_) #[true, true, true, false, false, false, false, false] rfl rfl (take_ofW HT_.out HW_.out (by kernel_rfl)) (fun _ _ _ h => h) (Or.inl ⟨by rfl, ?_⟩) hHeld ?_ ?_
     rotate_left
     ·rintro w' ⟨s0, s1, s2⟩
      go_simp
      with_reducible rfl
     rotate_left
     ·simp only [Act.put, List.setIfInBounds_toArray, List.set_cons_zero, List.set_cons_succ, i64_w, i32_w]
      rfl
     refine one_ (i := 3) (N := some 33) #[true, true, true, true, false, false, false, false] rfl rfl (one_of HT_.out (by kernel_rfl)) (by decide) (fun K hK => ?_)
     refine goes_ Tryd.func43 (by kernel_rfl) rfl #[.pointer (some ⟨gb478, 0, none⟩), .int .i64 2] (by rfl) rfl rfl ts17_ ?_
     with_reducible refine (cupelref20_reader_number.calls k1 gb478 t514 t515 t516 t517 t518 t519 t520 t521 2 t522 t523 t524 t525 t526 t527 t528 t529 t530 w _ ?side1 ?side2 A21.out).mono ?_
     (case side1 => exact ts39_ HI478.out NB478_477.out NB478_504.out)
     (case side2 => exact ts20_ HB.out HI478.out GE477.out GE504.out)
     rintro e w26 ⟨rfl, hi, hb, hk⟩
     refine ⟨_, rfl, ?_⟩
     have n0_ := Aside0.mk (Kd.R_mono (Kd.R_keep (IsS80.apart (show IsS80 w _ gb478 t514 t515 t516 t517 t518 t519 t520 t521 from ts39_ HI478.out NB478_477.out NB478_504.out) (ts30_ HO_505001.out) (by decide)) hk (fun _ h => h.2)) (fun _ h => h.1))
     have n1_ := Aside0.mk (KeepBut.blk hk (g' := gb477) (o := .cells #[.slice none 0 0, .slice none 0 0, .int .i64 0] 35 (0, 0)) (ts25_ BK477.out) NB477_478.out (by simp))
     have n2_ := Aside0.mk (KeepBut.blk hk (g' := gb504) (o := .cells #[.slice none 0 0, u505001, .int .i64 t495] 35 (0, 0)) (ts25_ BK504.out) NB504_478.out (by simp))
     have n3_ := Aside0.mk (hb)
     have n4_ := Aside0.mk (hi)
     clear HO_505001 BK477 BK504 HB HI478
     have HO_505001 := n0_
     have BK477 := n1_
     have BK504 := n2_
     have HB := n3_
     have HI478 := n4_
     clear n0_ n1_ n2_ n3_ n4_
     (try clear hb)
     (try clear hb2)
     (try clear hk)
     (try clear hi)
     refine hK.out _ _ ⟨(blk_cell BK504.out 0).trans rfl, (blk_cell BK504.out 1).trans rfl, (blk_cell BK504.out 2).trans rfl⟩ (fun hHeld => ?_)
     clear hK K
     refine norm_ (a' := ?_) ?_ ?_
     rotate_left
     ·show Act.put _ (some 33) _ = _
      simp only [Act.put, List.setIfInBounds_toArray, List.set_cons_zero, List.set_cons_succ, i64_w, i32_w]
      rfl
     refine one_ (i := 4) (N := some 34) #[true, true, true, true, true, false, false, false] rfl rfl (one_of HT_.out (by kernel_rfl)) (by decide) (fun K hK => ?_)
     refine value_ (w1 := ?_) (v := ?_) (by rfl) rfl ?_ ?_
     rotate_left 2
     ·go_simp
      constructor
      ·rfl
      rfl
     refine hK.out _ _ ⟨(blk_cell (blk_alloc BK504.out _) 0).trans rfl, (blk_cell (blk_alloc BK504.out _) 1).trans rfl, (blk_cell (blk_alloc BK504.out _) 2).trans rfl⟩ (fun hHeld => ?_)
     clear hK K
     refine norm_ (a' := ?_) ?_ ?_
     rotate_left
     ·show Act.put _ (some 34) _ = _
      simp only [Act.put, List.setIfInBounds_toArray, List.set_cons_zero, List.set_cons_succ, i64_w, i32_w]
      rfl
     refine one_ (i := 5) (N := some 35) #[true, true, true, true, true, true, false, false] rfl rfl (one_of HT_.out (by kernel_rfl)) (by decide) (fun K hK => ?_)
     refine Kd.R_append_step (Kd.int .i64) (w0 := w) w.heap.size (by rfl) (.tmp 31) (.tmp 34) 33 2 (.int .i64 0) 8 rfl Tryd.underlying33 info2 rfl (by decide) (by omega) u505001 x505001_1 t522 [.int .i64 t522] (fun _ => True) (fun _ => False) rfl rfl ?aP (fun _ hk => hk.elim) ?aF ?aO ?aB ?aS ?aL ?_
     (case aP => exact rfl)
     (case aB => exact (ts20_ HB.out HI478.out GE477.out GE504.out))
     (case aF => exact (fun _ _ => trivial))
     (case aO => exact (ts30_ HO_505001.out))
     (case aS => exact (below_size (ts20_ HB.out HI478.out GE477.out GE504.out)))
     (case aL => have := LMc22.out; omega)
     intro v532 w27 ho hb hg hat
     rw [← Ny531.out] at ho
     have n0_ := Aside0.mk (blk_grown (g := gb477) (o := .cells #[.slice none 0 0, .slice none 0 0, .int .i64 0] 35 (0, 0)) (ts25_ BK477.out) hg (Kd.R_ne HO_505001.out BK477.out (by decide)))
     have n1_ := Aside0.mk (blk_grown (g := gb504) (o := .cells #[.slice none 0 0, u505001, .int .i64 t495] 35 (0, 0)) (ts25_ BK504.out) hg (Kd.R_ne HO_505001.out BK504.out (by decide)))
     have n2_ := Aside0.mk (IsS80.grown (ts39_ HI478.out NB478_477.out NB478_504.out) hg (IsS80.own_ne HI478.out HO_505001.out (by decide)))
     have n3_ := Aside0.mk (hb)
     have n4_ := Aside0.mk (ho)
     clear BK477 BK504 HI478 HB HO_505001
     have BK477 := n0_
     have BK504 := n1_
     have HI478 := n2_
     have HB := n3_
     have HO533 := n4_
     clear n0_ n1_ n2_ n3_ n4_ ho hb hg hat
     obtain ⟨Ao28, co28, eo28⟩ := Kd.R_slice HO533.out
     (first | subst eo28 | (injection eo28 with f1_ f2_ f3_; have f4_ := f1_.symm; have f5_ := f3_.symm; clear f1_ f2_ f3_; subst f4_; subst f5_))
     refine hK.out _ _ ⟨(blk_cell BK504.out 0).trans rfl, (blk_cell BK504.out 1).trans rfl, (blk_cell BK504.out 2).trans rfl⟩ (fun hHeld => ?_)
     clear hK K
     refine norm_ (a' := ?_) ?_ ?_
     rotate_left
     ·show Act.put _ (some 35) _ = _
      simp only [Act.put, List.setIfInBounds_toArray, List.set_cons_zero, List.set_cons_succ, i64_w, i32_w]
      rfl
     refine pure_ (i := 6) (N := some 36) (v := ?_) (a' := ?_) #[true, true, true, true, true, true, true, false] rfl rfl (any_of HT_.out (by kernel_rfl)) (fun _ _ _ h => h) (Or.inl ⟨by rfl, ?_⟩) ?_ ?_
     rotate_left
     ·intro w'
      go_simp
      with_reducible rfl
     rotate_left
     ·simp only [Act.put, List.setIfInBounds_toArray, List.set_cons_zero, List.set_cons_succ, i64_w, i32_w]
      rfl
     refine last_ (i := 7) (N := none) #[true, true, true, true, true, true, true, true] rfl rfl (one_of HT_.out (by kernel_rfl)) (by decide) (fun K hK => ?_)
     have hs29 : w27.cell? ⟨gb504, 1, none⟩ = some (u505001) := (blk_cell BK504.out 1).trans rfl
     have hfs29 := blk_frozen BK504.out 1
     have hns29_0 := NB477_504.out
     have hms29_0 := NB504_477.out
     refine skip_ (w1 := ?_) (by rfl) rfl ?_ ?_
     rotate_left
     ·go_simp
      rfl
     refine hK.out _ _ ?_
     clear hK K
     refine done_ (done_of HT_.out (by kernel_rfl)) ?_
     try go_wp2_with (first | ((with_reducible refine gate_callee (f := 42) rfl ?_); refine goesL_ (some 38) rfl rfl Tryd.func42 (by kernel_rfl) rfl #[.pointer (some ⟨gb478, 0, none⟩), .string (⟨#[59]⟩ : ByteArray)] rfl ts17_ ?_; (with_reducible refine (cupelref20_reader_want.calls k1 gb478 t523 t524 t525 t526 t527 t528 t529 t530 (⟨#[59]⟩ : ByteArray) t534 t535 t536 t537 t538 t539 t540 t541 w _ ?side1 ?side2 A23.out).mono ?_); (case side1 => exact ts39_ HI478.out NB478_477.out NB478_504.out); (case side2 => exact ts20_ HB.out HI478.out GE477.out GE504.out); rintro e w30 ⟨rfl, hi, hb, hk⟩; refine ⟨_, rfl, ?_⟩; replace BK477 := Aside0.mk (KeepBut.blk hk (g' := gb477) (o := .cells #[.slice none 0 0, .slice none 0 0, .int .i64 0] 35 (0, 0)) (ts19_ NB477_504.out BK477.out) NB477_478.out (by simp)); replace HO533 := Aside0.mk (Kd.R_mono (Kd.R_keep (IsS80.apart (show IsS80 w _ gb478 t523 t524 t525 t526 t527 t528 t529 t530 from ts39_ HI478.out NB478_477.out NB478_504.out) (by (with_reducible repeat (first | apply Kd.R_alloc | apply Kd.R_drewN | apply Kd.R_drew)); exact (Kd.R_mono (Kd.R_far (p := ⟨gb504, 1, none⟩) (Kd.R_types HO533.out BK504.out (by decide)) (fun _ hk => hk.2) (.slice Ao28 y531.length co28)) (fun _ h_ => h_.1))) (by decide)) hk (fun _ h => h.2)) (fun _ h => h.1)); replace BK504 := Aside0.mk (KeepBut.blk hk (g' := gb504) (o := .cells #[.slice none 0 0, .slice Ao28 y531.length co28, .int .i64 t495] 35 (0, 0)) (by (with_reducible repeat (first | refine blk_drewN ?_ _ | refine blk_drew ?_ | refine blk_alloc ?_ _)); refine blk_put (cs := #[.slice none 0 0, u505001, .int .i64 t495]) ?_ 1 _ rfl; (with_reducible repeat (first | refine blk_drewN ?_ _ | refine blk_drew ?_ | refine blk_alloc ?_ _)); exact BK504.out) NB504_478.out (by simp)); replace HB := Aside0.mk (hb); replace HI478 := Aside0.mk (hi); clear hi hb hk))
     go_roundg k1
     case measure => have := HK1.out; omega
     case rel => exact ⟨(t534), (t535), (t536), (t537), (t538), (t539), (t540), (t541), (y531), (.slice Ao28 y531.length co28), H', ⟨by have := HK1.out; omega⟩, ⟨ts30_ HO533.out⟩, ⟨ts25_ BK477.out⟩, ⟨ts25_ BK504.out⟩, ⟨ts39_ HI478.out NB478_477.out NB478_504.out⟩, ⟨ts20_ HB.out HI478.out GE477.out GE504.out⟩⟩
    rw [if_neg c22] at H
    exact absurd H (by simp)
   replace c20 := Bool.eq_false_iff.mpr c20
   subst c20
   rw [if_neg Bool.false_ne_true] at H
   obtain ⟨t542, A31, H⟩ := bsA_ H
   try dsimp only at H
   have H' := Aside0.mk H
   clear H
   go_wp2_with (first | ((with_reducible refine gate_callee (f := 44) rfl ?_); refine goesL_ (some 29) rfl rfl Tryd.func44 (by kernel_rfl) rfl #[.pointer (some ⟨gb478, 0, none⟩), .string (⟨#[100, 97, 116, 97]⟩ : ByteArray)] rfl ts17_ ?_; (with_reducible refine (cupelref20_reader_take.calls k1 gb478 x479000_1 x479001_1 x479002_1 x479003_1 x479004_1 x479005_1 x479006_1 x479007_1 (⟨#[100, 97, 116, 97]⟩ : ByteArray) false t514 t515 t516 t517 t518 t519 t520 t521 w _ ?side1 ?side2 A19.out).mono ?_); (case side1 => exact ts39_ HI478.out NB478_477.out NB478_504.out); (case side2 => exact ts20_ HB.out HI478.out GE477.out GE504.out); rintro e w32 ⟨rfl, hi, hb, hk⟩; refine ⟨_, rfl, ?_⟩; replace HO_505001 := Aside0.mk (Kd.R_mono (Kd.R_keep (IsS80.apart (show IsS80 w _ gb478 x479000_1 x479001_1 x479002_1 x479003_1 x479004_1 x479005_1 x479006_1 x479007_1 from ts39_ HI478.out NB478_477.out NB478_504.out) (ts30_ HO_505001.out) (by decide)) hk (fun _ h => h.2)) (fun _ h => h.1)); replace BK477 := Aside0.mk (KeepBut.blk hk (g' := gb477) (o := .cells #[.slice none 0 0, .slice none 0 0, .int .i64 0] 35 (0, 0)) (ts25_ BK477.out) NB477_478.out (by simp)); replace BK504 := Aside0.mk (KeepBut.blk hk (g' := gb504) (o := .cells #[.slice none 0 0, u505001, .int .i64 t495] 35 (0, 0)) (ts25_ BK504.out) NB504_478.out (by simp)); replace HB := Aside0.mk (hb); replace HI478 := Aside0.mk (hi); clear hi hb hk) | ((with_reducible refine gate_callee (f := 45) rfl ?_); refine goesL_ (some 39) rfl rfl Tryd.func45 (by kernel_rfl) rfl #[] rfl ts17_ ?_; (with_reducible refine (cupelref20_rows.calls  t542 _ A31.out).mono ?_); rintro e w33 ⟨v543, rfl, ho0, hb⟩; refine ⟨_, rfl, ?_⟩; replace HO_505001 := Aside0.mk (Kd.R_below (ts30_ HO_505001.out) hb); have HO544 := Aside0.mk (Kd.R_lower ho0 (below_size (ts20_ HB.out HI478.out GE477.out GE504.out))); replace BK477 := Aside0.mk (blk_below (g := gb477) (o := .cells #[.slice none 0 0, .slice none 0 0, .int .i64 0] 35 (0, 0)) (ts25_ BK477.out) hb); replace BK504 := Aside0.mk (blk_below (g := gb504) (o := .cells #[.slice none 0 0, u505001, .int .i64 t495] 35 (0, 0)) (ts25_ BK504.out) hb); replace HB := Aside0.mk (below_step (ts20_ HB.out HI478.out GE477.out GE504.out) hb); replace HI478 := Aside0.mk (IsS80.below (ts39_ HI478.out NB478_477.out NB478_504.out) hb); clear hb; (try clear ho0)))
   try go_frame
   go_loopg [] k1 (fun kq w' => ∃ (x479000_2 : ByteArray) (x479001_2 : Int) (x479002_2 : Int) (x479003_2 : Int) (x479004_2 : ByteArray) (x479005_2 : Int) (x479006_2 : Bool) (x479007_2 : Int) (x505000_2 : List Int) (u505000 : Value), Aside0 (cupelref20_Parse.l1 kq t542 x479000_2 x479001_2 x479002_2 x479003_2 x479004_2 x479005_2 x479006_2 x479007_2 x505000_2 x505001_1 t495 = some (r1, r2, r3, r4, r5)) ∧ Aside0 (kq ≤ k1) ∧ Aside0 (Kd.R k56 56 w' w.heap.size (fun _ => True) v543 t542) ∧ Aside0 (Kd.R (Kd.int .u64) 48 w' w.heap.size (fun _ => True) u505000 x505000_2) ∧ Aside0 (Kd.R (Kd.int .i64) 2 w' w.heap.size (fun _ => True) u505001 x505001_1) ∧ Aside0 (w'.heap[gb477]? = some (.cells #[(.slice none 0 0), (.slice none 0 0), .int .i64 0] 35 (0, 0))) ∧ Aside0 (w'.heap[gb504]? = some (.cells #[u505000, u505001, .int .i64 t495] 35 (0, 0))) ∧ Aside0 (IsS80 w w' gb478 x479000_2 x479001_2 x479002_2 x479003_2 x479004_2 x479005_2 x479006_2 x479007_2) ∧ Aside0 (Below w.heap.size w w'))
   case atStart => exact ⟨(t514), (t515), (t516), (t517), (t518), (t519), (t520), (t521), (([] : List Int)), (.slice none 0 0), H', ⟨Nat.le_refl _⟩, ⟨ts30_ HO544.out⟩, ⟨ts33_⟩, ⟨ts30_ HO_505001.out⟩, ⟨ts25_ BK477.out⟩, ⟨ts25_ BK504.out⟩, ⟨ts39_ HI478.out NB478_477.out NB478_504.out⟩, ⟨ts20_ HB.out HI478.out GE477.out GE504.out⟩⟩
   case round =>
    clear H'
    obtain ⟨x479000_2, x479001_2, x479002_2, x479003_2, x479004_2, x479005_2, x479006_2, x479007_2, x505000_2, u505000, HA, HK2, HO_7, HO_505000, HO_505001, BK477, BK504, HI478, HB⟩ := hrel
    cases gk with
    | zero => exact absurd HA.out (by simp [cupelref20_Parse.l1])
    | succ k2 =>
     have H := HA.out
     clear HA
     simp only [cupelref20_Parse.l1] at H
     have HC34 := Aside0.mk H
     clear H
     go_upto_region 12 with (fail)
     go_cut [52] (fun v52 wc => ∃ (kq : Nat) (x52_33 : Bool), v52 = .bool x52_33 ∧ Aside0 (cupelref20_Parse.j2 kq t542 x52_33 x479000_2 x479001_2 x479002_2 x479003_2 x479004_2 x479005_2 x479006_2 x479007_2 x505000_2 x505001_1 t495 = some (r1, r2, r3, r4, r5)) ∧ Aside0 (kq ≤ k2) ∧ Aside0 (Kd.R k56 56 wc w.heap.size (fun _ => True) v543 t542) ∧ Aside0 (Kd.R (Kd.int .u64) 48 wc w.heap.size (fun _ => True) u505000 x505000_2) ∧ Aside0 (Kd.R (Kd.int .i64) 2 wc w.heap.size (fun _ => True) u505001 x505001_1) ∧ Aside0 (wc.heap[gb477]? = some (.cells #[(.slice none 0 0), (.slice none 0 0), .int .i64 0] 35 (0, 0))) ∧ Aside0 (wc.heap[gb504]? = some (.cells #[u505000, u505001, .int .i64 t495] 35 (0, 0))) ∧ Aside0 (IsS80 w wc gb478 x479000_2 x479001_2 x479002_2 x479003_2 x479004_2 x479005_2 x479006_2 x479007_2) ∧ Aside0 (Below w.heap.size w wc))
     case first =>
      have H := HC34.out
      clear HC34
      by_cases c35 : x479006_2 = true
      ·subst c35
       rw [if_pos rfl] at H
       have H' := Aside0.mk H
       clear H
       obtain ⟨HGz36, hgz36⟩ := HI478.out
       have hcz36_0 := cellS80_0 HGz36
       have hcz36_1 := cellS80_1 HGz36
       have hcz36_2 := cellS80_2 HGz36
       have hcz36_3 := cellS80_3 HGz36
       have hcz36_4 := cellS80_4 HGz36
       have hcz36_5 := cellS80_5 HGz36
       have hcz36_6 := cellS80_6 HGz36
       have hcz36_7 := cellS80_7 HGz36
       have hfz36_0 := blk_frozen HGz36 0
       have hfz36_1 := blk_frozen HGz36 1
       have hfz36_2 := blk_frozen HGz36 2
       have hfz36_3 := blk_frozen HGz36 3
       have hfz36_4 := blk_frozen HGz36 4
       have hfz36_5 := blk_frozen HGz36 5
       have hfz36_6 := blk_frozen HGz36 6
       have hfz36_7 := blk_frozen HGz36 7
       clear HGz36 hgz36
       go_wp2
       go_meet
       case rel => exact ⟨_, (false), ts51_, H', ⟨ts34_ HK1.out HK2.out⟩, ⟨ts30_ HO_7.out⟩, ⟨ts30_ HO_505000.out⟩, ⟨ts30_ HO_505001.out⟩, ⟨ts25_ BK477.out⟩, ⟨ts25_ BK504.out⟩, ⟨ts39_ HI478.out NB478_477.out NB478_504.out⟩, ⟨ts20_ HB.out HI478.out GE477.out GE504.out⟩⟩
      replace c35 := Bool.eq_false_iff.mpr c35
      subst c35
      rw [if_neg Bool.false_ne_true] at H
      have H' := Aside0.mk H
      clear H
      obtain ⟨HGz37, hgz37⟩ := HI478.out
      have hcz37_0 := cellS80_0 HGz37
      have hcz37_1 := cellS80_1 HGz37
      have hcz37_2 := cellS80_2 HGz37
      have hcz37_3 := cellS80_3 HGz37
      have hcz37_4 := cellS80_4 HGz37
      have hcz37_5 := cellS80_5 HGz37
      have hcz37_6 := cellS80_6 HGz37
      have hcz37_7 := cellS80_7 HGz37
      have hfz37_0 := blk_frozen HGz37 0
      have hfz37_1 := blk_frozen HGz37 1
      have hfz37_2 := blk_frozen HGz37 2
      have hfz37_3 := blk_frozen HGz37 3
      have hfz37_4 := blk_frozen HGz37 4
      have hfz37_5 := blk_frozen HGz37 5
      have hfz37_6 := blk_frozen HGz37 6
      have hfz37_7 := blk_frozen HGz37 7
      clear HGz37 hgz37
      go_wp2
      go_meet
      case rel => exact ⟨_, ((x479003_2 != 46)), ts51_, H', ⟨ts34_ HK1.out HK2.out⟩, ⟨ts30_ HO_7.out⟩, ⟨ts30_ HO_505000.out⟩, ⟨ts30_ HO_505001.out⟩, ⟨ts25_ BK477.out⟩, ⟨ts25_ BK504.out⟩, ⟨ts39_ HI478.out NB478_477.out NB478_504.out⟩, ⟨ts20_ HB.out HI478.out GE477.out GE504.out⟩⟩
     case rest =>
      clear HC34
      obtain ⟨kq, x52_33, rfl, HA, HJ33, HO_7, HO_505000, HO_505001, BK477, BK504, HI478, HB⟩ := hcut
      cases kq with
      | zero => exact absurd HA.out (by simp [cupelref20_Parse.j2])
      | succ kj33 =>
       have H := HA.out
       clear HA
       simp only [cupelref20_Parse.j2] at H
       by_cases c38 : x52_33 = true
       ·subst c38
        rw [if_pos rfl] at H
        have H' := Aside0.mk H
        clear H
        go_wp2
        try go_frame
        go_loopg [8, 9] kj33 (fun kq v8 v9 w' => ∃ (x8_4 : Bool) (x9_4 : Int) (x479000_4 : ByteArray) (x479001_4 : Int) (x479002_4 : Int) (x479003_4 : Int) (x479004_4 : ByteArray) (x479005_4 : Int) (x479006_4 : Bool) (x479007_4 : Int) (x505000_4 : List Int) (u505000 : Value), v8 = .bool x8_4 ∧ v9 = .int .i64 x9_4 ∧ Aside0 (cupelref20_Parse.l2 kq t542 x8_4 x9_4 x479000_4 x479001_4 x479002_4 x479003_4 x479004_4 x479005_4 x479006_4 x479007_4 x505000_4 x505001_1 t495 = some (r1, r2, r3, r4, r5)) ∧ Aside0 (kq ≤ kj33) ∧ Aside0 (Kd.R k56 56 w' w.heap.size (fun _ => True) v543 t542) ∧ Aside0 (Kd.R (Kd.int .u64) 48 w' w.heap.size (fun _ => True) u505000 x505000_4) ∧ Aside0 (Kd.R (Kd.int .i64) 2 w' w.heap.size (fun _ => True) u505001 x505001_1) ∧ Aside0 (w'.heap[gb477]? = some (.cells #[(.slice none 0 0), (.slice none 0 0), .int .i64 0] 35 (0, 0))) ∧ Aside0 (w'.heap[gb504]? = some (.cells #[u505000, u505001, .int .i64 t495] 35 (0, 0))) ∧ Aside0 (IsS80 w w' gb478 x479000_4 x479001_4 x479002_4 x479003_4 x479004_4 x479005_4 x479006_4 x479007_4) ∧ Aside0 (Below w.heap.size w w'))
        case atStart => exact ⟨(false), (0), (x479000_2), (x479001_2), (x479002_2), (x479003_2), (x479004_2), (x479005_2), (x479006_2), (x479007_2), (x505000_2), (u505000), ts51_, ts51_, H', ⟨Nat.le_refl _⟩, ⟨ts30_ HO_7.out⟩, ⟨ts30_ HO_505000.out⟩, ⟨ts30_ HO_505001.out⟩, ⟨ts25_ BK477.out⟩, ⟨ts25_ BK504.out⟩, ⟨ts39_ HI478.out NB478_477.out NB478_504.out⟩, ⟨ts20_ HB.out HI478.out GE477.out GE504.out⟩⟩
        case round =>
         clear H'
         obtain ⟨x8_4, x9_4, x479000_4, x479001_4, x479002_4, x479003_4, x479004_4, x479005_4, x479006_4, x479007_4, x505000_4, u505000, rfl, rfl, HA, HK4, HO_7, HO_505000, HO_505001, BK477, BK504, HI478, HB⟩ := hrel
         cases gk with
         | zero => exact absurd HA.out (by simp [cupelref20_Parse.l2])
         | succ k4 =>
          have H := HA.out
          clear HA
          simp only [cupelref20_Parse.l2] at H
          have HC39 := Aside0.mk H
          clear H
          go_upto_region 15 with (fail)
          go_cut [60] (fun v60 wc => ∃ (kq : Nat) (x60_38 : Bool), v60 = .bool x60_38 ∧ Aside0 (cupelref20_Parse.j4 kq t542 x8_4 x9_4 x60_38 x479000_4 x479001_4 x479002_4 x479003_4 x479004_4 x479005_4 x479006_4 x479007_4 x505000_4 x505001_1 t495 = some (r1, r2, r3, r4, r5)) ∧ Aside0 (kq ≤ k4) ∧ Aside0 (Kd.R k56 56 wc w.heap.size (fun _ => True) v543 t542) ∧ Aside0 (Kd.R (Kd.int .u64) 48 wc w.heap.size (fun _ => True) u505000 x505000_4) ∧ Aside0 (Kd.R (Kd.int .i64) 2 wc w.heap.size (fun _ => True) u505001 x505001_1) ∧ Aside0 (wc.heap[gb477]? = some (.cells #[(.slice none 0 0), (.slice none 0 0), .int .i64 0] 35 (0, 0))) ∧ Aside0 (wc.heap[gb504]? = some (.cells #[u505000, u505001, .int .i64 t495] 35 (0, 0))) ∧ Aside0 (IsS80 w wc gb478 x479000_4 x479001_4 x479002_4 x479003_4 x479004_4 x479005_4 x479006_4 x479007_4) ∧ Aside0 (Below w.heap.size w wc))
          case first =>
           have H := HC39.out
           clear HC39
           by_cases c40 : x9_4 < (t542.length : Int)
           ·rw [if_pos c40] at H
            have c40b0 : decide (x9_4 < (t542.length : Int)) = true := decide_eq_true c40
            clear c40
            (first | rw [c40b0] | (simp only [i64_w, i32_w]; rw [c40b0]) | skip)
            have H' := Aside0.mk H
            clear H
            obtain ⟨Ao41, co41, eo41⟩ := Kd.R_slice HO_7.out
            subst eo41
            go_wp2
            go_meet
            case rel => exact ⟨_, (!x8_4), ts51_, H', ⟨by have := HK1.out; have := HK2.out; have := HJ33.out; have := HK4.out; first | omega | exact Nat.le_refl _⟩, ⟨ts30_ HO_7.out⟩, ⟨ts30_ HO_505000.out⟩, ⟨ts30_ HO_505001.out⟩, ⟨ts25_ BK477.out⟩, ⟨ts25_ BK504.out⟩, ⟨ts39_ HI478.out NB478_477.out NB478_504.out⟩, ⟨ts20_ HB.out HI478.out GE477.out GE504.out⟩⟩
           rw [if_neg c40] at H
           have c40b0 : decide (x9_4 < (t542.length : Int)) = false := decide_eq_false c40
           clear c40
           (first | rw [c40b0] | (simp only [i64_w, i32_w]; rw [c40b0]) | skip)
           have H' := Aside0.mk H
           clear H
           obtain ⟨Ao42, co42, eo42⟩ := Kd.R_slice HO_7.out
           subst eo42
           go_wp2
           go_meet
           case rel => exact ⟨_, (false), ts51_, H', ⟨by have := HK1.out; have := HK2.out; have := HJ33.out; have := HK4.out; first | omega | exact Nat.le_refl _⟩, ⟨ts30_ HO_7.out⟩, ⟨ts30_ HO_505000.out⟩, ⟨ts30_ HO_505001.out⟩, ⟨ts25_ BK477.out⟩, ⟨ts25_ BK504.out⟩, ⟨ts39_ HI478.out NB478_477.out NB478_504.out⟩, ⟨ts20_ HB.out HI478.out GE477.out GE504.out⟩⟩
          case rest =>
           clear HC39
           obtain ⟨kq, x60_38, rfl, HA, HJ38, HO_7, HO_505000, HO_505001, BK477, BK504, HI478, HB⟩ := hcut
           cases kq with
           | zero => exact absurd HA.out (by simp [cupelref20_Parse.j4])
           | succ kj38 =>
            have H := HA.out
            clear HA
            simp only [cupelref20_Parse.j4] at H
            by_cases c43 : x60_38 = true
            ·subst c43
             rw [if_pos rfl] at H
             by_cases c44 : 0 ≤ x9_4
             ·rw [if_pos c44] at H
              have c44b0 : decide (0 ≤ x9_4) = true := decide_eq_true c44
              clear c44
              by_cases c45 : x9_4 < (t542.length : Int)
              ·rw [if_pos c45] at H
               have c45b0 : decide (x9_4 < (t542.length : Int)) = true := decide_eq_true c45
               clear c45
               obtain ⟨⟨t554, t555, t556, t557, t558, t559, t560, t561, t562⟩, A46, H⟩ := bsA_ H
               try dsimp only at H
               by_cases c47 : t554 = true
               ·subst c47
                rw [if_pos rfl] at H
                obtain ⟨⟨t564, t565, t566, t567, t568, t569, t570, t571, t572, t573, t574, t575, t576⟩, A48, H⟩ := bsA_ H
                try dsimp only at H
                by_cases c49 : t575 = true
                ·subst c49
                 rw [if_pos rfl] at H
                 have H' := Aside0.mk H
                 clear H
                 obtain ⟨Ao50, co50, eo50⟩ := Kd.R_slice HO_7.out
                 subst eo50
                 have p553 : 0 ≤ (x9_4 : Int) := of_decide_eq_true ts37_
                 have q553 : x9_4 < (t542.length : Int) := of_decide_eq_true ts37_
                 obtain ⟨ad553, e553, hx553_0, hx553_1, hx553_2, hx553_3, hx553_4, hx553_5⟩ := at_T56 (Kd.R_reads' HO_7.out).2.2 x9_4 p553 q553
                 cases e553
                 replace p553 := eq_true p553
                 replace q553 := eq_true q553
                 go_wp2_with (first | ((with_reducible refine gate_callee (f := 44) rfl ?_); refine goesL_ (some 69) rfl rfl Tryd.func44 (by kernel_rfl) rfl #[.pointer (some ⟨gb478, 0, none⟩), .string ((rd_T56 t542 x9_4).f1)] rfl ts17_ ?_; (with_reducible refine (cupelref20_reader_take.calls kj38 gb478 x479000_4 x479001_4 x479002_4 x479003_4 x479004_4 x479005_4 x479006_4 x479007_4 ((rd_T56 t542 x9_4).f1) true t555 t556 t557 t558 t559 t560 t561 t562 w _ ?side1 ?side2 A46.out).mono ?_); (case side1 => exact ts39_ HI478.out NB478_477.out NB478_504.out); (case side2 => exact ts20_ HB.out HI478.out GE477.out GE504.out); rintro e w51 ⟨rfl, hi, hb, hk⟩; refine ⟨_, rfl, ?_⟩; replace HO_7 := Aside0.mk (Kd.R_mono (Kd.R_keep (IsS80.apart (show IsS80 w _ gb478 x479000_4 x479001_4 x479002_4 x479003_4 x479004_4 x479005_4 x479006_4 x479007_4 from ts39_ HI478.out NB478_477.out NB478_504.out) (ts30_ HO_7.out) (by decide)) hk (fun _ h => h.2)) (fun _ h => h.1)); replace HO_505000 := Aside0.mk (Kd.R_mono (Kd.R_keep (IsS80.apart (show IsS80 w _ gb478 x479000_4 x479001_4 x479002_4 x479003_4 x479004_4 x479005_4 x479006_4 x479007_4 from ts39_ HI478.out NB478_477.out NB478_504.out) (ts30_ HO_505000.out) (by decide)) hk (fun _ h => h.2)) (fun _ h => h.1)); replace HO_505001 := Aside0.mk (Kd.R_mono (Kd.R_keep (IsS80.apart (show IsS80 w _ gb478 x479000_4 x479001_4 x479002_4 x479003_4 x479004_4 x479005_4 x479006_4 x479007_4 from ts39_ HI478.out NB478_477.out NB478_504.out) (ts30_ HO_505001.out) (by decide)) hk (fun _ h => h.2)) (fun _ h => h.1)); replace BK477 := Aside0.mk (KeepBut.blk hk (g' := gb477) (o := .cells #[.slice none 0 0, .slice none 0 0, .int .i64 0] 35 (0, 0)) (ts25_ BK477.out) NB477_478.out (by simp)); replace BK504 := Aside0.mk (KeepBut.blk hk (g' := gb504) (o := .cells #[u505000, u505001, .int .i64 t495] 35 (0, 0)) (ts25_ BK504.out) NB504_478.out (by simp)); replace HB := Aside0.mk (hb); replace HI478 := Aside0.mk (hi); clear hi hb hk; have p563 : 0 ≤ (x9_4 : Int) := of_decide_eq_true ts37_; have q563 : x9_4 < (t542.length : Int) := of_decide_eq_true ts37_; obtain ⟨ad563, e563, hx563_0, hx563_1, hx563_2, hx563_3, hx563_4, hx563_5⟩ := at_T56 (Kd.R_reads' HO_7.out).2.2 x9_4 p563 q563; obtain rfl : ad553 = ad563 := (by injection e563); replace p563 := eq_true p563; replace q563 := eq_true q563) | ((with_reducible refine gate_callee (f := 46) rfl ?_); refine goesL_ (some 75) rfl rfl Tryd.func46 (by kernel_rfl) rfl #[.pointer (some ⟨gb478, 0, none⟩), .agg #[.int .i64 ((rd_T56 t542 x9_4).f0), .string ((rd_T56 t542 x9_4).f1), .bool ((rd_T56 t542 x9_4).f2), .bool ((rd_T56 t542 x9_4).f3), .bool ((rd_T56 t542 x9_4).f4), .int .i64 ((rd_T56 t542 x9_4).f5)]] rfl ts17_ ?_; (with_reducible refine (cupelref20_reader_instr.calls kj38 gb478 t555 t556 t557 t558 t559 t560 t561 t562 ((rd_T56 t542 x9_4).f0) ((rd_T56 t542 x9_4).f1) ((rd_T56 t542 x9_4).f2) ((rd_T56 t542 x9_4).f3) ((rd_T56 t542 x9_4).f4) ((rd_T56 t542 x9_4).f5) t564 t565 t566 t567 t568 t569 t570 t571 t572 t573 t574 true t576 w _ ?side1 ?side2 A48.out).mono ?_); (case side1 => exact ts39_ HI478.out NB478_477.out NB478_504.out); (case side2 => exact ts20_ HB.out HI478.out GE477.out GE504.out); rintro e w52 ⟨rfl, hi, hb, hk⟩; refine ⟨_, rfl, ?_⟩; replace HO_7 := Aside0.mk (Kd.R_mono (Kd.R_keep (IsS80.apart (show IsS80 w _ gb478 t555 t556 t557 t558 t559 t560 t561 t562 from ts39_ HI478.out NB478_477.out NB478_504.out) (ts30_ HO_7.out) (by decide)) hk (fun _ h => h.2)) (fun _ h => h.1)); replace HO_505000 := Aside0.mk (Kd.R_mono (Kd.R_keep (IsS80.apart (show IsS80 w _ gb478 t555 t556 t557 t558 t559 t560 t561 t562 from ts39_ HI478.out NB478_477.out NB478_504.out) (ts30_ HO_505000.out) (by decide)) hk (fun _ h => h.2)) (fun _ h => h.1)); replace HO_505001 := Aside0.mk (Kd.R_mono (Kd.R_keep (IsS80.apart (show IsS80 w _ gb478 t555 t556 t557 t558 t559 t560 t561 t562 from ts39_ HI478.out NB478_477.out NB478_504.out) (ts30_ HO_505001.out) (by decide)) hk (fun _ h => h.2)) (fun _ h => h.1)); replace BK477 := Aside0.mk (KeepBut.blk hk (g' := gb477) (o := .cells #[.slice none 0 0, .slice none 0 0, .int .i64 0] 35 (0, 0)) (ts25_ BK477.out) NB477_478.out (by simp)); replace BK504 := Aside0.mk (KeepBut.blk hk (g' := gb504) (o := .cells #[u505000, u505001, .int .i64 t495] 35 (0, 0)) (ts25_ BK504.out) NB504_478.out (by simp)); replace HB := Aside0.mk (hb); replace HI478 := Aside0.mk (hi); clear hi hb hk) | ((with_reducible refine gate_dst (N := 10) rfl ?_); refine box_event ?hg (N := 10) ?hd (cs := #[.int .i64 0, .int .i64 0, .int .i64 0, .int .i64 0, .int .i64 0]) (t := 26) ?hr ?_; (case hd => rfl); (case hg => rfl); (case hr => exact ts26_); intro gb577 hg w53 hbox hb; replace HO_7 := Aside0.mk (Kd.R_below (ts30_ HO_7.out) hb); replace HO_505000 := Aside0.mk (Kd.R_below (ts30_ HO_505000.out) hb); replace HO_505001 := Aside0.mk (Kd.R_below (ts30_ HO_505001.out) hb); have BK577 := Aside0.mk (hbox); have GW577 := Aside0.mk ((by rw [hg]; exact (below_size (ts20_ HB.out HI478.out GE477.out GE504.out)) : w.heap.size ≤ gb577)); have GE577 := Aside0.mk ((by rw [hg]; exact (below_size (ts20_ HB.out HI478.out GE477.out GE504.out)) : w.heap.size ≤ gb577)); replace HB := Aside0.mk (below_step (ts20_ HB.out HI478.out GE477.out GE504.out) hb); have NB477_577 := Aside0.mk ((ts70_ BK477.out : gb477 ≠ gb577)); have NB577_477 := Aside0.mk ((ts75_ BK477.out : gb577 ≠ gb477)); replace BK477 := Aside0.mk (blk_below (g := gb477) (o := .cells #[.slice none 0 0, .slice none 0 0, .int .i64 0] 35 (0, 0)) (ts25_ BK477.out) hb); have NB504_577 := Aside0.mk ((by rw [hg]; exact Nat.ne_of_lt (blk_lt (g := gb504) (o := .cells #[u505000, u505001, .int .i64 t495] 35 (0, 0)) (ts25_ BK504.out)) : gb504 ≠ gb577)); have NB577_504 := Aside0.mk ((by rw [hg]; exact Nat.ne_of_gt (blk_lt (g := gb504) (o := .cells #[u505000, u505001, .int .i64 t495] 35 (0, 0)) (ts25_ BK504.out)) : gb577 ≠ gb504)); replace BK504 := Aside0.mk (blk_below (g := gb504) (o := .cells #[u505000, u505001, .int .i64 t495] 35 (0, 0)) (ts25_ BK504.out) hb); have NB478_577 := Aside0.mk ((by rw [hg]; exact Nat.ne_of_lt (IsS80.lt (show IsS80 w _ gb478 t569 t570 t571 t572 t573 t574 true t576 from ts39_ HI478.out NB478_477.out NB478_504.out)) : gb478 ≠ gb577)); have NB577_478 := Aside0.mk ((by rw [hg]; exact Nat.ne_of_gt (IsS80.lt (show IsS80 w _ gb478 t569 t570 t571 t572 t573 t574 true t576 from ts39_ HI478.out NB478_477.out NB478_504.out)) : gb577 ≠ gb478)); replace HI478 := Aside0.mk (IsS80.below (ts39_ HI478.out NB478_477.out NB478_504.out) hb); clear hb hbox hg; have hnb54 := NB577_477.out; have hnc54 := NB477_577.out; have hnb55 := NB577_504.out; have hnc55 := NB504_577.out; have hnb56 := NB577_478.out; have hnc56 := NB478_577.out; have hcz57_0 : w53.cell? ⟨gb577, 0, none⟩ = some (.int .i64 0) := (blk_cell BK577.out 0).trans rfl; have hcz57_1 : w53.cell? ⟨gb577, 1, none⟩ = some (.int .i64 0) := (blk_cell BK577.out 1).trans rfl; have hcz57_2 : w53.cell? ⟨gb577, 2, none⟩ = some (.int .i64 0) := (blk_cell BK577.out 2).trans rfl; have hcz57_3 : w53.cell? ⟨gb577, 3, none⟩ = some (.int .i64 0) := (blk_cell BK577.out 3).trans rfl; have hcz57_4 : w53.cell? ⟨gb577, 4, none⟩ = some (.int .i64 0) := (blk_cell BK577.out 4).trans rfl; have hfz57_0 := blk_frozen BK577.out 0; have hfz57_1 := blk_frozen BK577.out 1; have hfz57_2 := blk_frozen BK577.out 2; have hfz57_3 := blk_frozen BK577.out 3; have hfz57_4 := blk_frozen BK577.out 4; obtain ⟨HGz58, hgz58⟩ := HI478.out; have hcz58_0 := cellS80_0 HGz58; have hcz58_1 := cellS80_1 HGz58; have hcz58_2 := cellS80_2 HGz58; have hcz58_3 := cellS80_3 HGz58; have hcz58_4 := cellS80_4 HGz58; have hcz58_5 := cellS80_5 HGz58; have hcz58_6 := cellS80_6 HGz58; have hcz58_7 := cellS80_7 HGz58; have hfz58_0 := blk_frozen HGz58 0; have hfz58_1 := blk_frozen HGz58 1; have hfz58_2 := blk_frozen HGz58 2; have hfz58_3 := blk_frozen HGz58 3; have hfz58_4 := blk_frozen HGz58 4; have hfz58_5 := blk_frozen HGz58 5; have hfz58_6 := blk_frozen HGz58 6; have hfz58_7 := blk_frozen HGz58 7; clear HGz58 hgz58))
                 go_roundg kj38
                 case measure => have := HK1.out; have := HK2.out; have := HJ33.out; have := HK4.out; have := HJ38.out; omega
                 case rel => exact ⟨(true), (wrap64 (x9_4 + 1)), (t569), (t570), (t571), (t572), (t573), (t574), (true), (t576), (x505000_4), (u505000), ts51_, ts51_, H', ⟨ts10_ HK1.out HK2.out HJ33.out HK4.out HJ38.out⟩, ⟨ts45_ HO_7.out BK577.out⟩, ⟨ts45_ HO_505000.out BK577.out⟩, ⟨ts45_ HO_505001.out BK577.out⟩, ⟨ts11_ NB477_577.out BK477.out⟩, ⟨ts11_ NB504_577.out BK504.out⟩, ⟨ts16_ HI478.out NB478_477.out NB478_504.out NB478_577.out⟩, ⟨ts8_ HB.out HI478.out GE477.out GE504.out GE577.out⟩⟩
                replace c49 := Bool.eq_false_iff.mpr c49
                subst c49
                rw [if_neg Bool.false_ne_true] at H
                obtain ⟨t578, A59, H⟩ := bsA_ H
                try dsimp only at H
                by_cases c60 : x505000_4.length + t578.length < 17592186044416
                ·rw [if_pos c60] at H
                 have LMc60 := Aside0.mk c60
                 clear c60
                 obtain ⟨y581, hy581⟩ : ∃ y_ : List Int, y_ = (x505000_4 ++ t578) := ⟨_, rfl⟩
                 replace H : (cupelref20_Parse.l2 kj38 t542 true (wrap64 (x9_4 + 1)) t569 t570 t571 t572 t573 t574 false t576 y581 x505001_1 t495) = some (r1, r2, r3, r4, r5) := by first | (rw [hy581]; with_reducible exact H) | (have H2_ := (Option.bind_some _ _).symm.trans H; rw [hy581]; with_reducible exact H2_) | (have H2_ := (Option.bind_some _ _).symm.trans H; with_reducible exact H2_) | with_reducible exact H | (rw [hy581]; exact H) | exact H
                 have Ny581 := Aside0.mk hy581
                 clear hy581
                 have H' := Aside0.mk H
                 clear H
                 obtain ⟨Ao61, co61, eo61⟩ := Kd.R_slice HO_7.out
                 subst eo61
                 have p553 : 0 ≤ (x9_4 : Int) := of_decide_eq_true ts37_
                 have q553 : x9_4 < (t542.length : Int) := of_decide_eq_true ts37_
                 obtain ⟨ad553, e553, hx553_0, hx553_1, hx553_2, hx553_3, hx553_4, hx553_5⟩ := at_T56 (Kd.R_reads' HO_7.out).2.2 x9_4 p553 q553
                 cases e553
                 replace p553 := eq_true p553
                 replace q553 := eq_true q553
                 try go_wp2_with (first | ((with_reducible refine gate_callee (f := 44) rfl ?_); refine goesL_ (some 69) rfl rfl Tryd.func44 (by kernel_rfl) rfl #[.pointer (some ⟨gb478, 0, none⟩), .string ((rd_T56 t542 x9_4).f1)] rfl ts17_ ?_; (with_reducible refine (cupelref20_reader_take.calls kj38 gb478 x479000_4 x479001_4 x479002_4 x479003_4 x479004_4 x479005_4 x479006_4 x479007_4 ((rd_T56 t542 x9_4).f1) true t555 t556 t557 t558 t559 t560 t561 t562 w _ ?side1 ?side2 A46.out).mono ?_); (case side1 => exact ts39_ HI478.out NB478_477.out NB478_504.out); (case side2 => exact ts20_ HB.out HI478.out GE477.out GE504.out); rintro e w62 ⟨rfl, hi, hb, hk⟩; refine ⟨_, rfl, ?_⟩; replace HO_7 := Aside0.mk (Kd.R_mono (Kd.R_keep (IsS80.apart (show IsS80 w _ gb478 x479000_4 x479001_4 x479002_4 x479003_4 x479004_4 x479005_4 x479006_4 x479007_4 from ts39_ HI478.out NB478_477.out NB478_504.out) (ts30_ HO_7.out) (by decide)) hk (fun _ h => h.2)) (fun _ h => h.1)); replace HO_505000 := Aside0.mk (Kd.R_mono (Kd.R_keep (IsS80.apart (show IsS80 w _ gb478 x479000_4 x479001_4 x479002_4 x479003_4 x479004_4 x479005_4 x479006_4 x479007_4 from ts39_ HI478.out NB478_477.out NB478_504.out) (ts30_ HO_505000.out) (by decide)) hk (fun _ h => h.2)) (fun _ h => h.1)); replace HO_505001 := Aside0.mk (Kd.R_mono (Kd.R_keep (IsS80.apart (show IsS80 w _ gb478 x479000_4 x479001_4 x479002_4 x479003_4 x479004_4 x479005_4 x479006_4 x479007_4 from ts39_ HI478.out NB478_477.out NB478_504.out) (ts30_ HO_505001.out) (by decide)) hk (fun _ h => h.2)) (fun _ h => h.1)); replace BK477 := Aside0.mk (KeepBut.blk hk (g' := gb477) (o := .cells #[.slice none 0 0, .slice none 0 0, .int .i64 0] 35 (0, 0)) (ts25_ BK477.out) NB477_478.out (by simp)); replace BK504 := Aside0.mk (KeepBut.blk hk (g' := gb504) (o := .cells #[u505000, u505001, .int .i64 t495] 35 (0, 0)) (ts25_ BK504.out) NB504_478.out (by simp)); replace HB := Aside0.mk (hb); replace HI478 := Aside0.mk (hi); clear hi hb hk; have p563 : 0 ≤ (x9_4 : Int) := of_decide_eq_true ts37_; have q563 : x9_4 < (t542.length : Int) := of_decide_eq_true ts37_; obtain ⟨ad563, e563, hx563_0, hx563_1, hx563_2, hx563_3, hx563_4, hx563_5⟩ := at_T56 (Kd.R_reads' HO_7.out).2.2 x9_4 p563 q563; obtain rfl : ad553 = ad563 := (by injection e563); replace p563 := eq_true p563; replace q563 := eq_true q563) | ((with_reducible refine gate_callee (f := 46) rfl ?_); refine goesL_ (some 75) rfl rfl Tryd.func46 (by kernel_rfl) rfl #[.pointer (some ⟨gb478, 0, none⟩), .agg #[.int .i64 ((rd_T56 t542 x9_4).f0), .string ((rd_T56 t542 x9_4).f1), .bool ((rd_T56 t542 x9_4).f2), .bool ((rd_T56 t542 x9_4).f3), .bool ((rd_T56 t542 x9_4).f4), .int .i64 ((rd_T56 t542 x9_4).f5)]] rfl ts17_ ?_; (with_reducible refine (cupelref20_reader_instr.calls kj38 gb478 t555 t556 t557 t558 t559 t560 t561 t562 ((rd_T56 t542 x9_4).f0) ((rd_T56 t542 x9_4).f1) ((rd_T56 t542 x9_4).f2) ((rd_T56 t542 x9_4).f3) ((rd_T56 t542 x9_4).f4) ((rd_T56 t542 x9_4).f5) t564 t565 t566 t567 t568 t569 t570 t571 t572 t573 t574 false t576 w _ ?side1 ?side2 A48.out).mono ?_); (case side1 => exact ts39_ HI478.out NB478_477.out NB478_504.out); (case side2 => exact ts20_ HB.out HI478.out GE477.out GE504.out); rintro e w63 ⟨rfl, hi, hb, hk⟩; refine ⟨_, rfl, ?_⟩; replace HO_7 := Aside0.mk (Kd.R_mono (Kd.R_keep (IsS80.apart (show IsS80 w _ gb478 t555 t556 t557 t558 t559 t560 t561 t562 from ts39_ HI478.out NB478_477.out NB478_504.out) (ts30_ HO_7.out) (by decide)) hk (fun _ h => h.2)) (fun _ h => h.1)); replace HO_505000 := Aside0.mk (Kd.R_mono (Kd.R_keep (IsS80.apart (show IsS80 w _ gb478 t555 t556 t557 t558 t559 t560 t561 t562 from ts39_ HI478.out NB478_477.out NB478_504.out) (ts30_ HO_505000.out) (by decide)) hk (fun _ h => h.2)) (fun _ h => h.1)); replace HO_505001 := Aside0.mk (Kd.R_mono (Kd.R_keep (IsS80.apart (show IsS80 w _ gb478 t555 t556 t557 t558 t559 t560 t561 t562 from ts39_ HI478.out NB478_477.out NB478_504.out) (ts30_ HO_505001.out) (by decide)) hk (fun _ h => h.2)) (fun _ h => h.1)); replace BK477 := Aside0.mk (KeepBut.blk hk (g' := gb477) (o := .cells #[.slice none 0 0, .slice none 0 0, .int .i64 0] 35 (0, 0)) (ts25_ BK477.out) NB477_478.out (by simp)); replace BK504 := Aside0.mk (KeepBut.blk hk (g' := gb504) (o := .cells #[u505000, u505001, .int .i64 t495] 35 (0, 0)) (ts25_ BK504.out) NB504_478.out (by simp)); replace HB := Aside0.mk (hb); replace HI478 := Aside0.mk (hi); clear hi hb hk) | ((with_reducible refine gate_dst (N := 10) rfl ?_); refine box_event ?hg (N := 10) ?hd (cs := #[.int .i64 0, .int .i64 0, .int .i64 0, .int .i64 0, .int .i64 0]) (t := 26) ?hr ?_; (case hd => rfl); (case hg => rfl); (case hr => exact ts26_); intro gb577 hg w64 hbox hb; replace HO_7 := Aside0.mk (Kd.R_below (ts30_ HO_7.out) hb); replace HO_505000 := Aside0.mk (Kd.R_below (ts30_ HO_505000.out) hb); replace HO_505001 := Aside0.mk (Kd.R_below (ts30_ HO_505001.out) hb); have BK577 := Aside0.mk (hbox); have GW577 := Aside0.mk ((by rw [hg]; exact (below_size (ts20_ HB.out HI478.out GE477.out GE504.out)) : w.heap.size ≤ gb577)); have GE577 := Aside0.mk ((by rw [hg]; exact (below_size (ts20_ HB.out HI478.out GE477.out GE504.out)) : w.heap.size ≤ gb577)); replace HB := Aside0.mk (below_step (ts20_ HB.out HI478.out GE477.out GE504.out) hb); have NB477_577 := Aside0.mk ((ts70_ BK477.out : gb477 ≠ gb577)); have NB577_477 := Aside0.mk ((ts75_ BK477.out : gb577 ≠ gb477)); replace BK477 := Aside0.mk (blk_below (g := gb477) (o := .cells #[.slice none 0 0, .slice none 0 0, .int .i64 0] 35 (0, 0)) (ts25_ BK477.out) hb); have NB504_577 := Aside0.mk ((by rw [hg]; exact Nat.ne_of_lt (blk_lt (g := gb504) (o := .cells #[u505000, u505001, .int .i64 t495] 35 (0, 0)) (ts25_ BK504.out)) : gb504 ≠ gb577)); have NB577_504 := Aside0.mk ((by rw [hg]; exact Nat.ne_of_gt (blk_lt (g := gb504) (o := .cells #[u505000, u505001, .int .i64 t495] 35 (0, 0)) (ts25_ BK504.out)) : gb577 ≠ gb504)); replace BK504 := Aside0.mk (blk_below (g := gb504) (o := .cells #[u505000, u505001, .int .i64 t495] 35 (0, 0)) (ts25_ BK504.out) hb); have NB478_577 := Aside0.mk ((by rw [hg]; exact Nat.ne_of_lt (IsS80.lt (show IsS80 w _ gb478 t569 t570 t571 t572 t573 t574 false t576 from ts39_ HI478.out NB478_477.out NB478_504.out)) : gb478 ≠ gb577)); have NB577_478 := Aside0.mk ((by rw [hg]; exact Nat.ne_of_gt (IsS80.lt (show IsS80 w _ gb478 t569 t570 t571 t572 t573 t574 false t576 from ts39_ HI478.out NB478_477.out NB478_504.out)) : gb577 ≠ gb478)); replace HI478 := Aside0.mk (IsS80.below (ts39_ HI478.out NB478_477.out NB478_504.out) hb); clear hb hbox hg; have hnb65 := NB577_477.out; have hnc65 := NB477_577.out; have hnb66 := NB577_504.out; have hnc66 := NB504_577.out; have hnb67 := NB577_478.out; have hnc67 := NB478_577.out; have hcz68_0 : w64.cell? ⟨gb577, 0, none⟩ = some (.int .i64 0) := (blk_cell BK577.out 0).trans rfl; have hcz68_1 : w64.cell? ⟨gb577, 1, none⟩ = some (.int .i64 0) := (blk_cell BK577.out 1).trans rfl; have hcz68_2 : w64.cell? ⟨gb577, 2, none⟩ = some (.int .i64 0) := (blk_cell BK577.out 2).trans rfl; have hcz68_3 : w64.cell? ⟨gb577, 3, none⟩ = some (.int .i64 0) := (blk_cell BK577.out 3).trans rfl; have hcz68_4 : w64.cell? ⟨gb577, 4, none⟩ = some (.int .i64 0) := (blk_cell BK577.out 4).trans rfl; have hfz68_0 := blk_frozen BK577.out 0; have hfz68_1 := blk_frozen BK577.out 1; have hfz68_2 := blk_frozen BK577.out 2; have hfz68_3 := blk_frozen BK577.out 3; have hfz68_4 := blk_frozen BK577.out 4; obtain ⟨HGz69, hgz69⟩ := HI478.out; have hcz69_0 := cellS80_0 HGz69; have hcz69_1 := cellS80_1 HGz69; have hcz69_2 := cellS80_2 HGz69; have hcz69_3 := cellS80_3 HGz69; have hcz69_4 := cellS80_4 HGz69; have hcz69_5 := cellS80_5 HGz69; have hcz69_6 := cellS80_6 HGz69; have hcz69_7 := cellS80_7 HGz69; have hfz69_0 := blk_frozen HGz69 0; have hfz69_1 := blk_frozen HGz69 1; have hfz69_2 := blk_frozen HGz69 2; have hfz69_3 := blk_frozen HGz69 3; have hfz69_4 := blk_frozen HGz69 4; have hfz69_5 := blk_frozen HGz69 5; have hfz69_6 := blk_frozen HGz69 6; have hfz69_7 := blk_frozen HGz69 7; clear HGz69 hgz69))
                 have n0_ : Aside0 (Kd.R k56 56 (((((w64.setCell ⟨gb577, 0, none⟩ (.int .i64 t564)).setCell ⟨gb577, 1, none⟩ (.int .i64 t565)).setCell ⟨gb577, 2, none⟩ (.int .i64 t566)).setCell ⟨gb577, 3, none⟩ (.int .i64 t567)).setCell ⟨gb577, 4, none⟩ (.int .i64 t568)) w.heap.size (fun _ => True) (.slice (some ad553) t542.length co61) t542) := ⟨ts45_ HO_7.out BK577.out⟩
                 have n1_ : Aside0 (Kd.R (Kd.int .u64) 48 (((((w64.setCell ⟨gb577, 0, none⟩ (.int .i64 t564)).setCell ⟨gb577, 1, none⟩ (.int .i64 t565)).setCell ⟨gb577, 2, none⟩ (.int .i64 t566)).setCell ⟨gb577, 3, none⟩ (.int .i64 t567)).setCell ⟨gb577, 4, none⟩ (.int .i64 t568)) w.heap.size (fun _ => True) u505000 x505000_4) := ⟨ts45_ HO_505000.out BK577.out⟩
                 have n2_ : Aside0 (Kd.R (Kd.int .i64) 2 (((((w64.setCell ⟨gb577, 0, none⟩ (.int .i64 t564)).setCell ⟨gb577, 1, none⟩ (.int .i64 t565)).setCell ⟨gb577, 2, none⟩ (.int .i64 t566)).setCell ⟨gb577, 3, none⟩ (.int .i64 t567)).setCell ⟨gb577, 4, none⟩ (.int .i64 t568)) w.heap.size (fun _ => True) u505001 x505001_1) := ⟨ts45_ HO_505001.out BK577.out⟩
                 have n3_ : Aside0 ((((((w64.setCell ⟨gb577, 0, none⟩ (.int .i64 t564)).setCell ⟨gb577, 1, none⟩ (.int .i64 t565)).setCell ⟨gb577, 2, none⟩ (.int .i64 t566)).setCell ⟨gb577, 3, none⟩ (.int .i64 t567)).setCell ⟨gb577, 4, none⟩ (.int .i64 t568)).heap[gb477]? = some (.cells #[.slice none 0 0, .slice none 0 0, .int .i64 0] 35 (0, 0))) := ⟨ts11_ NB477_577.out BK477.out⟩
                 have n4_ : Aside0 ((((((w64.setCell ⟨gb577, 0, none⟩ (.int .i64 t564)).setCell ⟨gb577, 1, none⟩ (.int .i64 t565)).setCell ⟨gb577, 2, none⟩ (.int .i64 t566)).setCell ⟨gb577, 3, none⟩ (.int .i64 t567)).setCell ⟨gb577, 4, none⟩ (.int .i64 t568)).heap[gb504]? = some (.cells #[u505000, u505001, .int .i64 t495] 35 (0, 0))) := ⟨ts11_ NB504_577.out BK504.out⟩
                 have n5_ : Aside0 ((((((w64.setCell ⟨gb577, 0, none⟩ (.int .i64 t564)).setCell ⟨gb577, 1, none⟩ (.int .i64 t565)).setCell ⟨gb577, 2, none⟩ (.int .i64 t566)).setCell ⟨gb577, 3, none⟩ (.int .i64 t567)).setCell ⟨gb577, 4, none⟩ (.int .i64 t568)).heap[gb577]? = some (.cells #[.int .i64 t564, .int .i64 t565, .int .i64 t566, .int .i64 t567, .int .i64 t568] 26 (0, 0))) := ⟨by (with_reducible repeat (first | refine blk_drewN ?_ _ | refine blk_drew ?_ | refine blk_alloc ?_ _)); refine blk_put (cs := #[.int .i64 t564, .int .i64 t565, .int .i64 t566, .int .i64 t567, .int .i64 0]) ?_ 4 _ rfl; (with_reducible repeat (first | refine blk_drewN ?_ _ | refine blk_drew ?_ | refine blk_alloc ?_ _)); refine blk_put (cs := #[.int .i64 t564, .int .i64 t565, .int .i64 t566, .int .i64 0, .int .i64 0]) ?_ 3 _ rfl; (with_reducible repeat (first | refine blk_drewN ?_ _ | refine blk_drew ?_ | refine blk_alloc ?_ _)); refine blk_put (cs := #[.int .i64 t564, .int .i64 t565, .int .i64 0, .int .i64 0, .int .i64 0]) ?_ 2 _ rfl; (with_reducible repeat (first | refine blk_drewN ?_ _ | refine blk_drew ?_ | refine blk_alloc ?_ _)); refine blk_put (cs := #[.int .i64 t564, .int .i64 0, .int .i64 0, .int .i64 0, .int .i64 0]) ?_ 1 _ rfl; (with_reducible repeat (first | refine blk_drewN ?_ _ | refine blk_drew ?_ | refine blk_alloc ?_ _)); refine blk_put (cs := #[.int .i64 0, .int .i64 0, .int .i64 0, .int .i64 0, .int .i64 0]) ?_ 0 _ rfl; (with_reducible repeat (first | refine blk_drewN ?_ _ | refine blk_drew ?_ | refine blk_alloc ?_ _)); exact BK577.out⟩
                 have n6_ : Aside0 (IsS80 w (((((w64.setCell ⟨gb577, 0, none⟩ (.int .i64 t564)).setCell ⟨gb577, 1, none⟩ (.int .i64 t565)).setCell ⟨gb577, 2, none⟩ (.int .i64 t566)).setCell ⟨gb577, 3, none⟩ (.int .i64 t567)).setCell ⟨gb577, 4, none⟩ (.int .i64 t568)) gb478 t569 t570 t571 t572 t573 t574 false t576) := ⟨ts16_ HI478.out NB478_477.out NB478_504.out NB478_577.out⟩
                 have n7_ : Aside0 (Below w.heap.size w (((((w64.setCell ⟨gb577, 0, none⟩ (.int .i64 t564)).setCell ⟨gb577, 1, none⟩ (.int .i64 t565)).setCell ⟨gb577, 2, none⟩ (.int .i64 t566)).setCell ⟨gb577, 3, none⟩ (.int .i64 t567)).setCell ⟨gb577, 4, none⟩ (.int .i64 t568))) := ⟨ts8_ HB.out HI478.out GE477.out GE504.out GE577.out⟩
                 (try clear HO_7)
                 (try clear HO_505000)
                 (try clear HO_505001)
                 (try clear BK477)
                 (try clear BK504)
                 (try clear BK577)
                 (try clear HI478)
                 (try clear HB)
                 generalize (((((w64.setCell ⟨gb577, 0, none⟩ (.int .i64 t564)).setCell ⟨gb577, 1, none⟩ (.int .i64 t565)).setCell ⟨gb577, 2, none⟩ (.int .i64 t566)).setCell ⟨gb577, 3, none⟩ (.int .i64 t567)).setCell ⟨gb577, 4, none⟩ (.int .i64 t568)) = w70 at n0_ n1_ n2_ n3_ n4_ n5_ n6_ n7_ ⊢
                 have HO_7 := n0_
                 have HO_505000 := n1_
                 have HO_505001 := n2_
                 have BK477 := n3_
                 have BK504 := n4_
                 have BK577 := n5_
                 have HI478 := n6_
                 have HB := n7_
                 clear n0_ n1_ n2_ n3_ n4_ n5_ n6_ n7_
                 have n0_ := Aside0.mk (Kd.R_drew HO_7.out)
                 have n1_ := Aside0.mk (Kd.R_drew HO_505000.out)
                 have n2_ := Aside0.mk (Kd.R_drew HO_505001.out)
                 have n3_ := Aside0.mk (blk_drew BK477.out)
                 have n4_ := Aside0.mk (blk_drew BK504.out)
                 have n5_ := Aside0.mk (blk_drew BK577.out)
                 have n6_ := Aside0.mk (IsS80.drew HI478.out)
                 have n7_ := Aside0.mk (below_drew1 HB.out)
                 clear HO_7 HO_505000 HO_505001 BK477 BK504 BK577 HI478 HB
                 have HO_7 := n0_
                 have HO_505000 := n1_
                 have HO_505001 := n2_
                 have BK477 := n3_
                 have BK504 := n4_
                 have BK577 := n5_
                 have HI478 := n6_
                 have HB := n7_
                 clear n0_ n1_ n2_ n3_ n4_ n5_ n6_ n7_
                 refine start_ (n := 7) (S := fun w' => w'.cell? ⟨gb504, 0, none⟩ = some (u505000) ∧ w'.cell? ⟨gb504, 1, none⟩ = some (u505001) ∧ w'.cell? ⟨gb504, 2, none⟩ = some (.int .i64 t495) ∧ w'.cell? ⟨gb577, 0, none⟩ = some (.int .i64 t564) ∧ w'.cell? ⟨gb577, 1, none⟩ = some (.int .i64 t565) ∧ w'.cell? ⟨gb577, 2, none⟩ = some (.int .i64 t566) ∧ w'.cell? ⟨gb577, 3, none⟩ = some (.int .i64 t567) ∧ w'.cell? ⟨gb577, 4, none⟩ = some (.int .i64 t568)) (ds := [6]) #[false, false, false, false, false, false, false] (by kernel_rfl) rfl rfl ⟨(blk_cell BK504.out 0).trans rfl, (blk_cell BK504.out 1).trans rfl, (blk_cell BK504.out 2).trans rfl, (blk_cell BK577.out 0).trans rfl, (blk_cell BK577.out 1).trans rfl, (blk_cell BK577.out 2).trans rfl, (blk_cell BK577.out 3).trans rfl, (blk_cell BK577.out 4).trans rfl⟩ (fun hHeld => ?_)
                 generalize w70.drew = w71 at HO_7 HO_505000 HO_505001 BK477 BK504 BK577 HI478 HB hHeld ⊢
                 refine pure_ (i := 0) (N := some 81) (v := ?_) (a' := ?_) #[true, false, false, false, false, false, false] rfl rfl (by kernel_rfl) (fun _ _ _ h => h) (Or.inl ⟨by rfl, ?_⟩) ?_ ?_
                 rotate_left
                 ·intro w'
                  go_simp
                  with_reducible rfl
                 rotate_left
                 ·simp only [Act.put, List.setIfInBounds_toArray, List.set_cons_zero, List.set_cons_succ, i64_w, i32_w]
                  rfl
                 refine take_ (i := 1) (N := some 82) (v := ?_) (a' := ?_) #[true, true, false, false, false, false, false] rfl rfl (by kernel_rfl) (fun _ _ _ h => h) (Or.inl ⟨by rfl, ?_⟩) hHeld ?_ ?_
                 rotate_left
                 ·rintro w' ⟨s0, s1, s2, s3, s4, s5, s6, s7⟩
                  go_simp
                  with_reducible rfl
                 rotate_left
                 ·simp only [Act.put, List.setIfInBounds_toArray, List.set_cons_zero, List.set_cons_succ, i64_w, i32_w]
                  rfl
                 refine take_ (i := 2) (N := some 83) (v := ?_) (a' := ?_) #[true, true, true, false, false, false, false] rfl rfl (by kernel_rfl) (fun _ _ _ h => h) (Or.inl ⟨by rfl, ?_⟩) hHeld ?_ ?_
                 rotate_left
                 ·rintro w' ⟨s0, s1, s2, s3, s4, s5, s6, s7⟩
                  go_simp
                  with_reducible rfl
                 rotate_left
                 ·simp only [Act.put, List.setIfInBounds_toArray, List.set_cons_zero, List.set_cons_succ, i64_w, i32_w]
                  rfl
                 refine one_ (i := 3) (N := some 84) #[true, true, true, true, false, false, false] rfl rfl (by kernel_rfl) (by decide) (fun K hK => ?_)
                 refine goes_ Tryd.func31 (by kernel_rfl) rfl #[.agg #[.int .i64 t564, .int .i64 t565, .int .i64 t566, .int .i64 t567, .int .i64 t568]] (by rfl) rfl rfl ts17_ ?_
                 with_reducible refine (cupelref20_words.calls t564 t565 t566 t567 t568 t578 _ A59.out).mono ?_
                 rintro e w72 ⟨v579, rfl, ho0, hb⟩
                 refine ⟨_, rfl, ?_⟩
                 have n0_ := Aside0.mk (Kd.R_below (ts30_ HO_7.out) hb)
                 have n1_ := Aside0.mk (Kd.R_elder' (ts30_ HO_505000.out) (Kd.R_base ho0) hb)
                 have n2_ := Aside0.mk (Kd.R_below (ts30_ HO_505001.out) hb)
                 have n3_ := Aside0.mk (Kd.R_lower (Kd.R_new' ho0 (Kd.R_lt (ts30_ HO_505000.out))) (below_size (ts8_ HB.out HI478.out GE477.out GE504.out GE577.out)))
                 have n4_ := Aside0.mk (blk_below (g := gb477) (o := .cells #[.slice none 0 0, .slice none 0 0, .int .i64 0] 35 (0, 0)) (ts25_ BK477.out) hb)
                 have n5_ := Aside0.mk (blk_below (g := gb504) (o := .cells #[u505000, u505001, .int .i64 t495] 35 (0, 0)) (ts25_ BK504.out) hb)
                 have n6_ := Aside0.mk (IsS80.below (ts16_ HI478.out NB478_477.out NB478_504.out NB478_577.out) hb)
                 have n7_ := Aside0.mk (blk_below (g := gb577) (o := .cells #[.int .i64 t564, .int .i64 t565, .int .i64 t566, .int .i64 t567, .int .i64 t568] 26 (0, 0)) (ts25_ BK577.out) hb)
                 have n8_ := Aside0.mk (below_step (ts8_ HB.out HI478.out GE477.out GE504.out GE577.out) hb)
                 clear HO_7 HO_505000 HO_505001 BK477 BK504 HI478 BK577 HB
                 have HO_7 := n0_
                 have HO_505000 := n1_
                 have HO_505001 := n2_
                 have HO580 := n3_
                 have BK477 := n4_
                 have BK504 := n5_
                 have HI478 := n6_
                 have BK577 := n7_
                 have HB := n8_
                 clear n0_ n1_ n2_ n3_ n4_ n5_ n6_ n7_ n8_
                 (try clear hb)
                 (try clear hb2)
                 (try clear hk)
                 (try clear hi)
                 (try clear ho0)
                 obtain ⟨Ao74, co74, eo74⟩ := Kd.R_slice HO580.out
                 (first | subst eo74 | (injection eo74 with f1_ f2_ f3_; have f4_ := f1_.symm; have f5_ := f3_.symm; clear f1_ f2_ f3_; subst f4_; subst f5_))
                 refine hK.out _ _ ⟨(blk_cell BK504.out 0).trans rfl, (blk_cell BK504.out 1).trans rfl, (blk_cell BK504.out 2).trans rfl, (blk_cell BK577.out 0).trans rfl, (blk_cell BK577.out 1).trans rfl, (blk_cell BK577.out 2).trans rfl, (blk_cell BK577.out 3).trans rfl, (blk_cell BK577.out 4).trans rfl⟩ (fun hHeld => ?_)
                 clear hK K
                 refine norm_ (a' := ?_) ?_ ?_
                 rotate_left
                 ·show Act.put _ (some 84) _ = _
                  simp only [Act.put, List.setIfInBounds_toArray, List.set_cons_zero, List.set_cons_succ, i64_w, i32_w]
                  rfl
                 refine one_ (i := 4) (N := some 85) #[true, true, true, true, true, false, false] rfl rfl (by kernel_rfl) (by decide) (fun K hK => ?_)
                 refine Kd.R_append_rows_step (Kd.int .u64) (w0 := w) w.heap.size (by rfl) (.tmp 82) (.tmp 84) 27 48 (.int .u64 0) 8 rfl Tryd.underlying27 info48 rfl (by decide) (by omega) u505000 x505000_4 t578 _ _ _ (fun k_ => some k_ ≠ (.slice Ao74 t578.length co74 : Value).ownBlock) (fun _ => False) rfl rfl ?aO ?aR (fun _ _ h => h) (fun _ h => h.elim) ?aF ?aB ?aS ?aL ?_
                 (case aR => exact ts36_ HO580.out)
                 (case aB => exact (ts8_ HB.out HI478.out GE477.out GE504.out GE577.out))
                 (case aF => exact (fun k_ hk => Kd.fresh' (Kd.R_lt (ts30_ HO580.out)) k_ hk))
                 (case aO => exact (by (with_reducible repeat (first | apply Kd.R_alloc | apply Kd.R_drewN | apply Kd.R_drew)); exact Kd.R_mono HO_505000.out (fun _ hk => hk.2)))
                 (case aS => exact (below_size (ts8_ HB.out HI478.out GE477.out GE504.out GE577.out)))
                 (case aL => have := LMc60.out; omega)
                 intro v582 w73 ho hb hg hat
                 rw [← Ny581.out] at ho
                 have n0_ := Aside0.mk (Kd.R_over' (ts30_ HO_7.out) (Kd.R_typed (ts30_ HO_505000.out)) (by decide) hg)
                 have n1_ := Aside0.mk (Kd.R_over' (ts30_ HO_505001.out) (Kd.R_typed (ts30_ HO_505000.out)) (by decide) hg)
                 have n2_ := Aside0.mk (blk_grown (g := gb477) (o := .cells #[.slice none 0 0, .slice none 0 0, .int .i64 0] 35 (0, 0)) (ts25_ BK477.out) hg (Kd.R_ne HO_505000.out BK477.out (by decide)))
                 have n3_ := Aside0.mk (blk_grown (g := gb504) (o := .cells #[u505000, u505001, .int .i64 t495] 35 (0, 0)) (ts25_ BK504.out) hg (Kd.R_ne HO_505000.out BK504.out (by decide)))
                 have n4_ := Aside0.mk (IsS80.grown (ts16_ HI478.out NB478_477.out NB478_504.out NB478_577.out) hg (IsS80.own_ne HI478.out HO_505000.out (by decide)))
                 have n5_ := Aside0.mk (blk_grown (g := gb577) (o := .cells #[.int .i64 t564, .int .i64 t565, .int .i64 t566, .int .i64 t567, .int .i64 t568] 26 (0, 0)) (ts25_ BK577.out) hg (Kd.R_ne HO_505000.out BK577.out (by decide)))
                 have n6_ := Aside0.mk (Kd.R_after (ok := (fun _ => True)) (ts30_ HO580.out) hg hat)
                 have n7_ := Aside0.mk (hb)
                 have n8_ := Aside0.mk (ho)
                 clear HO_7 HO_505001 BK477 BK504 HI478 BK577 HO580 HB HO_505000
                 have HO_7 := n0_
                 have HO_505001 := n1_
                 have BK477 := n2_
                 have BK504 := n3_
                 have HI478 := n4_
                 have BK577 := n5_
                 have HO580 := n6_
                 have HB := n7_
                 have HO583 := n8_
                 clear n0_ n1_ n2_ n3_ n4_ n5_ n6_ n7_ n8_ ho hb hg hat
                 obtain ⟨Ao75, co75, eo75⟩ := Kd.R_slice HO583.out
                 (first | subst eo75 | (injection eo75 with f1_ f2_ f3_; have f4_ := f1_.symm; have f5_ := f3_.symm; clear f1_ f2_ f3_; subst f4_; subst f5_))
                 refine hK.out _ _ ⟨(blk_cell BK504.out 0).trans rfl, (blk_cell BK504.out 1).trans rfl, (blk_cell BK504.out 2).trans rfl, (blk_cell BK577.out 0).trans rfl, (blk_cell BK577.out 1).trans rfl, (blk_cell BK577.out 2).trans rfl, (blk_cell BK577.out 3).trans rfl, (blk_cell BK577.out 4).trans rfl⟩ (fun hHeld => ?_)
                 clear hK K
                 refine norm_ (a' := ?_) ?_ ?_
                 rotate_left
                 ·show Act.put _ (some 85) _ = _
                  simp only [Act.put, List.setIfInBounds_toArray, List.set_cons_zero, List.set_cons_succ, i64_w, i32_w]
                  rfl
                 refine pure_ (i := 5) (N := some 86) (v := ?_) (a' := ?_) #[true, true, true, true, true, true, false] rfl rfl (by kernel_rfl) (fun _ _ _ h => h) (Or.inl ⟨by rfl, ?_⟩) ?_ ?_
                 rotate_left
                 ·intro w'
                  go_simp
                  with_reducible rfl
                 rotate_left
                 ·simp only [Act.put, List.setIfInBounds_toArray, List.set_cons_zero, List.set_cons_succ, i64_w, i32_w]
                  rfl
                 refine last_ (i := 6) (N := none) #[true, true, true, true, true, true, true] rfl rfl (by kernel_rfl) (by decide) (fun K hK => ?_)
                 have hs76 : w73.cell? ⟨gb504, 0, none⟩ = some (u505000) := (blk_cell BK504.out 0).trans rfl
                 have hfs76 := blk_frozen BK504.out 0
                 have hns76_0 := NB477_504.out
                 have hns76_2 := NB577_504.out
                 have hms76_0 := NB504_477.out
                 have hms76_2 := NB504_577.out
                 refine skip_ (w1 := ?_) (by rfl) rfl ?_ ?_
                 rotate_left
                 ·go_simp
                  rfl
                 refine hK.out _ _ ?_
                 clear hK K
                 refine done_ (by kernel_rfl) ?_
                 try go_wp2
                 go_roundg kj38
                 case measure => have := HK1.out; have := HK2.out; have := HJ33.out; have := HK4.out; have := HJ38.out; omega
                 case rel => exact ⟨(true), (wrap64 (x9_4 + 1)), (t569), (t570), (t571), (t572), (t573), (t574), (false), (t576), (y581), (.slice Ao75 y581.length co75), ts51_, ts51_, H', ⟨ts10_ HK1.out HK2.out HJ33.out HK4.out HJ38.out⟩, ⟨ts2_ HO_7.out BK504.out⟩, ⟨ts2_ HO583.out BK504.out⟩, ⟨ts2_ HO_505001.out BK504.out⟩, ⟨ts19_ NB477_504.out BK477.out⟩, ⟨by (with_reducible repeat (first | refine blk_drewN ?_ _ | refine blk_drew ?_ | refine blk_alloc ?_ _)); refine blk_put (cs := #[u505000, u505001, .int .i64 t495]) ?_ 0 _ rfl; (with_reducible repeat (first | refine blk_drewN ?_ _ | refine blk_drew ?_ | refine blk_alloc ?_ _)); exact BK504.out⟩, ⟨ts16_ HI478.out NB478_477.out NB478_504.out NB478_577.out⟩, ⟨ts8_ HB.out HI478.out GE477.out GE504.out GE577.out⟩⟩
                rw [if_neg c60] at H
                exact absurd H (by simp)
               replace c47 := Bool.eq_false_iff.mpr c47
               subst c47
               rw [if_neg Bool.false_ne_true] at H
               have H' := Aside0.mk H
               clear H
               obtain ⟨Ao77, co77, eo77⟩ := Kd.R_slice HO_7.out
               subst eo77
               have p553 : 0 ≤ (x9_4 : Int) := of_decide_eq_true ts37_
               have q553 : x9_4 < (t542.length : Int) := of_decide_eq_true ts37_
               obtain ⟨ad553, e553, hx553_0, hx553_1, hx553_2, hx553_3, hx553_4, hx553_5⟩ := at_T56 (Kd.R_reads' HO_7.out).2.2 x9_4 p553 q553
               cases e553
               replace p553 := eq_true p553
               replace q553 := eq_true q553
               go_wp2_with (first | ((with_reducible refine gate_callee (f := 44) rfl ?_); refine goesL_ (some 69) rfl rfl Tryd.func44 (by kernel_rfl) rfl #[.pointer (some ⟨gb478, 0, none⟩), .string ((rd_T56 t542 x9_4).f1)] rfl ts17_ ?_; (with_reducible refine (cupelref20_reader_take.calls kj38 gb478 x479000_4 x479001_4 x479002_4 x479003_4 x479004_4 x479005_4 x479006_4 x479007_4 ((rd_T56 t542 x9_4).f1) false t555 t556 t557 t558 t559 t560 t561 t562 w _ ?side1 ?side2 A46.out).mono ?_); (case side1 => exact ts39_ HI478.out NB478_477.out NB478_504.out); (case side2 => exact ts20_ HB.out HI478.out GE477.out GE504.out); rintro e w78 ⟨rfl, hi, hb, hk⟩; refine ⟨_, rfl, ?_⟩; replace HO_7 := Aside0.mk (Kd.R_mono (Kd.R_keep (IsS80.apart (show IsS80 w _ gb478 x479000_4 x479001_4 x479002_4 x479003_4 x479004_4 x479005_4 x479006_4 x479007_4 from ts39_ HI478.out NB478_477.out NB478_504.out) (ts30_ HO_7.out) (by decide)) hk (fun _ h => h.2)) (fun _ h => h.1)); replace HO_505000 := Aside0.mk (Kd.R_mono (Kd.R_keep (IsS80.apart (show IsS80 w _ gb478 x479000_4 x479001_4 x479002_4 x479003_4 x479004_4 x479005_4 x479006_4 x479007_4 from ts39_ HI478.out NB478_477.out NB478_504.out) (ts30_ HO_505000.out) (by decide)) hk (fun _ h => h.2)) (fun _ h => h.1)); replace HO_505001 := Aside0.mk (Kd.R_mono (Kd.R_keep (IsS80.apart (show IsS80 w _ gb478 x479000_4 x479001_4 x479002_4 x479003_4 x479004_4 x479005_4 x479006_4 x479007_4 from ts39_ HI478.out NB478_477.out NB478_504.out) (ts30_ HO_505001.out) (by decide)) hk (fun _ h => h.2)) (fun _ h => h.1)); replace BK477 := Aside0.mk (KeepBut.blk hk (g' := gb477) (o := .cells #[.slice none 0 0, .slice none 0 0, .int .i64 0] 35 (0, 0)) (ts25_ BK477.out) NB477_478.out (by simp)); replace BK504 := Aside0.mk (KeepBut.blk hk (g' := gb504) (o := .cells #[u505000, u505001, .int .i64 t495] 35 (0, 0)) (ts25_ BK504.out) NB504_478.out (by simp)); replace HB := Aside0.mk (hb); replace HI478 := Aside0.mk (hi); clear hi hb hk))
               go_roundg kj38
               case measure => have := HK1.out; have := HK2.out; have := HJ33.out; have := HK4.out; have := HJ38.out; omega
               case rel => exact ⟨(x8_4), (wrap64 (x9_4 + 1)), (t555), (t556), (t557), (t558), (t559), (t560), (t561), (t562), (x505000_4), (u505000), ts51_, ts51_, H', ⟨ts10_ HK1.out HK2.out HJ33.out HK4.out HJ38.out⟩, ⟨ts30_ HO_7.out⟩, ⟨ts30_ HO_505000.out⟩, ⟨ts30_ HO_505001.out⟩, ⟨ts25_ BK477.out⟩, ⟨ts25_ BK504.out⟩, ⟨ts39_ HI478.out NB478_477.out NB478_504.out⟩, ⟨ts20_ HB.out HI478.out GE477.out GE504.out⟩⟩
              rw [if_neg c45] at H
              exact absurd H (by simp)
             rw [if_neg c44] at H
             exact absurd H (by simp)
            replace c43 := Bool.eq_false_iff.mpr c43
            subst c43
            rw [if_neg Bool.false_ne_true] at H
            by_cases c79 : x8_4 = true
            ·subst c79
             rw [if_pos rfl] at H
             have H' := Aside0.mk H
             clear H
             go_wp2
             go_roundg kj38
             case measure => have := HK1.out; have := HK2.out; have := HJ33.out; have := HK4.out; have := HJ38.out; omega
             case rel => exact ⟨(x479000_4), (x479001_4), (x479002_4), (x479003_4), (x479004_4), (x479005_4), (x479006_4), (x479007_4), (x505000_4), (u505000), H', ⟨ts10_ HK1.out HK2.out HJ33.out HK4.out HJ38.out⟩, ⟨ts30_ HO_7.out⟩, ⟨ts30_ HO_505000.out⟩, ⟨ts30_ HO_505001.out⟩, ⟨ts25_ BK477.out⟩, ⟨ts25_ BK504.out⟩, ⟨ts39_ HI478.out NB478_477.out NB478_504.out⟩, ⟨ts20_ HB.out HI478.out GE477.out GE504.out⟩⟩
            replace c79 := Bool.eq_false_iff.mpr c79
            subst c79
            rw [if_neg Bool.false_ne_true] at H
            obtain ⟨⟨t545, t546, t547, t548, t549, t550, t551, t552⟩, A80, H⟩ := bsA_ H
            try dsimp only at H
            have H' := Aside0.mk H
            clear H
            go_wp2_with (first | ((with_reducible refine gate_callee (f := 47) rfl ?_); refine goesL_ (some 90) rfl rfl Tryd.func47 (by kernel_rfl) rfl #[.pointer (some ⟨gb478, 0, none⟩)] rfl ts17_ ?_; (with_reducible refine (cupelref20_reader_wrong.calls gb478 x479000_4 x479001_4 x479002_4 x479003_4 x479004_4 x479005_4 x479006_4 x479007_4 t545 t546 t547 t548 t549 t550 t551 t552 w _ ?side1 ?side2 A80.out).mono ?_); (case side1 => exact ts39_ HI478.out NB478_477.out NB478_504.out); (case side2 => exact ts20_ HB.out HI478.out GE477.out GE504.out); rintro e w81 ⟨rfl, hi, hb, hk⟩; refine ⟨_, rfl, ?_⟩; replace HO_7 := Aside0.mk (Kd.R_mono (Kd.R_keep (IsS80.apart (show IsS80 w _ gb478 x479000_4 x479001_4 x479002_4 x479003_4 x479004_4 x479005_4 x479006_4 x479007_4 from ts39_ HI478.out NB478_477.out NB478_504.out) (ts30_ HO_7.out) (by decide)) hk (fun _ h => h.2)) (fun _ h => h.1)); replace HO_505000 := Aside0.mk (Kd.R_mono (Kd.R_keep (IsS80.apart (show IsS80 w _ gb478 x479000_4 x479001_4 x479002_4 x479003_4 x479004_4 x479005_4 x479006_4 x479007_4 from ts39_ HI478.out NB478_477.out NB478_504.out) (ts30_ HO_505000.out) (by decide)) hk (fun _ h => h.2)) (fun _ h => h.1)); replace HO_505001 := Aside0.mk (Kd.R_mono (Kd.R_keep (IsS80.apart (show IsS80 w _ gb478 x479000_4 x479001_4 x479002_4 x479003_4 x479004_4 x479005_4 x479006_4 x479007_4 from ts39_ HI478.out NB478_477.out NB478_504.out) (ts30_ HO_505001.out) (by decide)) hk (fun _ h => h.2)) (fun _ h => h.1)); replace BK477 := Aside0.mk (KeepBut.blk hk (g' := gb477) (o := .cells #[.slice none 0 0, .slice none 0 0, .int .i64 0] 35 (0, 0)) (ts25_ BK477.out) NB477_478.out (by simp)); replace BK504 := Aside0.mk (KeepBut.blk hk (g' := gb504) (o := .cells #[u505000, u505001, .int .i64 t495] 35 (0, 0)) (ts25_ BK504.out) NB504_478.out (by simp)); replace HB := Aside0.mk (hb); replace HI478 := Aside0.mk (hi); clear hi hb hk))
            go_roundg kj38
            case measure => have := HK1.out; have := HK2.out; have := HJ33.out; have := HK4.out; have := HJ38.out; omega
            case rel => exact ⟨(t545), (t546), (t547), (t548), (t549), (t550), (t551), (t552), (x505000_4), (u505000), H', ⟨ts10_ HK1.out HK2.out HJ33.out HK4.out HJ38.out⟩, ⟨ts30_ HO_7.out⟩, ⟨ts30_ HO_505000.out⟩, ⟨ts30_ HO_505001.out⟩, ⟨ts25_ BK477.out⟩, ⟨ts25_ BK504.out⟩, ⟨ts39_ HI478.out NB478_477.out NB478_504.out⟩, ⟨ts20_ HB.out HI478.out GE477.out GE504.out⟩⟩
       replace c38 := Bool.eq_false_iff.mpr c38
       subst c38
       rw [if_neg Bool.false_ne_true] at H
       by_cases c82 : x479006_2 = true
       ·subst c82
        rw [if_pos rfl] at H
        simp only [Option.some.injEq, Prod.mk.injEq] at H
        obtain ⟨rfl, rfl, rfl, rfl, rfl⟩ := H
        obtain ⟨HGz83, hgz83⟩ := HI478.out
        have hcz83_0 := cellS80_0 HGz83
        have hcz83_1 := cellS80_1 HGz83
        have hcz83_2 := cellS80_2 HGz83
        have hcz83_3 := cellS80_3 HGz83
        have hcz83_4 := cellS80_4 HGz83
        have hcz83_5 := cellS80_5 HGz83
        have hcz83_6 := cellS80_6 HGz83
        have hcz83_7 := cellS80_7 HGz83
        have hfz83_0 := blk_frozen HGz83 0
        have hfz83_1 := blk_frozen HGz83 1
        have hfz83_2 := blk_frozen HGz83 2
        have hfz83_3 := blk_frozen HGz83 3
        have hfz83_4 := blk_frozen HGz83 4
        have hfz83_5 := blk_frozen HGz83 5
        have hfz83_6 := blk_frozen HGz83 6
        have hfz83_7 := blk_frozen HGz83 7
        clear HGz83 hgz83
        try go_wp2
        have n0_ := Aside0.mk (Kd.R_drew HO_7.out)
        have n1_ := Aside0.mk (Kd.R_drew HO_505000.out)
        have n2_ := Aside0.mk (Kd.R_drew HO_505001.out)
        have n3_ := Aside0.mk (blk_drew BK477.out)
        have n4_ := Aside0.mk (blk_drew BK504.out)
        have n5_ := Aside0.mk (IsS80.drew HI478.out)
        have n6_ := Aside0.mk (below_drew1 HB.out)
        clear HO_7 HO_505000 HO_505001 BK477 BK504 HI478 HB
        have HO_7 := n0_
        have HO_505000 := n1_
        have HO_505001 := n2_
        have BK477 := n3_
        have BK504 := n4_
        have HI478 := n5_
        have HB := n6_
        clear n0_ n1_ n2_ n3_ n4_ n5_ n6_
        refine start_ (n := 8) (S := fun w' => w'.cell? ⟨gb478, 0, none⟩ = some (.string x479000_2) ∧ w'.cell? ⟨gb478, 1, none⟩ = some (.int .i64 x479001_2) ∧ w'.cell? ⟨gb478, 2, none⟩ = some (.int .i64 x479002_2) ∧ w'.cell? ⟨gb478, 3, none⟩ = some (.int .u8 x479003_2) ∧ w'.cell? ⟨gb478, 4, none⟩ = some (.string x479004_2) ∧ w'.cell? ⟨gb478, 5, none⟩ = some (.int .i64 x479005_2) ∧ w'.cell? ⟨gb478, 6, none⟩ = some (.bool true) ∧ w'.cell? ⟨gb478, 7, none⟩ = some (.int .i64 x479007_2)) (ds := []) #[false, false, false, false, false, false, false, false] (by kernel_rfl) rfl rfl ⟨(blk_cell (show IsS80 w _ gb478 x479000_2 x479001_2 x479002_2 x479003_2 x479004_2 x479005_2 true x479007_2 from ts39_ HI478.out NB478_477.out NB478_504.out).1 0).trans rfl, (blk_cell (show IsS80 w _ gb478 x479000_2 x479001_2 x479002_2 x479003_2 x479004_2 x479005_2 true x479007_2 from ts39_ HI478.out NB478_477.out NB478_504.out).1 1).trans rfl, (blk_cell (show IsS80 w _ gb478 x479000_2 x479001_2 x479002_2 x479003_2 x479004_2 x479005_2 true x479007_2 from ts39_ HI478.out NB478_477.out NB478_504.out).1 2).trans rfl, (blk_cell (show IsS80 w _ gb478 x479000_2 x479001_2 x479002_2 x479003_2 x479004_2 x479005_2 true x479007_2 from ts39_ HI478.out NB478_477.out NB478_504.out).1 3).trans rfl, (blk_cell (show IsS80 w _ gb478 x479000_2 x479001_2 x479002_2 x479003_2 x479004_2 x479005_2 true x479007_2 from ts39_ HI478.out NB478_477.out NB478_504.out).1 4).trans rfl, (blk_cell (show IsS80 w _ gb478 x479000_2 x479001_2 x479002_2 x479003_2 x479004_2 x479005_2 true x479007_2 from ts39_ HI478.out NB478_477.out NB478_504.out).1 5).trans rfl, (blk_cell (show IsS80 w _ gb478 x479000_2 x479001_2 x479002_2 x479003_2 x479004_2 x479005_2 true x479007_2 from ts39_ HI478.out NB478_477.out NB478_504.out).1 6).trans rfl, (blk_cell (show IsS80 w _ gb478 x479000_2 x479001_2 x479002_2 x479003_2 x479004_2 x479005_2 true x479007_2 from ts39_ HI478.out NB478_477.out NB478_504.out).1 7).trans rfl⟩ (fun hHeld => ?_); refine with_tabW cupelref20_Parse.tab25 cupelref20_Parse.bits25 (fun HT_ HW_ => ?_)
        generalize wc.drew = w84 at HO_7 HO_505000 HO_505001 BK477 BK504 HI478 HB hHeld ⊢
        refine pure_ (i := 0) (N := some 95) (v := ?_) (a' := ?_) #[true, false, false, false, false, false, false, false] rfl rfl (any_of HT_.out (by kernel_rfl)) (fun _ _ _ h => h) (Or.inl ⟨by rfl, ?_⟩) ?_ ?_
        rotate_left
        ·intro w'
         go_simp
         with_reducible rfl
        rotate_left
        ·simp only [Act.put, List.setIfInBounds_toArray, List.set_cons_zero, List.set_cons_succ, i64_w, i32_w]
         rfl
        refine pure_ (i := 1) (N := some 96) (v := ?_) (a' := ?_) #[true, true, false, false, false, false, false, false] rfl rfl (any_of HT_.out (by kernel_rfl)) (fun _ _ _ h => h) (Or.inl ⟨by rfl, ?_⟩) ?_ ?_
        rotate_left
        ·intro w'
         go_simp
         with_reducible rfl
        rotate_left
        ·simp only [Act.put, List.setIfInBounds_toArray, List.set_cons_zero, List.set_cons_succ, i64_w, i32_w]
         rfl
        refine pure_ (i := 2) (N := some 97) (v := ?_) (a' := ?_) #[true, true, true, false, false, false, false, false] rfl rfl (any_of HT_.out (by kernel_rfl)) (fun _ _ _ h => h) (Or.inl ⟨by rfl, ?_⟩) ?_ ?_
        rotate_left
        ·intro w'
         go_simp
         with_reducible rfl
        rotate_left
        ·simp only [Act.put, List.setIfInBounds_toArray, List.set_cons_zero, List.set_cons_succ, i64_w, i32_w]
         rfl
        refine pure_ (i := 3) (N := some 98) (v := ?_) (a' := ?_) #[true, true, true, true, false, false, false, false] rfl rfl (any_of HT_.out (by kernel_rfl)) (fun _ _ _ h => h) (Or.inl ⟨by rfl, ?_⟩) ?_ ?_
        rotate_left
        ·intro w'
         go_simp
         with_reducible rfl
        rotate_left
        ·simp only [Act.put, List.setIfInBounds_toArray, List.set_cons_zero, List.set_cons_succ, i64_w, i32_w]
         rfl
        refine take_ (i := 4) (N := some 99) (v := ?_) (a' := ?_) #[true, true, true, true, true, false, false, false] rfl rfl (take_ofW HT_.out HW_.out (by kernel_rfl)) (fun _ _ _ h => h) (Or.inl ⟨by rfl, ?_⟩) hHeld ?_ ?_
        rotate_left
        ·rintro w' ⟨s0, s1, s2, s3, s4, s5, s6, s7⟩
         go_simp
         with_reducible rfl
        rotate_left
        ·simp only [Act.put, List.setIfInBounds_toArray, List.set_cons_zero, List.set_cons_succ, i64_w, i32_w]
         rfl
        refine one_ (i := 5) (N := none) #[true, true, true, true, true, true, false, false] rfl rfl (one_of HT_.out (by kernel_rfl)) (by decide) (fun K hK => ?_)
        have hs85 : w84.cell? ⟨gb477, 0, none⟩ = some (.slice none 0 0) := (blk_cell BK477.out 0).trans rfl
        have hfs85 := blk_frozen BK477.out 0
        have hns85_1 := NB504_477.out
        have hms85_1 := NB477_504.out
        have hs86 : w84.cell? ⟨gb477, 1, none⟩ = some (.slice none 0 0) := (blk_cell BK477.out 1).trans rfl
        have hfs86 := blk_frozen BK477.out 1
        have hns86_1 := NB504_477.out
        have hms86_1 := NB477_504.out
        have hs87 : w84.cell? ⟨gb477, 2, none⟩ = some (.int .i64 0) := (blk_cell BK477.out 2).trans rfl
        have hfs87 := blk_frozen BK477.out 2
        have hns87_1 := NB504_477.out
        have hms87_1 := NB477_504.out
        refine skip_ (w1 := ?_) (by rfl) rfl ?_ ?_
        rotate_left
        ·go_simp
         rfl
        refine hK.out _ _ ⟨((cell_far (p := ⟨gb477, _, none⟩) NB478_477.out _).trans (((cell_far (p := ⟨gb477, _, none⟩) NB478_477.out _).trans (((cell_far (p := ⟨gb477, _, none⟩) NB478_477.out _).trans (hHeld.1)))))), ((cell_far (p := ⟨gb477, _, none⟩) NB478_477.out _).trans (((cell_far (p := ⟨gb477, _, none⟩) NB478_477.out _).trans (((cell_far (p := ⟨gb477, _, none⟩) NB478_477.out _).trans (hHeld.2.1)))))), ((cell_far (p := ⟨gb477, _, none⟩) NB478_477.out _).trans (((cell_far (p := ⟨gb477, _, none⟩) NB478_477.out _).trans (((cell_far (p := ⟨gb477, _, none⟩) NB478_477.out _).trans (hHeld.2.2.1)))))), ((cell_far (p := ⟨gb477, _, none⟩) NB478_477.out _).trans (((cell_far (p := ⟨gb477, _, none⟩) NB478_477.out _).trans (((cell_far (p := ⟨gb477, _, none⟩) NB478_477.out _).trans (hHeld.2.2.2.1)))))), ((cell_far (p := ⟨gb477, _, none⟩) NB478_477.out _).trans (((cell_far (p := ⟨gb477, _, none⟩) NB478_477.out _).trans (((cell_far (p := ⟨gb477, _, none⟩) NB478_477.out _).trans (hHeld.2.2.2.2.1)))))), ((cell_far (p := ⟨gb477, _, none⟩) NB478_477.out _).trans (((cell_far (p := ⟨gb477, _, none⟩) NB478_477.out _).trans (((cell_far (p := ⟨gb477, _, none⟩) NB478_477.out _).trans (hHeld.2.2.2.2.2.1)))))), ((cell_far (p := ⟨gb477, _, none⟩) NB478_477.out _).trans (((cell_far (p := ⟨gb477, _, none⟩) NB478_477.out _).trans (((cell_far (p := ⟨gb477, _, none⟩) NB478_477.out _).trans (hHeld.2.2.2.2.2.2.1)))))), ((cell_far (p := ⟨gb477, _, none⟩) NB478_477.out _).trans (((cell_far (p := ⟨gb477, _, none⟩) NB478_477.out _).trans (((cell_far (p := ⟨gb477, _, none⟩) NB478_477.out _).trans (hHeld.2.2.2.2.2.2.2))))))⟩ (fun hHeld => ?_)
        clear hK K
        refine pure_ (i := 6) (N := some 3) (v := ?_) (a' := ?_) #[true, true, true, true, true, true, true, false] rfl rfl (any_of HT_.out (by kernel_rfl)) (fun _ _ _ h => h) (Or.inl ⟨by rfl, ?_⟩) ?_ ?_
        rotate_left
        ·intro w'
         go_simp
         with_reducible rfl
        rotate_left
        ·simp only [Act.put, List.setIfInBounds_toArray, List.set_cons_zero, List.set_cons_succ, i64_w, i32_w]
         rfl
        refine pure_ (i := 7) (N := some 4) (v := ?_) (a' := ?_) #[true, true, true, true, true, true, true, true] rfl rfl (any_of HT_.out (by kernel_rfl)) (fun _ _ _ h => h) (Or.inl ⟨by rfl, ?_⟩) ?_ ?_
        rotate_left
        ·intro w'
         go_simp
         with_reducible rfl
        rotate_left
        ·simp only [Act.put, List.setIfInBounds_toArray, List.set_cons_zero, List.set_cons_succ, i64_w, i32_w]
         rfl
        refine done_ (done_of HT_.out (by kernel_rfl)) ?_
        try go_wp2
        refine bodyPost_ret (results_ctt rfl _ _ gb477 35 #[.slice none 0 0, .slice none 0 0, .int .i64 0] (0, 0) _ rfl (ts32_ BK477.out) Tryd.underlying35 rfl (by kernel_rfl)) rfl ?_
        exact ⟨_, _, ts42_, ts33_, ts33_, ts20_ HB.out HI478.out GE477.out GE504.out⟩
       replace c82 := Bool.eq_false_iff.mpr c82
       subst c82
       rw [if_neg Bool.false_ne_true] at H
       obtain ⟨t584, A88, H⟩ := bsA_ H
       try dsimp only at H
       by_cases c89 : t584 = 0
       ·rw [if_pos c89] at H
        have c89b0 : (t584 == 0) = true := beq_iff_eq.mpr c89
        have c89b1 : (t584 != 0) = false := bne_eq_false_iff_eq.mpr c89
        clear c89
        simp only [Option.some.injEq, Prod.mk.injEq] at H
        obtain ⟨rfl, rfl, rfl, rfl, rfl⟩ := H
        obtain ⟨HGz90, hgz90⟩ := HI478.out
        have hcz90_0 := cellS80_0 HGz90
        have hcz90_1 := cellS80_1 HGz90
        have hcz90_2 := cellS80_2 HGz90
        have hcz90_3 := cellS80_3 HGz90
        have hcz90_4 := cellS80_4 HGz90
        have hcz90_5 := cellS80_5 HGz90
        have hcz90_6 := cellS80_6 HGz90
        have hcz90_7 := cellS80_7 HGz90
        have hfz90_0 := blk_frozen HGz90 0
        have hfz90_1 := blk_frozen HGz90 1
        have hfz90_2 := blk_frozen HGz90 2
        have hfz90_3 := blk_frozen HGz90 3
        have hfz90_4 := blk_frozen HGz90 4
        have hfz90_5 := blk_frozen HGz90 5
        have hfz90_6 := blk_frozen HGz90 6
        have hfz90_7 := blk_frozen HGz90 7
        clear HGz90 hgz90
        have hnb91 := NB504_477.out
        have hnc91 := NB477_504.out
        have hnb92 := NB504_478.out
        have hnc92 := NB478_504.out
        have hcz93_0 : wc.cell? ⟨gb504, 0, none⟩ = some (u505000) := (blk_cell BK504.out 0).trans rfl
        have hcz93_1 : wc.cell? ⟨gb504, 1, none⟩ = some (u505001) := (blk_cell BK504.out 1).trans rfl
        have hcz93_2 : wc.cell? ⟨gb504, 2, none⟩ = some (.int .i64 t495) := (blk_cell BK504.out 2).trans rfl
        have hfz93_0 := blk_frozen BK504.out 0
        have hfz93_1 := blk_frozen BK504.out 1
        have hfz93_2 := blk_frozen BK504.out 2
        obtain ⟨Ao94, co94, eo94⟩ := Kd.R_slice HO_505000.out
        subst eo94
        obtain ⟨Ao95, co95, eo95⟩ := Kd.R_slice HO_505001.out
        subst eo95
        go_wp2_with (first | ((with_reducible refine gate_callee (f := 18) rfl ?_); refine goesL_ (some 101) rfl rfl Tryd.func18 (by kernel_rfl) rfl #[.agg #[.slice Ao94 x505000_2.length co94, .slice Ao95 x505001_1.length co95, .int .i64 t495]] rfl ts17_ ?_; (with_reducible refine (cupelref20_Check.calls kj33 _ _ x505000_2 _ _ x505001_1 t495 t584 _ ?side1 ?side2 ?side3 ?side4 A88.out).mono ?_); (case side1 => exact ts36_ HO_505000.out); (case side2 => exact ts56_ HO_505000.out); (case side3 => exact ts36_ HO_505001.out); (case side4 => exact ts56_ HO_505001.out); rintro e w96 ⟨rfl, hb⟩; refine ⟨_, rfl, ?_⟩; replace HO_7 := Aside0.mk (Kd.R_below (ts30_ HO_7.out) hb); replace HO_505000 := Aside0.mk (Kd.R_below (ts30_ HO_505000.out) hb); replace HO_505001 := Aside0.mk (Kd.R_below (ts30_ HO_505001.out) hb); replace BK477 := Aside0.mk (blk_below (g := gb477) (o := .cells #[.slice none 0 0, .slice none 0 0, .int .i64 0] 35 (0, 0)) (ts25_ BK477.out) hb); replace BK504 := Aside0.mk (blk_below (g := gb504) (o := .cells #[.slice Ao94 x505000_2.length co94, .slice Ao95 x505001_1.length co95, .int .i64 t495] 35 (0, 0)) (ts25_ BK504.out) hb); replace HB := Aside0.mk (below_step (ts20_ HB.out HI478.out GE477.out GE504.out) hb); replace HI478 := Aside0.mk (IsS80.below (ts39_ HI478.out NB478_477.out NB478_504.out) hb); clear hb; have hcz97_0 : w96.cell? ⟨gb504, 0, none⟩ = some (.slice Ao94 x505000_2.length co94) := (blk_cell BK504.out 0).trans rfl; have hcz97_1 : w96.cell? ⟨gb504, 1, none⟩ = some (.slice Ao95 x505001_1.length co95) := (blk_cell BK504.out 1).trans rfl; have hcz97_2 : w96.cell? ⟨gb504, 2, none⟩ = some (.int .i64 t495) := (blk_cell BK504.out 2).trans rfl; have hfz97_0 := blk_frozen BK504.out 0; have hfz97_1 := blk_frozen BK504.out 1; have hfz97_2 := blk_frozen BK504.out 2; have hnb98 := NB477_478.out; have hnc98 := NB478_477.out; have hcz99_0 : w96.cell? ⟨gb477, 0, none⟩ = some (.slice none 0 0) := (blk_cell BK477.out 0).trans rfl; have hcz99_1 : w96.cell? ⟨gb477, 1, none⟩ = some (.slice none 0 0) := (blk_cell BK477.out 1).trans rfl; have hcz99_2 : w96.cell? ⟨gb477, 2, none⟩ = some (.int .i64 0) := (blk_cell BK477.out 2).trans rfl; have hfz99_0 := blk_frozen BK477.out 0; have hfz99_1 := blk_frozen BK477.out 1; have hfz99_2 := blk_frozen BK477.out 2))
        refine bodyPost_ret (results_ctt rfl _ _ gb477 35 #[.slice Ao94 x505000_2.length co94, .slice Ao95 x505001_1.length co95, .int .i64 t495] (0, 0) _ rfl (by (with_reducible repeat (first | refine blk_drewN ?_ _ | refine blk_drew ?_ | refine blk_alloc ?_ _)); refine blk_put (cs := #[.slice Ao94 x505000_2.length co94, .slice Ao95 x505001_1.length co95, .int .i64 0]) ?_ 2 _ rfl; (with_reducible repeat (first | refine blk_drewN ?_ _ | refine blk_drew ?_ | refine blk_alloc ?_ _)); refine blk_put (cs := #[.slice Ao94 x505000_2.length co94, .slice none 0 0, .int .i64 0]) ?_ 1 _ rfl; (with_reducible repeat (first | refine blk_drewN ?_ _ | refine blk_drew ?_ | refine blk_alloc ?_ _)); refine blk_put (cs := #[.slice none 0 0, .slice none 0 0, .int .i64 0]) ?_ 0 _ rfl; (with_reducible repeat (first | refine blk_drewN ?_ _ | refine blk_drew ?_ | refine blk_alloc ?_ _)); exact BK477.out) Tryd.underlying35 rfl (by kernel_rfl)) rfl ?_
        exact ⟨_, _, ts42_, ts21_ HO_505000.out BK477.out, ts21_ HO_505001.out BK477.out, ts20_ HB.out HI478.out GE477.out GE504.out⟩
       rw [if_neg c89] at H
       have c89b0 : (t584 == 0) = false := beq_eq_false_iff_ne.mpr c89
       have c89b1 : (t584 != 0) = true := bne_iff_ne.mpr c89
       simp only [Option.some.injEq, Prod.mk.injEq] at H
       obtain ⟨rfl, rfl, rfl, rfl, rfl⟩ := H
       obtain ⟨HGz100, hgz100⟩ := HI478.out
       have hcz100_0 := cellS80_0 HGz100
       have hcz100_1 := cellS80_1 HGz100
       have hcz100_2 := cellS80_2 HGz100
       have hcz100_3 := cellS80_3 HGz100
       have hcz100_4 := cellS80_4 HGz100
       have hcz100_5 := cellS80_5 HGz100
       have hcz100_6 := cellS80_6 HGz100
       have hcz100_7 := cellS80_7 HGz100
       have hfz100_0 := blk_frozen HGz100 0
       have hfz100_1 := blk_frozen HGz100 1
       have hfz100_2 := blk_frozen HGz100 2
       have hfz100_3 := blk_frozen HGz100 3
       have hfz100_4 := blk_frozen HGz100 4
       have hfz100_5 := blk_frozen HGz100 5
       have hfz100_6 := blk_frozen HGz100 6
       have hfz100_7 := blk_frozen HGz100 7
       clear HGz100 hgz100
       have hnb101 := NB504_477.out
       have hnc101 := NB477_504.out
       have hnb102 := NB504_478.out
       have hnc102 := NB478_504.out
       have hcz103_0 : wc.cell? ⟨gb504, 0, none⟩ = some (u505000) := (blk_cell BK504.out 0).trans rfl
       have hcz103_1 : wc.cell? ⟨gb504, 1, none⟩ = some (u505001) := (blk_cell BK504.out 1).trans rfl
       have hcz103_2 : wc.cell? ⟨gb504, 2, none⟩ = some (.int .i64 t495) := (blk_cell BK504.out 2).trans rfl
       have hfz103_0 := blk_frozen BK504.out 0
       have hfz103_1 := blk_frozen BK504.out 1
       have hfz103_2 := blk_frozen BK504.out 2
       obtain ⟨Ao104, co104, eo104⟩ := Kd.R_slice HO_505000.out
       subst eo104
       obtain ⟨Ao105, co105, eo105⟩ := Kd.R_slice HO_505001.out
       subst eo105
       go_wp2_with (first | ((with_reducible refine gate_callee (f := 18) rfl ?_); refine goesL_ (some 101) rfl rfl Tryd.func18 (by kernel_rfl) rfl #[.agg #[.slice Ao104 x505000_2.length co104, .slice Ao105 x505001_1.length co105, .int .i64 t495]] rfl ts17_ ?_; (with_reducible refine (cupelref20_Check.calls kj33 _ _ x505000_2 _ _ x505001_1 t495 t584 _ ?side1 ?side2 ?side3 ?side4 A88.out).mono ?_); (case side1 => exact ts36_ HO_505000.out); (case side2 => exact ts56_ HO_505000.out); (case side3 => exact ts36_ HO_505001.out); (case side4 => exact ts56_ HO_505001.out); rintro e w106 ⟨rfl, hb⟩; refine ⟨_, rfl, ?_⟩; replace HO_7 := Aside0.mk (Kd.R_below (ts30_ HO_7.out) hb); replace HO_505000 := Aside0.mk (Kd.R_below (ts30_ HO_505000.out) hb); replace HO_505001 := Aside0.mk (Kd.R_below (ts30_ HO_505001.out) hb); replace BK477 := Aside0.mk (blk_below (g := gb477) (o := .cells #[.slice none 0 0, .slice none 0 0, .int .i64 0] 35 (0, 0)) (ts25_ BK477.out) hb); replace BK504 := Aside0.mk (blk_below (g := gb504) (o := .cells #[.slice Ao104 x505000_2.length co104, .slice Ao105 x505001_1.length co105, .int .i64 t495] 35 (0, 0)) (ts25_ BK504.out) hb); replace HB := Aside0.mk (below_step (ts20_ HB.out HI478.out GE477.out GE504.out) hb); replace HI478 := Aside0.mk (IsS80.below (ts39_ HI478.out NB478_477.out NB478_504.out) hb); clear hb; have hnb107 := NB477_478.out; have hnc107 := NB478_477.out; have hcz108_0 : w106.cell? ⟨gb477, 0, none⟩ = some (.slice none 0 0) := (blk_cell BK477.out 0).trans rfl; have hcz108_1 : w106.cell? ⟨gb477, 1, none⟩ = some (.slice none 0 0) := (blk_cell BK477.out 1).trans rfl; have hcz108_2 : w106.cell? ⟨gb477, 2, none⟩ = some (.int .i64 0) := (blk_cell BK477.out 2).trans rfl; have hfz108_0 := blk_frozen BK477.out 0; have hfz108_1 := blk_frozen BK477.out 1; have hfz108_2 := blk_frozen BK477.out 2))
       refine bodyPost_ret (results_ctt rfl _ _ gb477 35 #[.slice none 0 0, .slice none 0 0, .int .i64 0] (0, 0) _ rfl (ts32_ BK477.out) Tryd.underlying35 rfl (by kernel_rfl)) rfl ?_
       exact ⟨_, _, ts42_, ts33_, ts33_, ts20_ HB.out HI478.out GE477.out GE504.out⟩
end Go.Proofs.YtlaijeeeblcinaaDoor.A
