/- Written by wip/tools/xprint.py, a program of this session that drives the kit's printer. Not trusted: Lean checks it. -/
import Derived.Test.YtlaijeeeblcinaaDoorAx0
set_option linter.all false
set_option maxHeartbeats 8000000
set_option maxRecDepth 100000
namespace Go.Proofs.YtlaijeeeblcinaaDoor.A
open Go.RowKit Go.Proofs.YtlaijeeeblcinaaDoorW.PrintWords Go.Proofs.YtlaijeeeblcinaaDoorW.PrintLast Go.Proofs.YtlaijeeeblcinaaDoorW.PrintMore
attribute [local go_sem] max2_int min2_int max_two min_two max_three min_three max_four min_four   -- for this text's walks alone
set_option linter.unusedVariables false
set_option linter.unusedSimpArgs false
/-! ### cupelref20_Same: function 21 -/
mutual
def cupelref20_Same.j0 : Nat → Bool → List Int → List Int → Int → List Int → List Int → Int → Option (Bool)
 | 0, _, _, _, _, _, _, _ => none
 | k + 1, x29, x586000, x586001, x586002, x587000, x587001, x587002 => if x29 = true then (some false) else (cupelref20_Same.l0 k 0 x586000 x586001 x586002 x587000 x587001 x587002)
def cupelref20_Same.l0 : Nat → Int → List Int → List Int → Int → List Int → List Int → Int → Option (Bool)
 | 0, _, _, _, _, _, _, _ => none
 | k + 1, x5, x586000, x586001, x586002, x587000, x587001, x587002 => if x5 < (x586000.length : Int) then (if 0 ≤ x5 then (if x5 < (x587000.length : Int) then (if (rd x586000 x5) = (rd x587000 x5) then (cupelref20_Same.l0 k (wrap64 (x5 + 1)) x586000 x586001 x586002 x587000 x587001 x587002) else (some false)) else (none)) else (none)) else (cupelref20_Same.l1 k 0 x586000 x586001 x586002 x587000 x587001 x587002)
def cupelref20_Same.l1 : Nat → Int → List Int → List Int → Int → List Int → List Int → Int → Option (Bool)
 | 0, _, _, _, _, _, _, _ => none
 | k + 1, x6, x586000, x586001, x586002, x587000, x587001, x587002 => if x6 < (x586001.length : Int) then (if 0 ≤ x6 then (if x6 < (x587001.length : Int) then (if (rd x586001 x6) = (rd x587001 x6) then (cupelref20_Same.l1 k (wrap64 (x6 + 1)) x586000 x586001 x586002 x587000 x587001 x587002) else (some false)) else (none)) else (none)) else (some true)
end
def cupelref20_Same.f (k : Nat) (l0_0 : List Int) (l0_1 : List Int) (a0_2 : Int) (l1_0 : List Int) (l1_1 : List Int) (a1_2 : Int) : Option (Bool) := if a0_2 = a1_2 then (if (l0_0.length : Int) = (l1_0.length : Int) then (cupelref20_Same.j0 k ((l0_1.length : Int) != (l1_1.length : Int)) l0_0 l0_1 a0_2 l1_0 l1_1 a1_2) else (cupelref20_Same.j0 k true l0_0 l0_1 a0_2 l1_0 l1_1 a1_2)) else (cupelref20_Same.j0 k true l0_0 l0_1 a0_2 l1_0 l1_1 a1_2)
theorem cupelref20_Same.mono_l : ∀ k, (∀ y0 y1 y2 y3 y4 y5 y6, LeO (cupelref20_Same.j0 k y0 y1 y2 y3 y4 y5 y6) (cupelref20_Same.j0 (k + 1) y0 y1 y2 y3 y4 y5 y6)) ∧ (∀ y0 y1 y2 y3 y4 y5 y6, LeO (cupelref20_Same.l0 k y0 y1 y2 y3 y4 y5 y6) (cupelref20_Same.l0 (k + 1) y0 y1 y2 y3 y4 y5 y6)) ∧ (∀ y0 y1 y2 y3 y4 y5 y6, LeO (cupelref20_Same.l1 k y0 y1 y2 y3 y4 y5 y6) (cupelref20_Same.l1 (k + 1) y0 y1 y2 y3 y4 y5 y6))
 | 0 => ⟨fun _ _ _ _ _ _ _ r h => by simp [cupelref20_Same.j0] at h, fun _ _ _ _ _ _ _ r h => by simp [cupelref20_Same.l0] at h, fun _ _ _ _ _ _ _ r h => by simp [cupelref20_Same.l1] at h⟩
 | k + 1 => by
  obtain ⟨ih0, ih1, ih2⟩ := cupelref20_Same.mono_l k
  refine ⟨?_, ?_, ?_⟩
  ·intro y0 y1 y2 y3 y4 y5 y6
   unfold cupelref20_Same.j0
   repeat' first
   | (with_reducible exact ih0 _ _ _ _ _ _ _)
   | (with_reducible exact ih1 _ _ _ _ _ _ _)
   | (with_reducible exact ih2 _ _ _ _ _ _ _)
   | (with_reducible exact LeO.refl _)
   | (with_reducible exact LeO.none _)
   | (with_reducible refine LeO.ite ?_ ?_)
   | (with_reducible refine LeO.bind ?_ (fun _ => ?_))
   | exact LeO.none _
   | refine LeO.ite ?_ ?_
   | refine LeO.bind ?_ (fun _ => ?_)
  ·intro y0 y1 y2 y3 y4 y5 y6
   unfold cupelref20_Same.l0
   repeat' first
   | (with_reducible exact ih0 _ _ _ _ _ _ _)
   | (with_reducible exact ih1 _ _ _ _ _ _ _)
   | (with_reducible exact ih2 _ _ _ _ _ _ _)
   | (with_reducible exact LeO.refl _)
   | (with_reducible exact LeO.none _)
   | (with_reducible refine LeO.ite ?_ ?_)
   | (with_reducible refine LeO.bind ?_ (fun _ => ?_))
   | exact LeO.none _
   | refine LeO.ite ?_ ?_
   | refine LeO.bind ?_ (fun _ => ?_)
  intro y0 y1 y2 y3 y4 y5 y6
  unfold cupelref20_Same.l1
  repeat' first
  | (with_reducible exact ih0 _ _ _ _ _ _ _)
  | (with_reducible exact ih1 _ _ _ _ _ _ _)
  | (with_reducible exact ih2 _ _ _ _ _ _ _)
  | (with_reducible exact LeO.refl _)
  | (with_reducible exact LeO.none _)
  | (with_reducible refine LeO.ite ?_ ?_)
  | (with_reducible refine LeO.bind ?_ (fun _ => ?_))
  | exact LeO.none _
  | refine LeO.ite ?_ ?_
  | refine LeO.bind ?_ (fun _ => ?_)
-- NOT PRINTED: function 5 (cupellaw20_TargetReads)
-- NOT PRINTED: function 84 (abi_NoEscape)
-- NOT PRINTED: function 70 (strings_Builder_copyCheck)
-- NOT PRINTED: function 48 (strings_Builder_WriteString)
-- NOT PRINTED: function 52 (strings_Builder_String)
-- NOT PRINTED: function 109 (bytealg_MakeNoZero)
-- NOT PRINTED: function 102 (strings_Builder_grow)
-- NOT PRINTED: function 89 (strings_Builder_Grow)
-- NOT PRINTED: function 74 (strings_Join)
-- NOT PRINTED: function 51 (target_line)
-- NOT PRINTED: function 22 (target_Print)
/-! ### cupelref20_digits: function 75 -/
def cupelref20_digits.f : Nat → Int → Option (ByteArray)
 | 0, _ => none
 | k + 1, a0 => (some (([(wrap64 (48 - (Int.tmod a0 10))) % 256] : List Int) : List Int)).bind fun y595 => (if (wrap64 (Int.tdiv a0 10)) = 0 then (some (strOfNums y595)) else ((cupelref20_digits.f k (wrap64 (Int.tdiv a0 10))).bind fun t598 => (if t598.size + (strOfNums y595).size ≤ 9223372036854775807 then (some (t598 ++ (strOfNums y595))) else (none))))
theorem cupelref20_digits.mono_l : ∀ k, (∀ y0, LeO (cupelref20_digits.f k y0) (cupelref20_digits.f (k + 1) y0))
 | 0 => fun _ r h => by simp [cupelref20_digits.f] at h
 | k + 1 => by
  have ih0 := cupelref20_digits.mono_l k
  ·intro y0
   unfold cupelref20_digits.f
   repeat' first
   | (with_reducible exact ih0 _)
   | (with_reducible exact LeO.refl _)
   | (with_reducible exact LeO.none _)
   | (with_reducible refine LeO.ite ?_ ?_)
   | (with_reducible refine LeO.bind ?_ (fun _ => ?_))
   | exact LeO.none _
   | refine LeO.ite ?_ ?_
   | refine LeO.bind ?_ (fun _ => ?_)
theorem cupelref20_digits.mono : ∀ a0 k, LeO (cupelref20_digits.f k a0) (cupelref20_digits.f (k + 1) a0) := by
 intro a0 k
 have ih0 := cupelref20_digits.mono_l k
 exact ih0 a0
theorem cupelref20_digits.calls (k : Nat) : ∀ (a0 : Int) (r : ByteArray) (w : World) (h : cupelref20_digits.f k a0 = some r),
  Calls Tryd.prog 75 #[.int .i64 a0] w fun e w' => e = .returned (.string r) ∧ Below w.heap.size w w' := by
 induction k using Nat.strongRecOn with
 | _ k ih =>
 intro a0 r w h
 cases k with
 | zero => exact absurd h (by simp [cupelref20_digits.f])
 | succ k =>
 simp only [cupelref20_digits.f] at h
 have HB := Aside0.mk (Below.refl w.heap.size w)
 have H : ((some (([(wrap64 (48 - (Int.tmod a0 10))) % 256] : List Int) : List Int)).bind fun y595 => (if (wrap64 (Int.tdiv a0 10)) = 0 then (some (strOfNums y595)) else ((cupelref20_digits.f k (wrap64 (Int.tdiv a0 10))).bind fun t598 => (if t598.size + (strOfNums y595).size ≤ 9223372036854775807 then (some (t598 ++ (strOfNums y595))) else (none))))) = some r := h
 clear h
 obtain ⟨y595, hy595⟩ : ∃ y_ : List Int, y_ = (([(wrap64 (48 - (Int.tmod a0 10))) % 256] : List Int)) := ⟨_, rfl⟩
 replace H : (if (wrap64 (Int.tdiv a0 10)) = 0 then (some (strOfNums y595)) else ((cupelref20_digits.f k (wrap64 (Int.tdiv a0 10))).bind fun t598 => (if t598.size + (strOfNums y595).size ≤ 9223372036854775807 then (some (t598 ++ (strOfNums y595))) else (none)))) = some r := by first | (rw [hy595]; with_reducible exact H) | (have H2_ := (Option.bind_some _ _).symm.trans H; rw [hy595]; with_reducible exact H2_) | (have H2_ := (Option.bind_some _ _).symm.trans H; with_reducible exact H2_) | with_reducible exact H | (rw [hy595]; exact H) | exact H
 have Ny595 := Aside0.mk hy595
 clear hy595
 by_cases c2 : (wrap64 (Int.tdiv a0 10)) = 0
 ·rw [if_pos c2] at H
  have c2b0 : ((wrap64 (Int.tdiv a0 10)) == 0) = true := beq_iff_eq.mpr c2
  have c2b1 : ((wrap64 (Int.tdiv a0 10)) != 0) = false := bne_eq_false_iff_eq.mpr c2
  clear c2
  obtain rfl := Option.some.inj H
  go_enter Tryd.func75, Tryd.ntmps75
  go_wp2_with (first | ((with_reducible refine gate_dst (N := 8) rfl ?_); refine Kd.R_lit (Kd.int .u8) _ 5 ?hg (N := 8) ?hd (xs := ([(wrap64 (48 - (Int.tmod a0 10))) % 256] : List Int)) (inner := [.int .u8 ((wrap64 (48 - (Int.tmod a0 10))) % 256)]) (ok := fun _ => True) (okp := fun _ => True) ?hr ?hp (fun _ hk => hk) trivial (Below.refl _ _) (Nat.le_refl _) (by simp) ?_; (case hd => rfl); (case hg => rfl); (case hr => exact ts15_); (case hp => exact ts1_); intro v596 w3 ho4 hb hg_ hnew_; clear hg_ hnew_; (first | rw [← Ny595.out] at ho4 | (simp only [Int.reduceToNat] at ho4; rw [← Ny595.out] at ho4)); have HO597 := Aside0.mk (Kd.R_lower ho4 (below_size (ts34_ HB.out))); replace HB := Aside0.mk (below_step (ts34_ HB.out) hb); clear hb ho4; have hcv5 := own_string (P := Tryd.prog) Tryd.underlying85 Tryd.underlying5 Tryd.underlying9 (Kd.own_of_R HO597.out)))
  go_ret
  exact ⟨ts26_, ts34_ HB.out⟩
 rw [if_neg c2] at H
 have c2b0 : ((wrap64 (Int.tdiv a0 10)) == 0) = false := beq_eq_false_iff_ne.mpr c2
 have c2b1 : ((wrap64 (Int.tdiv a0 10)) != 0) = true := bne_iff_ne.mpr c2
 obtain ⟨t598, A6, H⟩ := bsA_ H
 try dsimp only at H
 by_cases c7 : t598.size + (strOfNums y595).size ≤ 9223372036854775807
 ·rw [if_pos c7] at H
  have c7b0 := eq_true c7
  have c7b1 : decide (t598.size + (strOfNums y595).size ≤ 9223372036854775807) = true := decide_eq_true c7
  try have c7b2 : (9223372036854775807 < t598.size + (strOfNums y595).size) = False := eq_false (Nat.not_lt.2 c7)
  obtain rfl := Option.some.inj H
  go_enter Tryd.func75, Tryd.ntmps75
  go_wp2_with (first | ((with_reducible refine gate_dst (N := 8) rfl ?_); refine Kd.R_lit (Kd.int .u8) _ 5 ?hg (N := 8) ?hd (xs := ([(wrap64 (48 - (Int.tmod a0 10))) % 256] : List Int)) (inner := [.int .u8 ((wrap64 (48 - (Int.tmod a0 10))) % 256)]) (ok := fun _ => True) (okp := fun _ => True) ?hr ?hp (fun _ hk => hk) trivial (Below.refl _ _) (Nat.le_refl _) (by simp) ?_; (case hd => rfl); (case hg => rfl); (case hr => exact ts15_); (case hp => exact ts1_); intro v596 w8 ho9 hb hg_ hnew_; clear hg_ hnew_; (first | rw [← Ny595.out] at ho9 | (simp only [Int.reduceToNat] at ho9; rw [← Ny595.out] at ho9)); have HO597 := Aside0.mk (Kd.R_lower ho9 (below_size (ts34_ HB.out))); replace HB := Aside0.mk (below_step (ts34_ HB.out) hb); clear hb ho9; have hcv10 := own_string (P := Tryd.prog) Tryd.underlying85 Tryd.underlying5 Tryd.underlying9 (Kd.own_of_R HO597.out)) | ((with_reducible refine gate_callee (f := 75) rfl ?_); refine goesL_ (some 16) rfl rfl Tryd.func75 (by kernel_rfl) rfl #[.int .i64 (wrap64 (Int.tdiv a0 10))] rfl ts8_ ?_; (with_reducible refine (ih k (by omega) (wrap64 (Int.tdiv a0 10)) t598 _ A6.out).mono ?_); rintro e w11 ⟨rfl, hb⟩; refine ⟨_, rfl, ?_⟩; replace HO597 := Aside0.mk (Kd.R_below (ts20_ HO597.out) hb); replace HB := Aside0.mk (below_step (ts34_ HB.out) hb); clear hb))
  go_ret
  exact ⟨ts26_, ts34_ HB.out⟩
 rw [if_neg c7] at H
 exact absurd H (by simp)
/-! ### cupelref20_number: function 53 -/
def cupelref20_number.f (k : Nat) (a0 : Int) : Option (ByteArray) := if a0 < 0 then ((cupelref20_digits.f k a0).bind fun t599 => (if 1 + t599.size ≤ 9223372036854775807 then (some ((⟨#[45]⟩ : ByteArray) ++ t599)) else (none))) else ((cupelref20_digits.f k (wrap64 (-a0))).bind fun t600 => (some t600))
theorem cupelref20_number.mono : ∀ a0 k, LeO (cupelref20_number.f k a0) (cupelref20_number.f (k + 1) a0) := by
 intro a0 k
 unfold cupelref20_number.f
 repeat' first
   | (with_reducible exact cupelref20_digits.mono _ _)
   | (with_reducible exact LeO.refl _)
   | (with_reducible exact LeO.none _)
   | (with_reducible refine LeO.ite ?_ ?_)
   | (with_reducible refine LeO.bind ?_ (fun _ => ?_))
   | exact LeO.none _
   | refine LeO.ite ?_ ?_
   | refine LeO.bind ?_ (fun _ => ?_)
theorem cupelref20_number.calls (k : Nat) (a0 : Int) (r : ByteArray) (w : World) (h : cupelref20_number.f k a0 = some r) :
  Calls Tryd.prog 53 #[.int .i64 a0] w fun e w' => e = .returned (.string r) ∧ Below w.heap.size w w' := by
 have HB := Aside0.mk (Below.refl w.heap.size w)
 have H : (if a0 < 0 then ((cupelref20_digits.f k a0).bind fun t599 => (if 1 + t599.size ≤ 9223372036854775807 then (some ((⟨#[45]⟩ : ByteArray) ++ t599)) else (none))) else ((cupelref20_digits.f k (wrap64 (-a0))).bind fun t600 => (some t600))) = some r := h
 clear h
 by_cases c2 : a0 < 0
 ·rw [if_pos c2] at H
  have c2b0 : decide (a0 < 0) = true := decide_eq_true c2
  clear c2
  obtain ⟨t599, A3, H⟩ := bsA_ H
  try dsimp only at H
  by_cases c4 : 1 + t599.size ≤ 9223372036854775807
  ·rw [if_pos c4] at H
   have c4b0 := eq_true c4
   have c4b1 : decide (1 + t599.size ≤ 9223372036854775807) = true := decide_eq_true c4
   try have c4b2 : (9223372036854775807 < 1 + t599.size) = False := eq_false (Nat.not_lt.2 c4)
   obtain rfl := Option.some.inj H
   go_enter Tryd.func53, Tryd.ntmps53
   go_wp2_with (first | ((with_reducible refine gate_callee (f := 75) rfl ?_); refine goesL_ (some 6) rfl rfl Tryd.func75 (by kernel_rfl) rfl #[.int .i64 a0] rfl ts8_ ?_; (with_reducible refine (cupelref20_digits.calls k a0 t599 _ A3.out).mono ?_); rintro e w5 ⟨rfl, hb⟩; refine ⟨_, rfl, ?_⟩; replace HB := Aside0.mk (below_step (ts34_ HB.out) hb); clear hb))
   go_ret
   exact ⟨ts26_, ts34_ HB.out⟩
  rw [if_neg c4] at H
  exact absurd H (by simp)
 rw [if_neg c2] at H
 have c2b0 : decide (a0 < 0) = false := decide_eq_false c2
 clear c2
 obtain ⟨t600, A6, H⟩ := bsA_ H
 try dsimp only at H
 obtain rfl := Option.some.inj H
 go_enter Tryd.func53, Tryd.ntmps53
 go_wp2_with (first | ((with_reducible refine gate_callee (f := 75) rfl ?_); refine goesL_ (some 10) rfl rfl Tryd.func75 (by kernel_rfl) rfl #[.int .i64 (wrap64 (-a0))] rfl ts8_ ?_; (with_reducible refine (cupelref20_digits.calls k (wrap64 (-a0)) t600 _ A6.out).mono ?_); rintro e w7 ⟨rfl, hb⟩; refine ⟨_, rfl, ?_⟩; replace HB := Aside0.mk (below_step (ts34_ HB.out) hb); clear hb))
 go_ret
 exact ⟨ts26_, ts34_ HB.out⟩
end Go.Proofs.YtlaijeeeblcinaaDoor.A
