/- Written by wip/tools/xprint.py, a program of this session that drives the kit's printer. Not trusted: Lean checks it. -/
import Derived.Test.YtndennmpnomjnaaDoorAx0
set_option linter.all false
set_option maxHeartbeats 8000000
set_option maxRecDepth 100000
namespace Go.Proofs.YtndennmpnomjnaaDoor.A
open Go.RowKit Go.Proofs.YtndennmpnomjnaaDoorW.PrintWords Go.Proofs.YtndennmpnomjnaaDoorW.PrintLast Go.Proofs.YtndennmpnomjnaaDoorW.PrintMore
attribute [local go_sem] max2_int min2_int max_two min_two max_three min_three max_four min_four   -- for this text's walks alone
set_option linter.unusedVariables false
set_option linter.unusedSimpArgs false
/-! ### cupelref35_way: function 28 -/
def cupelref35_way.l0 : Nat → ByteArray → Bool → Int → Option (Bool)
 | 0, _, _, _ => none
 | k + 1, x0, x3, x4 => if x4 < (x0.size : Int) then (if 0 ≤ x4 then (if (bt x0 x4) = 32 then (if x3 = true then (some false) else (cupelref35_way.l0 k x0 ((bt x0 x4) == 32) (wrap64 (x4 + 1)))) else (cupelref35_way.l0 k x0 ((bt x0 x4) == 32) (wrap64 (x4 + 1)))) else (none)) else (some (!x3))
def cupelref35_way.f (k : Nat) (a0 : ByteArray) : Option (Bool) := cupelref35_way.l0 k a0 true 0
theorem cupelref35_way.mono_l : ∀ k, (∀ y0 y1 y2, LeO (cupelref35_way.l0 k y0 y1 y2) (cupelref35_way.l0 (k + 1) y0 y1 y2))
 | 0 => fun _ _ _ r h => by simp [cupelref35_way.l0] at h
 | k + 1 => by
  have ih0 := cupelref35_way.mono_l k
  ·intro y0 y1 y2
   unfold cupelref35_way.l0
   repeat' first
   | (with_reducible exact ih0 _ _ _)
   | (with_reducible exact LeO.refl _)
   | (with_reducible exact LeO.none _)
   | (with_reducible refine LeO.ite ?_ ?_)
   | (with_reducible refine LeO.bind ?_ (fun _ => ?_))
   | exact LeO.none _
   | refine LeO.ite ?_ ?_
   | refine LeO.bind ?_ (fun _ => ?_)
theorem cupelref35_way.mono : ∀ a0 k, LeO (cupelref35_way.f k a0) (cupelref35_way.f (k + 1) a0) := by
 intro a0 k
 have ih0 := cupelref35_way.mono_l k
 unfold cupelref35_way.f
 repeat' first
   | (with_reducible exact ih0 _ _ _)
   | (with_reducible exact LeO.refl _)
   | (with_reducible exact LeO.none _)
   | (with_reducible refine LeO.ite ?_ ?_)
   | (with_reducible refine LeO.bind ?_ (fun _ => ?_))
   | exact LeO.none _
   | refine LeO.ite ?_ ?_
   | refine LeO.bind ?_ (fun _ => ?_)
theorem cupelref35_way.calls (k : Nat) (a0 : ByteArray) (r : Bool) (w : World) (h : cupelref35_way.f k a0 = some r) :
  Calls Tryd.prog 28 #[.string a0] w fun e w' => e = .returned (.bool r) ∧ Drawn0 w w' := by
 have H : (cupelref35_way.l0 k a0 true 0) = some r := h
 clear h
 have H' := Aside0.mk H
 clear H
 go_enter Tryd.func28, Tryd.ntmps28
 go_wp2
 go_loopg [3, 4] k (fun kq v3 v4 w' => ∃ (x3_1 : Bool) (x4_1 : Int), v3 = .bool x3_1 ∧ v4 = .int .i64 x4_1 ∧ Aside0 (cupelref35_way.l0 kq a0 x3_1 x4_1 = some r) ∧ Aside0 (kq ≤ k) ∧ Drawn0 w w')
 case atStart => exact ⟨(true), (0), ts40_, ts40_, H', ⟨Nat.le_refl _⟩, ts21_⟩
 case round =>
  clear H'
  obtain ⟨x3_1, x4_1, rfl, rfl, HA, HK1, ⟨m1, rfl⟩⟩ := hrel
  cases gk with
  | zero => exact absurd HA.out (by simp [cupelref35_way.l0])
  | succ k1 =>
   have H := HA.out
   clear HA
   simp only [cupelref35_way.l0] at H
   by_cases c2 : x4_1 < (a0.size : Int)
   ·rw [if_pos c2] at H
    have c2b0 : decide (x4_1 < (a0.size : Int)) = true := decide_eq_true c2
    clear c2
    by_cases c3 : 0 ≤ x4_1
    ·rw [if_pos c3] at H
     have c3b0 : decide (0 ≤ x4_1) = true := decide_eq_true c3
     clear c3
     by_cases c5 : (bt a0 x4_1) = 32
     ·rw [if_pos c5] at H
      have c5b0 : ((bt a0 x4_1) == 32) = true := beq_iff_eq.mpr c5
      have c5b1 : ((bt a0 x4_1) != 32) = false := bne_eq_false_iff_eq.mpr c5
      clear c5
      by_cases c6 : x3_1 = true
      ·subst c6
       rw [if_pos rfl] at H
       obtain rfl := Option.some.inj H
       have p4 : 0 ≤ (x4_1 : Int) := of_decide_eq_true ts30_
       have q4 : x4_1 < (a0.size : Int) := of_decide_eq_true ts30_
       have hx4 := bt_at a0 x4_1
       replace p4 := eq_true p4
       replace q4 := eq_true q4
       go_wp2
       go_ret
       exact ⟨ts40_, ts21_⟩
      replace c6 := Bool.eq_false_iff.mpr c6
      subst c6
      rw [if_neg Bool.false_ne_true] at H
      have H' := Aside0.mk H
      clear H
      have p4 : 0 ≤ (x4_1 : Int) := of_decide_eq_true ts30_
      have q4 : x4_1 < (a0.size : Int) := of_decide_eq_true ts30_
      have hx4 := bt_at a0 x4_1
      replace p4 := eq_true p4
      replace q4 := eq_true q4
      have p7 : 0 ≤ (x4_1 : Int) := of_decide_eq_true ts30_
      have q7 : x4_1 < (a0.size : Int) := of_decide_eq_true ts30_
      have hx7 := bt_at a0 x4_1
      replace p7 := eq_true p7
      replace q7 := eq_true q7
      go_wp2
      go_roundg k1
      case measure => have := HK1.out; omega
      case rel => exact ⟨(((bt a0 x4_1) == 32)), (wrap64 (x4_1 + 1)), ts40_, ts40_, H', ⟨by have := HK1.out; omega⟩, ts21_⟩
     rw [if_neg c5] at H
     have c5b0 : ((bt a0 x4_1) == 32) = false := beq_eq_false_iff_ne.mpr c5
     have c5b1 : ((bt a0 x4_1) != 32) = true := bne_iff_ne.mpr c5
     have H' := Aside0.mk H
     clear H
     have p4 : 0 ≤ (x4_1 : Int) := of_decide_eq_true ts30_
     have q4 : x4_1 < (a0.size : Int) := of_decide_eq_true ts30_
     have hx4 := bt_at a0 x4_1
     replace p4 := eq_true p4
     replace q4 := eq_true q4
     have p8 : 0 ≤ (x4_1 : Int) := of_decide_eq_true ts30_
     have q8 : x4_1 < (a0.size : Int) := of_decide_eq_true ts30_
     have hx8 := bt_at a0 x4_1
     replace p8 := eq_true p8
     replace q8 := eq_true q8
     go_wp2
     go_roundg k1
     case measure => have := HK1.out; omega
     case rel => exact ⟨(((bt a0 x4_1) == 32)), (wrap64 (x4_1 + 1)), ts40_, ts40_, H', ⟨by have := HK1.out; omega⟩, ts21_⟩
    rw [if_neg c3] at H
    exact absurd H (by simp)
   rw [if_neg c2] at H
   have c2b0 : decide (x4_1 < (a0.size : Int)) = false := decide_eq_false c2
   clear c2
   obtain rfl := Option.some.inj H
   go_wp2
   go_ret
   exact ⟨ts40_, ts21_⟩
/-! ### cupelref35_decimal: function 29 -/
mutual
def cupelref35_decimal.j0 : Nat → Int → ByteArray → Option (ByteArray)
 | 0, _, _ => none
 | k + 1, x3, x4 => cupelref35_decimal.l0 k (IntKind.u64.wrap (Int.tdiv x3 10)) x4 (strOfNums (([(IntKind.u64.wrap (48 + (Int.tmod x3 10))) % 256] : List Int)))
def cupelref35_decimal.l0 : Nat → Int → ByteArray → ByteArray → Option (ByteArray)
 | 0, _, _, _ => none
 | k + 1, x3, x4, x5 => if x3 > 0 then ((some (([(IntKind.u64.wrap (48 + (Int.tmod x3 10))) % 256] : List Int) : List Int)).bind fun y220 => (if (strOfNums y220).size + x5.size ≤ 9223372036854775807 then (cupelref35_decimal.l0 k (IntKind.u64.wrap (Int.tdiv x3 10)) x4 ((strOfNums y220) ++ x5)) else (none))) else (if x4.size + x5.size ≤ 9223372036854775807 then (some (x4 ++ x5)) else (none))
end
def cupelref35_decimal.f (k : Nat) (a0 : Int) : Option (ByteArray) := if a0 < 0 then (cupelref35_decimal.j0 k (IntKind.u64.wrap (-(IntKind.u64.wrap (a0)))) (⟨#[45]⟩ : ByteArray)) else (cupelref35_decimal.j0 k (IntKind.u64.wrap (a0)) (⟨#[]⟩ : ByteArray))
theorem cupelref35_decimal.mono_l : ∀ k, (∀ y0 y1, LeO (cupelref35_decimal.j0 k y0 y1) (cupelref35_decimal.j0 (k + 1) y0 y1)) ∧ (∀ y0 y1 y2, LeO (cupelref35_decimal.l0 k y0 y1 y2) (cupelref35_decimal.l0 (k + 1) y0 y1 y2))
 | 0 => ⟨fun _ _ r h => by simp [cupelref35_decimal.j0] at h, fun _ _ _ r h => by simp [cupelref35_decimal.l0] at h⟩
 | k + 1 => by
  obtain ⟨ih0, ih1⟩ := cupelref35_decimal.mono_l k
  refine ⟨?_, ?_⟩
  ·intro y0 y1
   unfold cupelref35_decimal.j0
   repeat' first
   | (with_reducible exact ih0 _ _)
   | (with_reducible exact ih1 _ _ _)
   | (with_reducible exact LeO.refl _)
   | (with_reducible exact LeO.none _)
   | (with_reducible refine LeO.ite ?_ ?_)
   | (with_reducible refine LeO.bind ?_ (fun _ => ?_))
   | exact LeO.none _
   | refine LeO.ite ?_ ?_
   | refine LeO.bind ?_ (fun _ => ?_)
  intro y0 y1 y2
  unfold cupelref35_decimal.l0
  repeat' first
  | (with_reducible exact ih0 _ _)
  | (with_reducible exact ih1 _ _ _)
  | (with_reducible exact LeO.refl _)
  | (with_reducible exact LeO.none _)
  | (with_reducible refine LeO.ite ?_ ?_)
  | (with_reducible refine LeO.bind ?_ (fun _ => ?_))
  | exact LeO.none _
  | refine LeO.ite ?_ ?_
  | refine LeO.bind ?_ (fun _ => ?_)
theorem cupelref35_decimal.mono : ∀ a0 k, LeO (cupelref35_decimal.f k a0) (cupelref35_decimal.f (k + 1) a0) := by
 intro a0 k
 obtain ⟨ih0, ih1⟩ := cupelref35_decimal.mono_l k
 unfold cupelref35_decimal.f
 repeat' first
   | (with_reducible exact ih0 _ _)
   | (with_reducible exact ih1 _ _ _)
   | (with_reducible exact LeO.refl _)
   | (with_reducible exact LeO.none _)
   | (with_reducible refine LeO.ite ?_ ?_)
   | (with_reducible refine LeO.bind ?_ (fun _ => ?_))
   | exact LeO.none _
   | refine LeO.ite ?_ ?_
   | refine LeO.bind ?_ (fun _ => ?_)
theorem cupelref35_decimal.calls (k : Nat) (a0 : Int) (r : ByteArray) (w : World) (h : cupelref35_decimal.f k a0 = some r) :
  Calls Tryd.prog 29 #[.int .i64 a0] w fun e w' => e = .returned (.string r) ∧ Below w.heap.size w w' := by
 have HB := Aside0.mk (Below.refl w.heap.size w)
 have H : (if a0 < 0 then (cupelref35_decimal.j0 k (IntKind.u64.wrap (-(IntKind.u64.wrap (a0)))) (⟨#[45]⟩ : ByteArray)) else (cupelref35_decimal.j0 k (IntKind.u64.wrap (a0)) (⟨#[]⟩ : ByteArray))) = some r := h
 clear h
 have HC2 := Aside0.mk H
 clear H
 go_enter Tryd.func29, Tryd.ntmps29
 go_upto_if 9 with (fail)
 go_cut [3, 4] (fun v3 v4 wc => ∃ (kq : Nat) (x3_1 : Int) (x4_1 : ByteArray), v3 = .int .u64 x3_1 ∧ v4 = .string x4_1 ∧ Aside0 (cupelref35_decimal.j0 kq x3_1 x4_1 = some r) ∧ Aside0 (kq ≤ k) ∧ Aside0 (Below w.heap.size w wc))
 case first =>
  have H := HC2.out
  clear HC2
  by_cases c3 : a0 < 0
  ·rw [if_pos c3] at H
   have c3b0 : decide (a0 < 0) = true := decide_eq_true c3
   clear c3
   (first | rw [c3b0] | (simp only [i64_w, i32_w]; rw [c3b0]) | skip)
   have H' := Aside0.mk H
   clear H
   go_wp2
   go_meet
   case rel => exact ⟨_, (IntKind.u64.wrap (-(IntKind.u64.wrap (a0)))), ((⟨#[45]⟩ : ByteArray)), ts40_, ts40_, H', ⟨ts1_⟩, ⟨ts41_ HB.out⟩⟩
  rw [if_neg c3] at H
  have c3b0 : decide (a0 < 0) = false := decide_eq_false c3
  clear c3
  (first | rw [c3b0] | (simp only [i64_w, i32_w]; rw [c3b0]) | skip)
  have H' := Aside0.mk H
  clear H
  go_wp2
  go_meet
  case rel => exact ⟨_, (IntKind.u64.wrap (a0)), ((⟨#[]⟩ : ByteArray)), ts40_, ts40_, H', ⟨ts1_⟩, ⟨ts41_ HB.out⟩⟩
 case rest =>
  clear HC2
  try clear c2
  try clear p2
  try clear c3
  try clear c3b0
  obtain ⟨kq, x3_1, x4_1, rfl, rfl, HA, HJ1, HB⟩ := hcut
  cases kq with
  | zero => exact absurd HA.out (by simp [cupelref35_decimal.j0])
  | succ kj1 =>
   have H := HA.out
   clear HA
   simp only [cupelref35_decimal.j0] at H
   obtain ⟨y217, hy217⟩ : ∃ y_ : List Int, y_ = (([(IntKind.u64.wrap (48 + (Int.tmod x3_1 10))) % 256] : List Int)) := ⟨_, rfl⟩
   replace H : (cupelref35_decimal.l0 kj1 (IntKind.u64.wrap (Int.tdiv x3_1 10)) x4_1 (strOfNums y217)) = some r := by first | (rw [hy217]; with_reducible exact H) | (have H2_ := (Option.bind_some _ _).symm.trans H; rw [hy217]; with_reducible exact H2_) | (have H2_ := (Option.bind_some _ _).symm.trans H; with_reducible exact H2_) | with_reducible exact H | (rw [hy217]; exact H) | exact H
   have Ny217 := Aside0.mk hy217
   clear hy217
   have H' := Aside0.mk H
   clear H
   go_wp2_with (first | ((with_reducible refine gate_dst (N := 16) rfl ?_); refine Kd.R_lit (Kd.int .u8) _ 5 ?hg (N := 16) ?hd (xs := ([(IntKind.u64.wrap (48 + (Int.tmod x3_1 10))) % 256] : List Int)) (inner := [.int .u8 ((IntKind.u64.wrap (48 + (Int.tmod x3_1 10))) % 256)]) (ok := fun _ => True) (okp := fun _ => True) ?hr ?hp (fun _ hk => hk) trivial (Below.refl _ _) (Nat.le_refl _) (by simp) ?_; (case hd => rfl); (case hg => rfl); (case hr => exact ts19_); (case hp => exact (Reps.one (show Kd.M (Kd.int .u8) _ _ _ ((IntKind.u64.wrap (48 + (Int.tmod x3_1 10))) % 256) [.int .u8 ((IntKind.u64.wrap (48 + (Int.tmod x3_1 10))) % 256)] from rfl) (Reps.none _ _))); intro v218 w4 ho5 hb hg_ hnew_; clear hg_ hnew_; (first | rw [← Ny217.out] at ho5 | (simp only [Int.reduceToNat] at ho5; rw [← Ny217.out] at ho5)); have HO219 := Aside0.mk (Kd.R_lower ho5 (below_size (ts41_ HB.out))); replace HB := Aside0.mk (below_step (ts41_ HB.out) hb); clear hb ho5; have hcv6 := own_string (P := Tryd.prog) Tryd.underlying59 Tryd.underlying5 Tryd.underlying9 (Kd.own_of_R HO219.out)))
   go_loopg [3, 5] kj1 (fun kq v3 v5 w' => ∃ (x3_2 : Int) (x5_2 : ByteArray), v3 = .int .u64 x3_2 ∧ v5 = .string x5_2 ∧ Aside0 (cupelref35_decimal.l0 kq x3_2 x4_1 x5_2 = some r) ∧ Aside0 (kq ≤ kj1) ∧ Aside0 (Below w.heap.size w w'))
   case atStart => exact ⟨(IntKind.u64.wrap (Int.tdiv x3_1 10)), (strOfNums y217), ts40_, ts40_, H', ⟨Nat.le_refl _⟩, ⟨ts41_ HB.out⟩⟩
   case round =>
    clear H'
    try clear c2
    try clear p2
    try clear c3
    try clear c3b0
    try clear hcv6
    try clear p2
    obtain ⟨x3_2, x5_2, rfl, rfl, HA, HK2, HB⟩ := hrel
    cases gk with
    | zero => exact absurd HA.out (by simp [cupelref35_decimal.l0])
    | succ k2 =>
     have H := HA.out
     clear HA
     simp only [cupelref35_decimal.l0] at H
     by_cases c7 : x3_2 > 0
     ·rw [if_pos c7] at H
      have c7b0 : decide (0 < x3_2) = true := decide_eq_true c7
      clear c7
      obtain ⟨y220, hy220⟩ : ∃ y_ : List Int, y_ = (([(IntKind.u64.wrap (48 + (Int.tmod x3_2 10))) % 256] : List Int)) := ⟨_, rfl⟩
      replace H : (if (strOfNums y220).size + x5_2.size ≤ 9223372036854775807 then (cupelref35_decimal.l0 k2 (IntKind.u64.wrap (Int.tdiv x3_2 10)) x4_1 ((strOfNums y220) ++ x5_2)) else (none)) = some r := by first | (rw [hy220]; with_reducible exact H) | (have H2_ := (Option.bind_some _ _).symm.trans H; rw [hy220]; with_reducible exact H2_) | (have H2_ := (Option.bind_some _ _).symm.trans H; with_reducible exact H2_) | with_reducible exact H | (rw [hy220]; exact H) | exact H
      have Ny220 := Aside0.mk hy220
      clear hy220
      by_cases c8 : (strOfNums y220).size + x5_2.size ≤ 9223372036854775807
      ·rw [if_pos c8] at H
       have c8b0 := eq_true c8
       have c8b1 : decide ((strOfNums y220).size + x5_2.size ≤ 9223372036854775807) = true := decide_eq_true c8
       try have c8b2 : (9223372036854775807 < (strOfNums y220).size + x5_2.size) = False := eq_false (Nat.not_lt.2 c8)
       have H' := Aside0.mk H
       clear H
       go_wp2_with (first | ((with_reducible refine gate_dst (N := 28) rfl ?_); refine Kd.R_lit (Kd.int .u8) _ 5 ?hg (N := 28) ?hd (xs := ([(IntKind.u64.wrap (48 + (Int.tmod x3_2 10))) % 256] : List Int)) (inner := [.int .u8 ((IntKind.u64.wrap (48 + (Int.tmod x3_2 10))) % 256)]) (ok := fun _ => True) (okp := fun _ => True) ?hr ?hp (fun _ hk => hk) trivial (Below.refl _ _) (Nat.le_refl _) (by simp) ?_; (case hd => rfl); (case hg => rfl); (case hr => exact ts19_); (case hp => exact (Reps.one (show Kd.M (Kd.int .u8) _ _ _ ((IntKind.u64.wrap (48 + (Int.tmod x3_2 10))) % 256) [.int .u8 ((IntKind.u64.wrap (48 + (Int.tmod x3_2 10))) % 256)] from rfl) (Reps.none _ _))); intro v221 w9 ho10 hb hg_ hnew_; clear hg_ hnew_; (first | rw [← Ny220.out] at ho10 | (simp only [Int.reduceToNat] at ho10; rw [← Ny220.out] at ho10)); have HO222 := Aside0.mk (Kd.R_lower ho10 (below_size (ts41_ HB.out))); replace HB := Aside0.mk (below_step (ts41_ HB.out) hb); clear hb ho10; have hcv11 := own_string (P := Tryd.prog) Tryd.underlying59 Tryd.underlying5 Tryd.underlying9 (Kd.own_of_R HO222.out)))
       go_roundg k2
       case measure => have := HJ1.out; have := HK2.out; omega
       case rel => exact ⟨(IntKind.u64.wrap (Int.tdiv x3_2 10)), ((strOfNums y220) ++ x5_2), ts40_, ts40_, H', ⟨by have := HJ1.out; have := HK2.out; omega⟩, ⟨ts41_ HB.out⟩⟩
      rw [if_neg c8] at H
      exact absurd H (by simp)
     rw [if_neg c7] at H
     have c7b0 : decide (0 < x3_2) = false := decide_eq_false c7
     clear c7
     by_cases c12 : x4_1.size + x5_2.size ≤ 9223372036854775807
     ·rw [if_pos c12] at H
      have c12b0 := eq_true c12
      have c12b1 : decide (x4_1.size + x5_2.size ≤ 9223372036854775807) = true := decide_eq_true c12
      try have c12b2 : (9223372036854775807 < x4_1.size + x5_2.size) = False := eq_false (Nat.not_lt.2 c12)
      obtain rfl := Option.some.inj H
      go_wp2
      go_ret
      exact ⟨ts33_, ts41_ HB.out⟩
     rw [if_neg c12] at H
     exact absurd H (by simp)
/-! ### cupelref35_Bare: function 17 -/
def cupelref35_Bare.l0 : Nat → ByteArray → Int → Int → Option (ByteArray)
 | 0, _, _, _ => none
 | k + 1, x0, x3, x4 => if x4 < (x0.size : Int) then (if 0 ≤ x4 then (if (bt x0 x4) = 32 then (if (wrap64 (x3 + 1)) = 2 then (if x4 ≤ (x0.size : Int) then (some (x0.extract 0 (x4 : Int).toNat)) else (none)) else (cupelref35_Bare.l0 k x0 (wrap64 (x3 + 1)) (wrap64 (x4 + 1)))) else (if x3 = 2 then (if x4 ≤ (x0.size : Int) then (some (x0.extract 0 (x4 : Int).toNat)) else (none)) else (cupelref35_Bare.l0 k x0 x3 (wrap64 (x4 + 1))))) else (none)) else (some x0)
def cupelref35_Bare.f (k : Nat) (a0 : ByteArray) : Option (ByteArray) := cupelref35_Bare.l0 k a0 0 0
theorem cupelref35_Bare.mono_l : ∀ k, (∀ y0 y1 y2, LeO (cupelref35_Bare.l0 k y0 y1 y2) (cupelref35_Bare.l0 (k + 1) y0 y1 y2))
 | 0 => fun _ _ _ r h => by simp [cupelref35_Bare.l0] at h
 | k + 1 => by
  have ih0 := cupelref35_Bare.mono_l k
  ·intro y0 y1 y2
   unfold cupelref35_Bare.l0
   repeat' first
   | (with_reducible exact ih0 _ _ _)
   | (with_reducible exact LeO.refl _)
   | (with_reducible exact LeO.none _)
   | (with_reducible refine LeO.ite ?_ ?_)
   | (with_reducible refine LeO.bind ?_ (fun _ => ?_))
   | exact LeO.none _
   | refine LeO.ite ?_ ?_
   | refine LeO.bind ?_ (fun _ => ?_)
theorem cupelref35_Bare.mono : ∀ a0 k, LeO (cupelref35_Bare.f k a0) (cupelref35_Bare.f (k + 1) a0) := by
 intro a0 k
 have ih0 := cupelref35_Bare.mono_l k
 unfold cupelref35_Bare.f
 repeat' first
   | (with_reducible exact ih0 _ _ _)
   | (with_reducible exact LeO.refl _)
   | (with_reducible exact LeO.none _)
   | (with_reducible refine LeO.ite ?_ ?_)
   | (with_reducible refine LeO.bind ?_ (fun _ => ?_))
   | exact LeO.none _
   | refine LeO.ite ?_ ?_
   | refine LeO.bind ?_ (fun _ => ?_)
theorem cupelref35_Bare.calls (k : Nat) (a0 : ByteArray) (r : ByteArray) (w : World) (h : cupelref35_Bare.f k a0 = some r) :
  Calls Tryd.prog 17 #[.string a0] w fun e w' => e = .returned (.string r) ∧ Drawn0 w w' := by
 have H : (cupelref35_Bare.l0 k a0 0 0) = some r := h
 clear h
 have H' := Aside0.mk H
 clear H
 go_enter Tryd.func17, Tryd.ntmps17
 go_wp2
 go_loopg [3, 4] k (fun kq v3 v4 w' => ∃ (x3_1 : Int) (x4_1 : Int), v3 = .int .i64 x3_1 ∧ v4 = .int .i64 x4_1 ∧ Aside0 (cupelref35_Bare.l0 kq a0 x3_1 x4_1 = some r) ∧ Aside0 (kq ≤ k) ∧ Drawn0 w w')
 case atStart => exact ⟨(0), (0), ts40_, ts40_, H', ⟨Nat.le_refl _⟩, ts21_⟩
 case round =>
  clear H'
  try clear c1
  obtain ⟨x3_1, x4_1, rfl, rfl, HA, HK1, ⟨m1, rfl⟩⟩ := hrel
  cases gk with
  | zero => exact absurd HA.out (by simp [cupelref35_Bare.l0])
  | succ k1 =>
   have H := HA.out
   clear HA
   simp only [cupelref35_Bare.l0] at H
   by_cases c2 : x4_1 < (a0.size : Int)
   ·rw [if_pos c2] at H
    have c2b0 : decide (x4_1 < (a0.size : Int)) = true := decide_eq_true c2
    clear c2
    by_cases c3 : 0 ≤ x4_1
    ·rw [if_pos c3] at H
     have c3b0 : decide (0 ≤ x4_1) = true := decide_eq_true c3
     clear c3
     by_cases c5 : (bt a0 x4_1) = 32
     ·rw [if_pos c5] at H
      have c5b0 : ((bt a0 x4_1) == 32) = true := beq_iff_eq.mpr c5
      have c5b1 : ((bt a0 x4_1) != 32) = false := bne_eq_false_iff_eq.mpr c5
      clear c5
      by_cases c6 : (wrap64 (x3_1 + 1)) = 2
      ·rw [if_pos c6] at H
       have c6b0 : ((wrap64 (x3_1 + 1)) == 2) = true := beq_iff_eq.mpr c6
       have c6b1 : ((wrap64 (x3_1 + 1)) != 2) = false := bne_eq_false_iff_eq.mpr c6
       clear c6
       have c7b0 := eq_true (of_decide_eq_true ts30_ : 0 ≤ x4_1)
       by_cases c8 : x4_1 ≤ (a0.size : Int)
       ·rw [if_pos c8] at H
        have c8b0 := eq_true c8
        have c8b1 : decide (x4_1 ≤ (a0.size : Int)) = true := decide_eq_true c8
        clear c8
        obtain rfl := Option.some.inj H
        have p4 : 0 ≤ (x4_1 : Int) := of_decide_eq_true ts30_
        have q4 : x4_1 < (a0.size : Int) := of_decide_eq_true ts30_
        have hx4 := bt_at a0 x4_1
        replace p4 := eq_true p4
        replace q4 := eq_true q4
        go_wp2
        go_ret
        exact ⟨ts40_, ts21_⟩
       rw [if_neg c8] at H
       exact absurd H (by simp)
      rw [if_neg c6] at H
      have c6b0 : ((wrap64 (x3_1 + 1)) == 2) = false := beq_eq_false_iff_ne.mpr c6
      have c6b1 : ((wrap64 (x3_1 + 1)) != 2) = true := bne_iff_ne.mpr c6
      have H' := Aside0.mk H
      clear H
      have p4 : 0 ≤ (x4_1 : Int) := of_decide_eq_true ts30_
      have q4 : x4_1 < (a0.size : Int) := of_decide_eq_true ts30_
      have hx4 := bt_at a0 x4_1
      replace p4 := eq_true p4
      replace q4 := eq_true q4
      go_wp2
      go_roundg k1
      case measure => have := HK1.out; omega
      case rel => exact ⟨(wrap64 (x3_1 + 1)), (wrap64 (x4_1 + 1)), ts40_, ts40_, H', ⟨by have := HK1.out; omega⟩, ts21_⟩
     rw [if_neg c5] at H
     have c5b0 : ((bt a0 x4_1) == 32) = false := beq_eq_false_iff_ne.mpr c5
     have c5b1 : ((bt a0 x4_1) != 32) = true := bne_iff_ne.mpr c5
     by_cases c9 : x3_1 = 2
     ·rw [if_pos c9] at H
      have c9b0 : (x3_1 == 2) = true := beq_iff_eq.mpr c9
      have c9b1 : (x3_1 != 2) = false := bne_eq_false_iff_eq.mpr c9
      clear c9
      have c10b0 := eq_true (of_decide_eq_true ts30_ : 0 ≤ x4_1)
      by_cases c11 : x4_1 ≤ (a0.size : Int)
      ·rw [if_pos c11] at H
       have c11b0 := eq_true c11
       have c11b1 : decide (x4_1 ≤ (a0.size : Int)) = true := decide_eq_true c11
       clear c11
       obtain rfl := Option.some.inj H
       have p4 : 0 ≤ (x4_1 : Int) := of_decide_eq_true ts30_
       have q4 : x4_1 < (a0.size : Int) := of_decide_eq_true ts30_
       have hx4 := bt_at a0 x4_1
       replace p4 := eq_true p4
       replace q4 := eq_true q4
       go_wp2
       go_ret
       exact ⟨ts40_, ts21_⟩
      rw [if_neg c11] at H
      exact absurd H (by simp)
     rw [if_neg c9] at H
     have c9b0 : (x3_1 == 2) = false := beq_eq_false_iff_ne.mpr c9
     have c9b1 : (x3_1 != 2) = true := bne_iff_ne.mpr c9
     have H' := Aside0.mk H
     clear H
     have p4 : 0 ≤ (x4_1 : Int) := of_decide_eq_true ts30_
     have q4 : x4_1 < (a0.size : Int) := of_decide_eq_true ts30_
     have hx4 := bt_at a0 x4_1
     replace p4 := eq_true p4
     replace q4 := eq_true q4
     go_wp2
     go_roundg k1
     case measure => have := HK1.out; omega
     case rel => exact ⟨(x3_1), (wrap64 (x4_1 + 1)), ts40_, ts40_, H', ⟨by have := HK1.out; omega⟩, ts21_⟩
    rw [if_neg c3] at H
    exact absurd H (by simp)
   rw [if_neg c2] at H
   have c2b0 : decide (x4_1 < (a0.size : Int)) = false := decide_eq_false c2
   clear c2
   obtain rfl := Option.some.inj H
   go_wp2
   go_ret
   exact ⟨ts40_, ts21_⟩
/-! ### cupelref35_end: function 49 -/
def cupelref35_end.f (k : Nat) (l0_0 : List Int) (a0_1 : Int) (a0_2 : Int) : Option (ByteArray) := if a0_1 = 1 then (some (⟨#[100, 111, 110, 101]⟩ : ByteArray)) else (if a0_1 = 2 then ((cupelref35_decimal.f k a0_2).bind fun t224 => (if 5 + t224.size ≤ 9223372036854775807 then (some ((⟨#[116, 114, 97, 112, 32]⟩ : ByteArray) ++ t224)) else (none))) else (if a0_1 = 3 then ((cupelref35_decimal.f k a0_2).bind fun t225 => (if 10 + t225.size ≤ 9223372036854775807 then (some ((⟨#[117, 110, 100, 101, 102, 105, 110, 101, 100, 32]⟩ : ByteArray) ++ t225)) else (none))) else (if a0_1 = 4 then (some (⟨#[99, 117, 116]⟩ : ByteArray)) else (some (⟨#[111, 116, 104, 101, 114]⟩ : ByteArray)))))
theorem cupelref35_end.mono : ∀ a0 a1 a2 k, LeO (cupelref35_end.f k a0 a1 a2) (cupelref35_end.f (k + 1) a0 a1 a2) := by
 intro a0 a1 a2 k
 unfold cupelref35_end.f
 repeat' first
   | (with_reducible exact cupelref35_decimal.mono _ _)
   | (with_reducible exact LeO.refl _)
   | (with_reducible exact LeO.none _)
   | (with_reducible refine LeO.ite ?_ ?_)
   | (with_reducible refine LeO.bind ?_ (fun _ => ?_))
   | exact LeO.none _
   | refine LeO.ite ?_ ?_
   | refine LeO.bind ?_ (fun _ => ?_)
theorem cupelref35_end.calls (k : Nat) (A0_0 : Option Addr) (c0_0 : Nat) (l0_0 : List Int) (a0_1 : Int) (a0_2 : Int) (r : ByteArray) (w : World) (hr0_0 : Kd.C (Kd.int .i64) w A0_0 l0_0.length l0_0) (hc0_0 : l0_0.length ≤ c0_0) (h : cupelref35_end.f k l0_0 a0_1 a0_2 = some r) :
  Calls Tryd.prog 49 #[.agg #[.slice A0_0 l0_0.length c0_0, .int .i64 a0_1, .int .i64 a0_2]] w fun e w' => e = .returned (.string r) ∧ Below w.heap.size w w' := by
 have hu43 := Tryd.underlying43
 have HR0_0 := Aside0.mk hr0_0
 have HC0_0 := Aside0.mk hc0_0
 clear hr0_0 hc0_0
 have HB := Aside0.mk (Below.refl w.heap.size w)
 have H : (if a0_1 = 1 then (some (⟨#[100, 111, 110, 101]⟩ : ByteArray)) else (if a0_1 = 2 then ((cupelref35_decimal.f k a0_2).bind fun t224 => (if 5 + t224.size ≤ 9223372036854775807 then (some ((⟨#[116, 114, 97, 112, 32]⟩ : ByteArray) ++ t224)) else (none))) else (if a0_1 = 3 then ((cupelref35_decimal.f k a0_2).bind fun t225 => (if 10 + t225.size ≤ 9223372036854775807 then (some ((⟨#[117, 110, 100, 101, 102, 105, 110, 101, 100, 32]⟩ : ByteArray) ++ t225)) else (none))) else (if a0_1 = 4 then (some (⟨#[99, 117, 116]⟩ : ByteArray)) else (some (⟨#[111, 116, 104, 101, 114]⟩ : ByteArray)))))) = some r := h
 clear h
 by_cases c2 : a0_1 = 1
 ·rw [if_pos c2] at H
  have c2b0 : (a0_1 == 1) = true := beq_iff_eq.mpr c2
  have c2b1 : (a0_1 != 1) = false := bne_eq_false_iff_eq.mpr c2
  clear c2
  obtain rfl := Option.some.inj H
  go_enter Tryd.func49, Tryd.ntmps49
  go_wp2_with (first | ((with_reducible refine gate_dst (N := 1) rfl ?_); refine box_event ?hg (N := 1) ?hd (cs := #[.slice A0_0 l0_0.length c0_0, .int .i64 a0_1, .int .i64 a0_2]) (t := 43) ?hr ?_; (case hd => rfl); (case hg => rfl); (case hr => exact ts19_); intro gb223 hg w3 hbox hb; have BK223 := Aside0.mk (hbox); have GW223 := Aside0.mk ((ts47_ HB.out : w.heap.size ≤ gb223)); have GE223 := Aside0.mk ((ts47_ HB.out : w.heap.size ≤ gb223)); replace HB := Aside0.mk (below_step (ts41_ HB.out) hb); clear hb hbox hg; have hcz4_0 : w3.cell? ⟨gb223, 0, none⟩ = some (.slice A0_0 l0_0.length c0_0) := (blk_cell BK223.out 0).trans rfl; have hcz4_1 : w3.cell? ⟨gb223, 1, none⟩ = some (.int .i64 a0_1) := (blk_cell BK223.out 1).trans rfl; have hcz4_2 : w3.cell? ⟨gb223, 2, none⟩ = some (.int .i64 a0_2) := (blk_cell BK223.out 2).trans rfl; have hfz4_0 := blk_frozen BK223.out 0; have hfz4_1 := blk_frozen BK223.out 1; have hfz4_2 := blk_frozen BK223.out 2))
  go_ret
  exact ⟨ts33_, ts22_ HB.out GE223.out⟩
 rw [if_neg c2] at H
 have c2b0 : (a0_1 == 1) = false := beq_eq_false_iff_ne.mpr c2
 have c2b1 : (a0_1 != 1) = true := bne_iff_ne.mpr c2
 by_cases c5 : a0_1 = 2
 ·rw [if_pos c5] at H
  have c5b0 : (a0_1 == 2) = true := beq_iff_eq.mpr c5
  have c5b1 : (a0_1 != 2) = false := bne_eq_false_iff_eq.mpr c5
  clear c5
  obtain ⟨t224, A6, H⟩ := bsA_ H
  try dsimp only at H
  by_cases c7 : 5 + t224.size ≤ 9223372036854775807
  ·rw [if_pos c7] at H
   have c7b0 := eq_true c7
   have c7b1 : decide (5 + t224.size ≤ 9223372036854775807) = true := decide_eq_true c7
   try have c7b2 : (9223372036854775807 < 5 + t224.size) = False := eq_false (Nat.not_lt.2 c7)
   obtain rfl := Option.some.inj H
   go_enter Tryd.func49, Tryd.ntmps49
   go_wp2_with (first | ((with_reducible refine gate_dst (N := 1) rfl ?_); refine box_event ?hg (N := 1) ?hd (cs := #[.slice A0_0 l0_0.length c0_0, .int .i64 a0_1, .int .i64 a0_2]) (t := 43) ?hr ?_; (case hd => rfl); (case hg => rfl); (case hr => exact ts19_); intro gb223 hg w8 hbox hb; have BK223 := Aside0.mk (hbox); have GW223 := Aside0.mk ((ts47_ HB.out : w.heap.size ≤ gb223)); have GE223 := Aside0.mk ((ts47_ HB.out : w.heap.size ≤ gb223)); replace HB := Aside0.mk (below_step (ts41_ HB.out) hb); clear hb hbox hg; have hcz9_0 : w8.cell? ⟨gb223, 0, none⟩ = some (.slice A0_0 l0_0.length c0_0) := (blk_cell BK223.out 0).trans rfl; have hcz9_1 : w8.cell? ⟨gb223, 1, none⟩ = some (.int .i64 a0_1) := (blk_cell BK223.out 1).trans rfl; have hcz9_2 : w8.cell? ⟨gb223, 2, none⟩ = some (.int .i64 a0_2) := (blk_cell BK223.out 2).trans rfl; have hfz9_0 := blk_frozen BK223.out 0; have hfz9_1 := blk_frozen BK223.out 1; have hfz9_2 := blk_frozen BK223.out 2) | ((with_reducible refine gate_callee (f := 29) rfl ?_); refine goesL_ (some 11) rfl rfl Tryd.func29 (by kernel_rfl) rfl #[.int .i64 a0_2] rfl ts10_ ?_; (with_reducible refine (cupelref35_decimal.calls k a0_2 t224 _ A6.out).mono ?_); rintro e w10 ⟨rfl, hb⟩; refine ⟨_, rfl, ?_⟩; replace BK223 := Aside0.mk (blk_below (g := gb223) (o := .cells #[.slice A0_0 l0_0.length c0_0, .int .i64 a0_1, .int .i64 a0_2] 43 (0, 0)) (ts18_ BK223.out) hb); replace HB := Aside0.mk (below_step (ts22_ HB.out GE223.out) hb); clear hb))
   go_ret
   exact ⟨ts33_, ts22_ HB.out GE223.out⟩
  rw [if_neg c7] at H
  exact absurd H (by simp)
 rw [if_neg c5] at H
 have c5b0 : (a0_1 == 2) = false := beq_eq_false_iff_ne.mpr c5
 have c5b1 : (a0_1 != 2) = true := bne_iff_ne.mpr c5
 by_cases c11 : a0_1 = 3
 ·rw [if_pos c11] at H
  have c11b0 : (a0_1 == 3) = true := beq_iff_eq.mpr c11
  have c11b1 : (a0_1 != 3) = false := bne_eq_false_iff_eq.mpr c11
  clear c11
  obtain ⟨t225, A12, H⟩ := bsA_ H
  try dsimp only at H
  by_cases c13 : 10 + t225.size ≤ 9223372036854775807
  ·rw [if_pos c13] at H
   have c13b0 := eq_true c13
   have c13b1 : decide (10 + t225.size ≤ 9223372036854775807) = true := decide_eq_true c13
   try have c13b2 : (9223372036854775807 < 10 + t225.size) = False := eq_false (Nat.not_lt.2 c13)
   obtain rfl := Option.some.inj H
   go_enter Tryd.func49, Tryd.ntmps49
   go_wp2_with (first | ((with_reducible refine gate_dst (N := 1) rfl ?_); refine box_event ?hg (N := 1) ?hd (cs := #[.slice A0_0 l0_0.length c0_0, .int .i64 a0_1, .int .i64 a0_2]) (t := 43) ?hr ?_; (case hd => rfl); (case hg => rfl); (case hr => exact ts19_); intro gb223 hg w14 hbox hb; have BK223 := Aside0.mk (hbox); have GW223 := Aside0.mk ((ts47_ HB.out : w.heap.size ≤ gb223)); have GE223 := Aside0.mk ((ts47_ HB.out : w.heap.size ≤ gb223)); replace HB := Aside0.mk (below_step (ts41_ HB.out) hb); clear hb hbox hg; have hcz15_0 : w14.cell? ⟨gb223, 0, none⟩ = some (.slice A0_0 l0_0.length c0_0) := (blk_cell BK223.out 0).trans rfl; have hcz15_1 : w14.cell? ⟨gb223, 1, none⟩ = some (.int .i64 a0_1) := (blk_cell BK223.out 1).trans rfl; have hcz15_2 : w14.cell? ⟨gb223, 2, none⟩ = some (.int .i64 a0_2) := (blk_cell BK223.out 2).trans rfl; have hfz15_0 := blk_frozen BK223.out 0; have hfz15_1 := blk_frozen BK223.out 1; have hfz15_2 := blk_frozen BK223.out 2) | ((with_reducible refine gate_callee (f := 29) rfl ?_); refine goesL_ (some 17) rfl rfl Tryd.func29 (by kernel_rfl) rfl #[.int .i64 a0_2] rfl ts10_ ?_; (with_reducible refine (cupelref35_decimal.calls k a0_2 t225 _ A12.out).mono ?_); rintro e w16 ⟨rfl, hb⟩; refine ⟨_, rfl, ?_⟩; replace BK223 := Aside0.mk (blk_below (g := gb223) (o := .cells #[.slice A0_0 l0_0.length c0_0, .int .i64 a0_1, .int .i64 a0_2] 43 (0, 0)) (ts18_ BK223.out) hb); replace HB := Aside0.mk (below_step (ts22_ HB.out GE223.out) hb); clear hb))
   go_ret
   exact ⟨ts33_, ts22_ HB.out GE223.out⟩
  rw [if_neg c13] at H
  exact absurd H (by simp)
 rw [if_neg c11] at H
 have c11b0 : (a0_1 == 3) = false := beq_eq_false_iff_ne.mpr c11
 have c11b1 : (a0_1 != 3) = true := bne_iff_ne.mpr c11
 by_cases c17 : a0_1 = 4
 ·rw [if_pos c17] at H
  have c17b0 : (a0_1 == 4) = true := beq_iff_eq.mpr c17
  have c17b1 : (a0_1 != 4) = false := bne_eq_false_iff_eq.mpr c17
  clear c17
  obtain rfl := Option.some.inj H
  go_enter Tryd.func49, Tryd.ntmps49
  go_wp2_with (first | ((with_reducible refine gate_dst (N := 1) rfl ?_); refine box_event ?hg (N := 1) ?hd (cs := #[.slice A0_0 l0_0.length c0_0, .int .i64 a0_1, .int .i64 a0_2]) (t := 43) ?hr ?_; (case hd => rfl); (case hg => rfl); (case hr => exact ts19_); intro gb223 hg w18 hbox hb; have BK223 := Aside0.mk (hbox); have GW223 := Aside0.mk ((ts47_ HB.out : w.heap.size ≤ gb223)); have GE223 := Aside0.mk ((ts47_ HB.out : w.heap.size ≤ gb223)); replace HB := Aside0.mk (below_step (ts41_ HB.out) hb); clear hb hbox hg; have hcz19_0 : w18.cell? ⟨gb223, 0, none⟩ = some (.slice A0_0 l0_0.length c0_0) := (blk_cell BK223.out 0).trans rfl; have hcz19_1 : w18.cell? ⟨gb223, 1, none⟩ = some (.int .i64 a0_1) := (blk_cell BK223.out 1).trans rfl; have hcz19_2 : w18.cell? ⟨gb223, 2, none⟩ = some (.int .i64 a0_2) := (blk_cell BK223.out 2).trans rfl; have hfz19_0 := blk_frozen BK223.out 0; have hfz19_1 := blk_frozen BK223.out 1; have hfz19_2 := blk_frozen BK223.out 2))
  go_ret
  exact ⟨ts33_, ts22_ HB.out GE223.out⟩
 rw [if_neg c17] at H
 have c17b0 : (a0_1 == 4) = false := beq_eq_false_iff_ne.mpr c17
 have c17b1 : (a0_1 != 4) = true := bne_iff_ne.mpr c17
 obtain rfl := Option.some.inj H
 go_enter Tryd.func49, Tryd.ntmps49
 go_wp2_with (first | ((with_reducible refine gate_dst (N := 1) rfl ?_); refine box_event ?hg (N := 1) ?hd (cs := #[.slice A0_0 l0_0.length c0_0, .int .i64 a0_1, .int .i64 a0_2]) (t := 43) ?hr ?_; (case hd => rfl); (case hg => rfl); (case hr => exact ts19_); intro gb223 hg w20 hbox hb; have BK223 := Aside0.mk (hbox); have GW223 := Aside0.mk ((ts47_ HB.out : w.heap.size ≤ gb223)); have GE223 := Aside0.mk ((ts47_ HB.out : w.heap.size ≤ gb223)); replace HB := Aside0.mk (below_step (ts41_ HB.out) hb); clear hb hbox hg; have hcz21_0 : w20.cell? ⟨gb223, 0, none⟩ = some (.slice A0_0 l0_0.length c0_0) := (blk_cell BK223.out 0).trans rfl; have hcz21_1 : w20.cell? ⟨gb223, 1, none⟩ = some (.int .i64 a0_1) := (blk_cell BK223.out 1).trans rfl; have hcz21_2 : w20.cell? ⟨gb223, 2, none⟩ = some (.int .i64 a0_2) := (blk_cell BK223.out 2).trans rfl; have hfz21_0 := blk_frozen BK223.out 0; have hfz21_1 := blk_frozen BK223.out 1; have hfz21_2 := blk_frozen BK223.out 2))
 go_ret
 exact ⟨ts33_, ts22_ HB.out GE223.out⟩
end Go.Proofs.YtndennmpnomjnaaDoor.A
