/- Written by wip/tools/xprint.py, a program of this session that drives the kit's printer. Not trusted: Lean checks it. -/
import Derived.Test.YtndennmpnomjnaaDoorAx0
set_option linter.all false
set_option maxHeartbeats 8000000
set_option maxRecDepth 100000
namespace Go.Proofs.YtndennmpnomjnaaDoor.A
open Go.RowKit Go.Proofs.YtndennmpnomjnaaDoorW.PrintWords Go.Proofs.YtndennmpnomjnaaDoorW.PrintLast Go.Proofs.YtndennmpnomjnaaDoorW.PrintMore
attribute [local go_sem] max2_int min2_int max_two min_two max_three min_three max_four min_four   -- for this text's walks alone
set_option linter.unusedVariables false
set_option linter.unusedSimpArgs false
/-! ### cupelref35_way: function 28 -/
def cupelref35_way.l0 : Nat → ByteArray → Bool → Int → Option (Bool)
 | 0, _, _, _ => none
 | k + 1, x0, x3, x4 => if x4 < (x0.size : Int) then (if 0 ≤ x4 then (if (bt x0 x4) = 32 then (if x3 = true then (some false) else (cupelref35_way.l0 k x0 ((bt x0 x4) == 32) (wrap64 (x4 + 1)))) else (cupelref35_way.l0 k x0 ((bt x0 x4) == 32) (wrap64 (x4 + 1)))) else (none)) else (some (!x3))
def cupelref35_way.f (k : Nat) (a0 : ByteArray) : Option (Bool) := cupelref35_way.l0 k a0 true 0
theorem cupelref35_way.mono_l : ∀ k, (∀ y0 y1 y2, LeO (cupelref35_way.l0 k y0 y1 y2) (cupelref35_way.l0 (k + 1) y0 y1 y2))
 | 0 => fun _ _ _ r h => by simp [cupelref35_way.l0] at h
 | k + 1 => by
  have ih0 := cupelref35_way.mono_l k
  ·intro y0 y1 y2
   unfold cupelref35_way.l0
   repeat' first
   | (with_reducible exact ih0 _ _ _)
   | (with_reducible exact LeO.refl _)
   | (with_reducible exact LeO.none _)
   | (with_reducible refine LeO.ite ?_ ?_)
   | (with_reducible refine LeO.bind ?_ (fun _ => ?_))
   | exact LeO.none _
   | refine LeO.ite ?_ ?_
   | refine LeO.bind ?_ (fun _ => ?_)
theorem cupelref35_way.mono : ∀ a0 k, LeO (cupelref35_way.f k a0) (cupelref35_way.f (k + 1) a0) := by
 intro a0 k
 have ih0 := cupelref35_way.mono_l k
 unfold cupelref35_way.f
 repeat' first
   | (with_reducible exact ih0 _ _ _)
   | (with_reducible exact LeO.refl _)
   | (with_reducible exact LeO.none _)
   | (with_reducible refine LeO.ite ?_ ?_)
   | (with_reducible refine LeO.bind ?_ (fun _ => ?_))
   | exact LeO.none _
   | refine LeO.ite ?_ ?_
   | refine LeO.bind ?_ (fun _ => ?_)
/-! ### cupelref35_decimal: function 29 -/
mutual
def cupelref35_decimal.j0 : Nat → Int → ByteArray → Option (ByteArray)
 | 0, _, _ => none
 | k + 1, x3, x4 => cupelref35_decimal.l0 k (IntKind.u64.wrap (Int.tdiv x3 10)) x4 (strOfNums (([(IntKind.u64.wrap (48 + (Int.tmod x3 10))) % 256] : List Int)))
def cupelref35_decimal.l0 : Nat → Int → ByteArray → ByteArray → Option (ByteArray)
 | 0, _, _, _ => none
 | k + 1, x3, x4, x5 => if x3 > 0 then ((some (([(IntKind.u64.wrap (48 + (Int.tmod x3 10))) % 256] : List Int) : List Int)).bind fun y220 => (if (strOfNums y220).size + x5.size ≤ 9223372036854775807 then (cupelref35_decimal.l0 k (IntKind.u64.wrap (Int.tdiv x3 10)) x4 ((strOfNums y220) ++ x5)) else (none))) else (if x4.size + x5.size ≤ 9223372036854775807 then (some (x4 ++ x5)) else (none))
end
def cupelref35_decimal.f (k : Nat) (a0 : Int) : Option (ByteArray) := if a0 < 0 then (cupelref35_decimal.j0 k (IntKind.u64.wrap (-(IntKind.u64.wrap (a0)))) (⟨#[45]⟩ : ByteArray)) else (cupelref35_decimal.j0 k (IntKind.u64.wrap (a0)) (⟨#[]⟩ : ByteArray))
theorem cupelref35_decimal.mono_l : ∀ k, (∀ y0 y1, LeO (cupelref35_decimal.j0 k y0 y1) (cupelref35_decimal.j0 (k + 1) y0 y1)) ∧ (∀ y0 y1 y2, LeO (cupelref35_decimal.l0 k y0 y1 y2) (cupelref35_decimal.l0 (k + 1) y0 y1 y2))
 | 0 => ⟨fun _ _ r h => by simp [cupelref35_decimal.j0] at h, fun _ _ _ r h => by simp [cupelref35_decimal.l0] at h⟩
 | k + 1 => by
  obtain ⟨ih0, ih1⟩ := cupelref35_decimal.mono_l k
  refine ⟨?_, ?_⟩
  ·intro y0 y1
   unfold cupelref35_decimal.j0
   repeat' first
   | (with_reducible exact ih0 _ _)
   | (with_reducible exact ih1 _ _ _)
   | (with_reducible exact LeO.refl _)
   | (with_reducible exact LeO.none _)
   | (with_reducible refine LeO.ite ?_ ?_)
   | (with_reducible refine LeO.bind ?_ (fun _ => ?_))
   | exact LeO.none _
   | refine LeO.ite ?_ ?_
   | refine LeO.bind ?_ (fun _ => ?_)
  intro y0 y1 y2
  unfold cupelref35_decimal.l0
  repeat' first
  | (with_reducible exact ih0 _ _)
  | (with_reducible exact ih1 _ _ _)
  | (with_reducible exact LeO.refl _)
  | (with_reducible exact LeO.none _)
  | (with_reducible refine LeO.ite ?_ ?_)
  | (with_reducible refine LeO.bind ?_ (fun _ => ?_))
  | exact LeO.none _
  | refine LeO.ite ?_ ?_
  | refine LeO.bind ?_ (fun _ => ?_)
theorem cupelref35_decimal.mono : ∀ a0 k, LeO (cupelref35_decimal.f k a0) (cupelref35_decimal.f (k + 1) a0) := by
 intro a0 k
 obtain ⟨ih0, ih1⟩ := cupelref35_decimal.mono_l k
 unfold cupelref35_decimal.f
 repeat' first
   | (with_reducible exact ih0 _ _)
   | (with_reducible exact ih1 _ _ _)
   | (with_reducible exact LeO.refl _)
   | (with_reducible exact LeO.none _)
   | (with_reducible refine LeO.ite ?_ ?_)
   | (with_reducible refine LeO.bind ?_ (fun _ => ?_))
   | exact LeO.none _
   | refine LeO.ite ?_ ?_
   | refine LeO.bind ?_ (fun _ => ?_)
/-! ### cupelref35_Bare: function 17 -/
def cupelref35_Bare.l0 : Nat → ByteArray → Int → Int → Option (ByteArray)
 | 0, _, _, _ => none
 | k + 1, x0, x3, x4 => if x4 < (x0.size : Int) then (if 0 ≤ x4 then (if (bt x0 x4) = 32 then (if (wrap64 (x3 + 1)) = 2 then (if x4 ≤ (x0.size : Int) then (some (x0.extract 0 (x4 : Int).toNat)) else (none)) else (cupelref35_Bare.l0 k x0 (wrap64 (x3 + 1)) (wrap64 (x4 + 1)))) else (if x3 = 2 then (if x4 ≤ (x0.size : Int) then (some (x0.extract 0 (x4 : Int).toNat)) else (none)) else (cupelref35_Bare.l0 k x0 x3 (wrap64 (x4 + 1))))) else (none)) else (some x0)
def cupelref35_Bare.f (k : Nat) (a0 : ByteArray) : Option (ByteArray) := cupelref35_Bare.l0 k a0 0 0
theorem cupelref35_Bare.mono_l : ∀ k, (∀ y0 y1 y2, LeO (cupelref35_Bare.l0 k y0 y1 y2) (cupelref35_Bare.l0 (k + 1) y0 y1 y2))
 | 0 => fun _ _ _ r h => by simp [cupelref35_Bare.l0] at h
 | k + 1 => by
  have ih0 := cupelref35_Bare.mono_l k
  ·intro y0 y1 y2
   unfold cupelref35_Bare.l0
   repeat' first
   | (with_reducible exact ih0 _ _ _)
   | (with_reducible exact LeO.refl _)
   | (with_reducible exact LeO.none _)
   | (with_reducible refine LeO.ite ?_ ?_)
   | (with_reducible refine LeO.bind ?_ (fun _ => ?_))
   | exact LeO.none _
   | refine LeO.ite ?_ ?_
   | refine LeO.bind ?_ (fun _ => ?_)
theorem cupelref35_Bare.mono : ∀ a0 k, LeO (cupelref35_Bare.f k a0) (cupelref35_Bare.f (k + 1) a0) := by
 intro a0 k
 have ih0 := cupelref35_Bare.mono_l k
 unfold cupelref35_Bare.f
 repeat' first
   | (with_reducible exact ih0 _ _ _)
   | (with_reducible exact LeO.refl _)
   | (with_reducible exact LeO.none _)
   | (with_reducible refine LeO.ite ?_ ?_)
   | (with_reducible refine LeO.bind ?_ (fun _ => ?_))
   | exact LeO.none _
   | refine LeO.ite ?_ ?_
   | refine LeO.bind ?_ (fun _ => ?_)
theorem cupelref35_Bare.calls (k : Nat) (a0 : ByteArray) (r : ByteArray) (w : World) (h : cupelref35_Bare.f k a0 = some r) :
  Calls Tryd.prog 17 #[.string a0] w fun e w' => e = .returned (.string r) ∧ Drawn0 w w' := by
 have H : (cupelref35_Bare.l0 k a0 0 0) = some r := h
 clear h
 have H' := Aside0.mk H
 clear H
 go_enter Tryd.func17, Tryd.ntmps17
 go_wp2
 go_loopg [3, 4] k (fun kq v3 v4 w' => ∃ (x3_1 : Int) (x4_1 : Int), v3 = .int .i64 x3_1 ∧ v4 = .int .i64 x4_1 ∧ Aside0 (cupelref35_Bare.l0 kq a0 x3_1 x4_1 = some r) ∧ Aside0 (kq ≤ k) ∧ Drawn0 w w')
 case atStart => exact ⟨(0), (0), ts34_, ts34_, H', ⟨Nat.le_refl _⟩, ts19_⟩
 case round =>
  clear H'
  try clear c1
  obtain ⟨x3_1, x4_1, rfl, rfl, HA, HK1, ⟨m1, rfl⟩⟩ := hrel
  cases gk with
  | zero => exact absurd HA.out (by simp [cupelref35_Bare.l0])
  | succ k1 =>
   have H := HA.out
   clear HA
   simp only [cupelref35_Bare.l0] at H
   by_cases c2 : x4_1 < (a0.size : Int)
   ·rw [if_pos c2] at H
    have c2b0 : decide (x4_1 < (a0.size : Int)) = true := decide_eq_true c2
    clear c2
    by_cases c3 : 0 ≤ x4_1
    ·rw [if_pos c3] at H
     have c3b0 : decide (0 ≤ x4_1) = true := decide_eq_true c3
     clear c3
     by_cases c5 : (bt a0 x4_1) = 32
     ·rw [if_pos c5] at H
      have c5b0 : ((bt a0 x4_1) == 32) = true := beq_iff_eq.mpr c5
      have c5b1 : ((bt a0 x4_1) != 32) = false := bne_eq_false_iff_eq.mpr c5
      clear c5
      by_cases c6 : (wrap64 (x3_1 + 1)) = 2
      ·rw [if_pos c6] at H
       have c6b0 : ((wrap64 (x3_1 + 1)) == 2) = true := beq_iff_eq.mpr c6
       have c6b1 : ((wrap64 (x3_1 + 1)) != 2) = false := bne_eq_false_iff_eq.mpr c6
       clear c6
       have c7b0 := eq_true (of_decide_eq_true ts26_ : 0 ≤ x4_1)
       by_cases c8 : x4_1 ≤ (a0.size : Int)
       ·rw [if_pos c8] at H
        have c8b0 := eq_true c8
        have c8b1 : decide (x4_1 ≤ (a0.size : Int)) = true := decide_eq_true c8
        clear c8
        obtain rfl := Option.some.inj H
        have p4 : 0 ≤ (x4_1 : Int) := of_decide_eq_true ts26_
        have q4 : x4_1 < (a0.size : Int) := of_decide_eq_true ts26_
        have hx4 := bt_at a0 x4_1
        replace p4 := eq_true p4
        replace q4 := eq_true q4
        go_wp2
        go_ret
        exact ⟨ts34_, ts19_⟩
       rw [if_neg c8] at H
       exact absurd H (by simp)
      rw [if_neg c6] at H
      have c6b0 : ((wrap64 (x3_1 + 1)) == 2) = false := beq_eq_false_iff_ne.mpr c6
      have c6b1 : ((wrap64 (x3_1 + 1)) != 2) = true := bne_iff_ne.mpr c6
      have H' := Aside0.mk H
      clear H
      have p4 : 0 ≤ (x4_1 : Int) := of_decide_eq_true ts26_
      have q4 : x4_1 < (a0.size : Int) := of_decide_eq_true ts26_
      have hx4 := bt_at a0 x4_1
      replace p4 := eq_true p4
      replace q4 := eq_true q4
      go_wp2
      go_roundg k1
      case measure => have := HK1.out; omega
      case rel => exact ⟨(wrap64 (x3_1 + 1)), (wrap64 (x4_1 + 1)), ts34_, ts34_, H', ⟨by have := HK1.out; omega⟩, ts19_⟩
     rw [if_neg c5] at H
     have c5b0 : ((bt a0 x4_1) == 32) = false := beq_eq_false_iff_ne.mpr c5
     have c5b1 : ((bt a0 x4_1) != 32) = true := bne_iff_ne.mpr c5
     by_cases c9 : x3_1 = 2
     ·rw [if_pos c9] at H
      have c9b0 : (x3_1 == 2) = true := beq_iff_eq.mpr c9
      have c9b1 : (x3_1 != 2) = false := bne_eq_false_iff_eq.mpr c9
      clear c9
      have c10b0 := eq_true (of_decide_eq_true ts26_ : 0 ≤ x4_1)
      by_cases c11 : x4_1 ≤ (a0.size : Int)
      ·rw [if_pos c11] at H
       have c11b0 := eq_true c11
       have c11b1 : decide (x4_1 ≤ (a0.size : Int)) = true := decide_eq_true c11
       clear c11
       obtain rfl := Option.some.inj H
       have p4 : 0 ≤ (x4_1 : Int) := of_decide_eq_true ts26_
       have q4 : x4_1 < (a0.size : Int) := of_decide_eq_true ts26_
       have hx4 := bt_at a0 x4_1
       replace p4 := eq_true p4
       replace q4 := eq_true q4
       go_wp2
       go_ret
       exact ⟨ts34_, ts19_⟩
      rw [if_neg c11] at H
      exact absurd H (by simp)
     rw [if_neg c9] at H
     have c9b0 : (x3_1 == 2) = false := beq_eq_false_iff_ne.mpr c9
     have c9b1 : (x3_1 != 2) = true := bne_iff_ne.mpr c9
     have H' := Aside0.mk H
     clear H
     have p4 : 0 ≤ (x4_1 : Int) := of_decide_eq_true ts26_
     have q4 : x4_1 < (a0.size : Int) := of_decide_eq_true ts26_
     have hx4 := bt_at a0 x4_1
     replace p4 := eq_true p4
     replace q4 := eq_true q4
     go_wp2
     go_roundg k1
     case measure => have := HK1.out; omega
     case rel => exact ⟨(x3_1), (wrap64 (x4_1 + 1)), ts34_, ts34_, H', ⟨by have := HK1.out; omega⟩, ts19_⟩
    rw [if_neg c3] at H
    exact absurd H (by simp)
   rw [if_neg c2] at H
   have c2b0 : decide (x4_1 < (a0.size : Int)) = false := decide_eq_false c2
   clear c2
   obtain rfl := Option.some.inj H
   go_wp2
   go_ret
   exact ⟨ts34_, ts19_⟩
/-! ### cupelref35_end: function 49 -/
def cupelref35_end.f (k : Nat) (l0_0 : List Int) (a0_1 : Int) (a0_2 : Int) : Option (ByteArray) := if a0_1 = 1 then (some (⟨#[100, 111, 110, 101]⟩ : ByteArray)) else (if a0_1 = 2 then ((cupelref35_decimal.f k a0_2).bind fun t224 => (if 5 + t224.size ≤ 9223372036854775807 then (some ((⟨#[116, 114, 97, 112, 32]⟩ : ByteArray) ++ t224)) else (none))) else (if a0_1 = 3 then ((cupelref35_decimal.f k a0_2).bind fun t225 => (if 10 + t225.size ≤ 9223372036854775807 then (some ((⟨#[117, 110, 100, 101, 102, 105, 110, 101, 100, 32]⟩ : ByteArray) ++ t225)) else (none))) else (if a0_1 = 4 then (some (⟨#[99, 117, 116]⟩ : ByteArray)) else (some (⟨#[111, 116, 104, 101, 114]⟩ : ByteArray)))))
theorem cupelref35_end.mono : ∀ a0 a1 a2 k, LeO (cupelref35_end.f k a0 a1 a2) (cupelref35_end.f (k + 1) a0 a1 a2) := by
 intro a0 a1 a2 k
 unfold cupelref35_end.f
 repeat' first
   | (with_reducible exact cupelref35_decimal.mono _ _)
   | (with_reducible exact LeO.refl _)
   | (with_reducible exact LeO.none _)
   | (with_reducible refine LeO.ite ?_ ?_)
   | (with_reducible refine LeO.bind ?_ (fun _ => ?_))
   | exact LeO.none _
   | refine LeO.ite ?_ ?_
   | refine LeO.bind ?_ (fun _ => ?_)
end Go.Proofs.YtndennmpnomjnaaDoor.A
