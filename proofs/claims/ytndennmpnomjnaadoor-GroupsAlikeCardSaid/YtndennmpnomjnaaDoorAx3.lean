/- Written by wip/tools/xprint.py, a program of this session that drives the kit's printer. Not trusted: Lean checks it. -/
import Derived.Test.YtndennmpnomjnaaDoorAx0
set_option linter.all false
set_option maxHeartbeats 8000000
set_option maxRecDepth 100000
namespace Go.Proofs.YtndennmpnomjnaaDoor.A
open Go.RowKit Go.Proofs.YtndennmpnomjnaaDoorW.PrintWords Go.Proofs.YtndennmpnomjnaaDoorW.PrintLast Go.Proofs.YtndennmpnomjnaaDoorW.PrintMore
attribute [local go_sem] max2_int min2_int max_two min_two max_three min_three max_four min_four   -- for this text's walks alone
set_option linter.unusedVariables false
set_option linter.unusedSimpArgs false
/-! ### cupellaw35_great: function 9 -/
mutual
def cupellaw35_great.l0 : Nat → List (S45) → Int → Option (Bool)
 | 0, _, _ => none
 | k + 1, x0, x3 => if x3 < (x0.length : Int) then (cupellaw35_great.j1 k x0 x3 (decide ((x0.length : Int) ≤ 200))) else (cupellaw35_great.j1 k x0 x3 false)
def cupellaw35_great.j1 : Nat → List (S45) → Int → Bool → Option (Bool)
 | 0, _, _, _ => none
 | k + 1, x0, x3, x12 => if x12 = true then (if 0 ≤ x3 then (if x3 < (x0.length : Int) then (if (((rd_T45 x0 x3).f1.f0).length : Int) > 2000 then (some true) else (if (((rd_T45 x0 x3).f0).size : Int) > 1000 then (some true) else (cupellaw35_great.l0 k x0 (wrap64 (x3 + 1))))) else (none)) else (none)) else (some (decide ((x0.length : Int) > 200)))
end
def cupellaw35_great.f (k : Nat) (l0 : List (S45)) : Option (Bool) := cupellaw35_great.l0 k l0 0
theorem cupellaw35_great.mono_l : ∀ k, (∀ y0 y1, LeO (cupellaw35_great.l0 k y0 y1) (cupellaw35_great.l0 (k + 1) y0 y1)) ∧ (∀ y0 y1 y2, LeO (cupellaw35_great.j1 k y0 y1 y2) (cupellaw35_great.j1 (k + 1) y0 y1 y2))
 | 0 => ⟨fun _ _ r h => by simp [cupellaw35_great.l0] at h, fun _ _ _ r h => by simp [cupellaw35_great.j1] at h⟩
 | k + 1 => by
  obtain ⟨ih0, ih1⟩ := cupellaw35_great.mono_l k
  refine ⟨?_, ?_⟩
  ·intro y0 y1
   unfold cupellaw35_great.l0
   repeat' first
   | (with_reducible exact ih0 _ _)
   | (with_reducible exact ih1 _ _ _)
   | (with_reducible exact LeO.refl _)
   | (with_reducible exact LeO.none _)
   | (with_reducible refine LeO.ite ?_ ?_)
   | (with_reducible refine LeO.bind ?_ (fun _ => ?_))
   | exact LeO.none _
   | refine LeO.ite ?_ ?_
   | refine LeO.bind ?_ (fun _ => ?_)
  intro y0 y1 y2
  unfold cupellaw35_great.j1
  repeat' first
  | (with_reducible exact ih0 _ _)
  | (with_reducible exact ih1 _ _ _)
  | (with_reducible exact LeO.refl _)
  | (with_reducible exact LeO.none _)
  | (with_reducible refine LeO.ite ?_ ?_)
  | (with_reducible refine LeO.bind ?_ (fun _ => ?_))
  | exact LeO.none _
  | refine LeO.ite ?_ ?_
  | refine LeO.bind ?_ (fun _ => ?_)
theorem cupellaw35_great.mono : ∀ a0 k, LeO (cupellaw35_great.f k a0) (cupellaw35_great.f (k + 1) a0) := by
 intro a0 k
 obtain ⟨ih0, ih1⟩ := cupellaw35_great.mono_l k
 unfold cupellaw35_great.f
 repeat' first
   | (with_reducible exact ih0 _ _)
   | (with_reducible exact ih1 _ _ _)
   | (with_reducible exact LeO.refl _)
   | (with_reducible exact LeO.none _)
   | (with_reducible refine LeO.ite ?_ ?_)
   | (with_reducible refine LeO.bind ?_ (fun _ => ?_))
   | exact LeO.none _
   | refine LeO.ite ?_ ?_
   | refine LeO.bind ?_ (fun _ => ?_)
theorem cupellaw35_great.calls (k : Nat) (A0 : Option Addr) (c0 : Nat) (l0 : List (S45)) (r : Bool) (w : World) (hr0 : Kd.C k45 w A0 l0.length l0) (hc0 : l0.length ≤ c0) (h : cupellaw35_great.f k l0 = some r) :
  Calls Tryd.prog 9 #[.slice A0 l0.length c0] w fun e w' => e = .returned (.bool r) ∧ Drawn0 w w' := by
 have HR0 := Aside0.mk hr0
 have HC0 := Aside0.mk hc0
 clear hr0 hc0
 have H : (cupellaw35_great.l0 k l0 0) = some r := h
 clear h
 have H' := Aside0.mk H
 clear H
 go_enter Tryd.func9, Tryd.ntmps9
 go_wp2
 go_loopg [3] k (fun kq v3 w' => ∃ (x3_1 : Int), v3 = .int .i64 x3_1 ∧ Aside0 (cupellaw35_great.l0 kq l0 x3_1 = some r) ∧ Aside0 (kq ≤ k) ∧ Drawn0 w w')
 case atStart => exact ⟨(0), ts34_, H', ⟨Nat.le_refl _⟩, ts19_⟩
 case round =>
  clear H'
  obtain ⟨x3_1, rfl, HA, HK1, ⟨m1, rfl⟩⟩ := hrel
  cases gk with
  | zero => exact absurd HA.out (by simp [cupellaw35_great.l0])
  | succ k1 =>
   have H := HA.out
   clear HA
   simp only [cupellaw35_great.l0] at H
   have HC2 := Aside0.mk H
   clear H
   go_upto_region 2 with (fail)
   go_cut [12] (fun v12 wc => ∃ (kq : Nat) (x12_1 : Bool), v12 = .bool x12_1 ∧ Aside0 (cupellaw35_great.j1 kq l0 x3_1 x12_1 = some r) ∧ Aside0 (kq ≤ k1) ∧ Drawn0 w wc)
   case first =>
    have H := HC2.out
    clear HC2
    by_cases c3 : x3_1 < (l0.length : Int)
    ·rw [if_pos c3] at H
     have c3b0 : decide (x3_1 < (l0.length : Int)) = true := decide_eq_true c3
     clear c3
     (first | rw [c3b0] | (simp only [i64_w, i32_w]; rw [c3b0]) | skip)
     have H' := Aside0.mk H
     clear H
     go_wp2
     go_meet
     case rel => exact ⟨_, (decide ((l0.length : Int) ≤ 200)), ts34_, H', ⟨by have := HK1.out; first | omega | exact Nat.le_refl _⟩, ts19_⟩
    rw [if_neg c3] at H
    have c3b0 : decide (x3_1 < (l0.length : Int)) = false := decide_eq_false c3
    clear c3
    (first | rw [c3b0] | (simp only [i64_w, i32_w]; rw [c3b0]) | skip)
    have H' := Aside0.mk H
    clear H
    go_wp2
    go_meet
    case rel => exact ⟨_, (false), ts34_, H', ⟨by have := HK1.out; first | omega | exact Nat.le_refl _⟩, ts19_⟩
   case rest =>
    clear HC2
    try clear p2
    try clear c3
    try clear c3b0
    obtain ⟨kq, x12_1, rfl, HA, HJ1, ⟨mc1, rfl⟩⟩ := hcut
    cases kq with
    | zero => exact absurd HA.out (by simp [cupellaw35_great.j1])
    | succ kj1 =>
     have H := HA.out
     clear HA
     simp only [cupellaw35_great.j1] at H
     by_cases c4 : x12_1 = true
     ·subst c4
      rw [if_pos rfl] at H
      by_cases c5 : 0 ≤ x3_1
      ·rw [if_pos c5] at H
       have c5b0 : decide (0 ≤ x3_1) = true := decide_eq_true c5
       clear c5
       by_cases c6 : x3_1 < (l0.length : Int)
       ·rw [if_pos c6] at H
        have c6b0 : decide (x3_1 < (l0.length : Int)) = true := decide_eq_true c6
        clear c6
        by_cases c7 : (((rd_T45 l0 x3_1).f1.f0).length : Int) > 2000
        ·rw [if_pos c7] at H
         have c7b0 : decide (2000 < (((rd_T45 l0 x3_1).f1.f0).length : Int)) = true := decide_eq_true c7
         have c7b1 : decide (2000 < ((rd_T45 l0 x3_1).f1.f0).length) = true := decide_eq_true (by omega)
         clear c7
         obtain rfl := Option.some.inj H
         have p190 : 0 ≤ (x3_1 : Int) := of_decide_eq_true ts26_
         have q190 : x3_1 < (l0.length : Int) := of_decide_eq_true ts26_
         obtain ⟨ad190, A190_1, c190_1, e190, hx190_0, hx190_1, hx190_2, hx190_3, hl190_1, hi190_1⟩ := at_T45 HR0.out x3_1 p190 q190
         cases e190
         have HR190_1 := Aside0.mk hi190_1
         have HC190_1 := Aside0.mk hl190_1
         clear hi190_1 hl190_1
         replace p190 := eq_true p190
         replace q190 := eq_true q190
         go_wp2
         go_ret
         exact ⟨ts34_, ts19_⟩
        rw [if_neg c7] at H
        have c7b0 : decide (2000 < (((rd_T45 l0 x3_1).f1.f0).length : Int)) = false := decide_eq_false c7
        have c7b1 : decide (2000 < ((rd_T45 l0 x3_1).f1.f0).length) = false := decide_eq_false (by omega)
        clear c7
        by_cases c8 : (((rd_T45 l0 x3_1).f0).size : Int) > 1000
        ·rw [if_pos c8] at H
         have c8b0 : decide (1000 < (((rd_T45 l0 x3_1).f0).size : Int)) = true := decide_eq_true c8
         have c8b1 : decide (1000 < ((rd_T45 l0 x3_1).f0).size) = true := decide_eq_true (by omega)
         clear c8
         obtain rfl := Option.some.inj H
         have p190 : 0 ≤ (x3_1 : Int) := of_decide_eq_true ts26_
         have q190 : x3_1 < (l0.length : Int) := of_decide_eq_true ts26_
         obtain ⟨ad190, A190_1, c190_1, e190, hx190_0, hx190_1, hx190_2, hx190_3, hl190_1, hi190_1⟩ := at_T45 HR0.out x3_1 p190 q190
         cases e190
         have HR190_1 := Aside0.mk hi190_1
         have HC190_1 := Aside0.mk hl190_1
         clear hi190_1 hl190_1
         replace p190 := eq_true p190
         replace q190 := eq_true q190
         have p191 : 0 ≤ (x3_1 : Int) := of_decide_eq_true ts26_
         have q191 : x3_1 < (l0.length : Int) := of_decide_eq_true ts26_
         obtain ⟨ad191, A191_1, c191_1, e191, hx191_0, hx191_1, hx191_2, hx191_3, hl191_1, hi191_1⟩ := at_T45 HR0.out x3_1 p191 q191
         obtain rfl : ad190 = ad191 := (by injection e191)
         have HR191_1 := Aside0.mk hi191_1
         have HC191_1 := Aside0.mk hl191_1
         clear hi191_1 hl191_1
         replace p191 := eq_true p191
         replace q191 := eq_true q191
         have ea_ := Option.some.inj (hx190_1.symm.trans hx191_1)
         injection ea_ with ea_ en_ ec_
         subst ea_
         subst ec_
         clear en_
         go_wp2
         go_ret
         exact ⟨ts34_, ts19_⟩
        rw [if_neg c8] at H
        have c8b0 : decide (1000 < (((rd_T45 l0 x3_1).f0).size : Int)) = false := decide_eq_false c8
        have c8b1 : decide (1000 < ((rd_T45 l0 x3_1).f0).size) = false := decide_eq_false (by omega)
        clear c8
        have H' := Aside0.mk H
        clear H
        have p190 : 0 ≤ (x3_1 : Int) := of_decide_eq_true ts26_
        have q190 : x3_1 < (l0.length : Int) := of_decide_eq_true ts26_
        obtain ⟨ad190, A190_1, c190_1, e190, hx190_0, hx190_1, hx190_2, hx190_3, hl190_1, hi190_1⟩ := at_T45 HR0.out x3_1 p190 q190
        cases e190
        have HR190_1 := Aside0.mk hi190_1
        have HC190_1 := Aside0.mk hl190_1
        clear hi190_1 hl190_1
        replace p190 := eq_true p190
        replace q190 := eq_true q190
        have p191 : 0 ≤ (x3_1 : Int) := of_decide_eq_true ts26_
        have q191 : x3_1 < (l0.length : Int) := of_decide_eq_true ts26_
        obtain ⟨ad191, A191_1, c191_1, e191, hx191_0, hx191_1, hx191_2, hx191_3, hl191_1, hi191_1⟩ := at_T45 HR0.out x3_1 p191 q191
        obtain rfl : ad190 = ad191 := (by injection e191)
        have HR191_1 := Aside0.mk hi191_1
        have HC191_1 := Aside0.mk hl191_1
        clear hi191_1 hl191_1
        replace p191 := eq_true p191
        replace q191 := eq_true q191
        have ea_ := Option.some.inj (hx190_1.symm.trans hx191_1)
        injection ea_ with ea_ en_ ec_
        subst ea_
        subst ec_
        clear en_
        go_wp2
        go_roundg kj1
        case measure => have := HK1.out; have := HJ1.out; omega
        case rel => exact ⟨(wrap64 (x3_1 + 1)), ts34_, H', ⟨by have := HK1.out; have := HJ1.out; omega⟩, ts19_⟩
       rw [if_neg c6] at H
       exact absurd H (by simp)
      rw [if_neg c5] at H
      exact absurd H (by simp)
     replace c4 := Bool.eq_false_iff.mpr c4
     subst c4
     rw [if_neg Bool.false_ne_true] at H
     obtain rfl := Option.some.inj H
     go_wp2
     go_ret
     exact ⟨ts34_, ts19_⟩
/-! ### cupelref10_begins: function 51 -/
mutual
def cupelref10_begins.l0 : Nat → List Int → List Int → Int → Option (Bool)
 | 0, _, _, _ => none
 | k + 1, x0, x1, x5 => if x5 < (x0.length : Int) then (cupelref10_begins.j1 k x0 x1 x5 (decide (x5 < (x1.length : Int)))) else (cupelref10_begins.j1 k x0 x1 x5 false)
def cupelref10_begins.j1 : Nat → List Int → List Int → Int → Bool → Option (Bool)
 | 0, _, _, _, _ => none
 | k + 1, x0, x1, x5, x15 => if x15 = true then (if 0 ≤ x5 then (if x5 < (x0.length : Int) then (if x5 < (x1.length : Int) then (if (rd x0 x5) = (rd x1 x5) then (cupelref10_begins.l0 k x0 x1 (wrap64 (x5 + 1))) else (some false)) else (none)) else (none)) else (none)) else (some (decide ((x0.length : Int) ≤ (x1.length : Int))))
end
def cupelref10_begins.f (k : Nat) (l0 : List Int) (l1 : List Int) : Option (Bool) := cupelref10_begins.l0 k l0 l1 0
theorem cupelref10_begins.mono_l : ∀ k, (∀ y0 y1 y2, LeO (cupelref10_begins.l0 k y0 y1 y2) (cupelref10_begins.l0 (k + 1) y0 y1 y2)) ∧ (∀ y0 y1 y2 y3, LeO (cupelref10_begins.j1 k y0 y1 y2 y3) (cupelref10_begins.j1 (k + 1) y0 y1 y2 y3))
 | 0 => ⟨fun _ _ _ r h => by simp [cupelref10_begins.l0] at h, fun _ _ _ _ r h => by simp [cupelref10_begins.j1] at h⟩
 | k + 1 => by
  obtain ⟨ih0, ih1⟩ := cupelref10_begins.mono_l k
  refine ⟨?_, ?_⟩
  ·intro y0 y1 y2
   unfold cupelref10_begins.l0
   repeat' first
   | (with_reducible exact ih0 _ _ _)
   | (with_reducible exact ih1 _ _ _ _)
   | (with_reducible exact LeO.refl _)
   | (with_reducible exact LeO.none _)
   | (with_reducible refine LeO.ite ?_ ?_)
   | (with_reducible refine LeO.bind ?_ (fun _ => ?_))
   | exact LeO.none _
   | refine LeO.ite ?_ ?_
   | refine LeO.bind ?_ (fun _ => ?_)
  intro y0 y1 y2 y3
  unfold cupelref10_begins.j1
  repeat' first
  | (with_reducible exact ih0 _ _ _)
  | (with_reducible exact ih1 _ _ _ _)
  | (with_reducible exact LeO.refl _)
  | (with_reducible exact LeO.none _)
  | (with_reducible refine LeO.ite ?_ ?_)
  | (with_reducible refine LeO.bind ?_ (fun _ => ?_))
  | exact LeO.none _
  | refine LeO.ite ?_ ?_
  | refine LeO.bind ?_ (fun _ => ?_)
theorem cupelref10_begins.mono : ∀ a0 a1 k, LeO (cupelref10_begins.f k a0 a1) (cupelref10_begins.f (k + 1) a0 a1) := by
 intro a0 a1 k
 obtain ⟨ih0, ih1⟩ := cupelref10_begins.mono_l k
 unfold cupelref10_begins.f
 repeat' first
   | (with_reducible exact ih0 _ _ _)
   | (with_reducible exact ih1 _ _ _ _)
   | (with_reducible exact LeO.refl _)
   | (with_reducible exact LeO.none _)
   | (with_reducible refine LeO.ite ?_ ?_)
   | (with_reducible refine LeO.bind ?_ (fun _ => ?_))
   | exact LeO.none _
   | refine LeO.ite ?_ ?_
   | refine LeO.bind ?_ (fun _ => ?_)
theorem cupelref10_begins.calls (k : Nat) (A0 : Option Addr) (c0 : Nat) (l0 : List Int) (A1 : Option Addr) (c1 : Nat) (l1 : List Int) (r : Bool) (w : World) (hr0 : Kd.C (Kd.int .i64) w A0 l0.length l0) (hc0 : l0.length ≤ c0) (hr1 : Kd.C (Kd.int .i64) w A1 l1.length l1) (hc1 : l1.length ≤ c1) (h : cupelref10_begins.f k l0 l1 = some r) :
  Calls Tryd.prog 51 #[.slice A0 l0.length c0, .slice A1 l1.length c1] w fun e w' => e = .returned (.bool r) ∧ Drawn0 w w' := by
 have HR0 := Aside0.mk hr0
 have HC0 := Aside0.mk hc0
 clear hr0 hc0
 have HR1 := Aside0.mk hr1
 have HC1 := Aside0.mk hc1
 clear hr1 hc1
 have H : (cupelref10_begins.l0 k l0 l1 0) = some r := h
 clear h
 have H' := Aside0.mk H
 clear H
 go_enter Tryd.func51, Tryd.ntmps51
 go_wp2
 repeat (go_quiet (fail); try go_wp2)
 go_loopg [5] k (fun kq v5 w' => ∃ (x5_1 : Int), v5 = .int .i64 x5_1 ∧ Aside0 (cupelref10_begins.l0 kq l0 l1 x5_1 = some r) ∧ Aside0 (kq ≤ k) ∧ Drawn0 w w')
 case atStart => exact ⟨(0), ts34_, H', ⟨Nat.le_refl _⟩, ts19_⟩
 case round =>
  clear H'
  try clear c1
  try clear p2
  obtain ⟨x5_1, rfl, HA, HK1, ⟨m1, rfl⟩⟩ := hrel
  cases gk with
  | zero => exact absurd HA.out (by simp [cupelref10_begins.l0])
  | succ k1 =>
   have H := HA.out
   clear HA
   simp only [cupelref10_begins.l0] at H
   have HC3 := Aside0.mk H
   clear H
   go_upto_region 2 with (fail)
   repeat (go_quiet (fail); go_upto_region 2 with (fail))
   go_cut [15] (fun v15 wc => ∃ (kq : Nat) (x15_2 : Bool), v15 = .bool x15_2 ∧ Aside0 (cupelref10_begins.j1 kq l0 l1 x5_1 x15_2 = some r) ∧ Aside0 (kq ≤ k1) ∧ Drawn0 w wc)
   case first =>
    have H := HC3.out
    clear HC3
    by_cases c4 : x5_1 < (l0.length : Int)
    ·rw [if_pos c4] at H
     have c4b0 : decide (x5_1 < (l0.length : Int)) = true := decide_eq_true c4
     clear c4
     (first | rw [c4b0] | (simp only [i64_w, i32_w]; rw [c4b0]) | skip)
     have H' := Aside0.mk H
     clear H
     go_wp2
     repeat (go_quiet (fail); try go_wp2)
     go_meet
     case rel => exact ⟨_, (decide (x5_1 < (l1.length : Int))), ts34_, H', ⟨by have := HK1.out; first | omega | exact Nat.le_refl _⟩, ts19_⟩
    rw [if_neg c4] at H
    have c4b0 : decide (x5_1 < (l0.length : Int)) = false := decide_eq_false c4
    clear c4
    (first | rw [c4b0] | (simp only [i64_w, i32_w]; rw [c4b0]) | skip)
    have H' := Aside0.mk H
    clear H
    go_wp2
    repeat (go_quiet (fail); try go_wp2)
    go_meet
    case rel => exact ⟨_, (false), ts34_, H', ⟨by have := HK1.out; first | omega | exact Nat.le_refl _⟩, ts19_⟩
   case rest =>
    clear HC3
    try clear c1
    try clear p2
    try clear c4
    try clear c4b0
    try clear p2
    obtain ⟨kq, x15_2, rfl, HA, HJ2, ⟨mc2, rfl⟩⟩ := hcut
    cases kq with
    | zero => exact absurd HA.out (by simp [cupelref10_begins.j1])
    | succ kj2 =>
     have H := HA.out
     clear HA
     simp only [cupelref10_begins.j1] at H
     by_cases c5 : x15_2 = true
     ·subst c5
      rw [if_pos rfl] at H
      by_cases c6 : 0 ≤ x5_1
      ·rw [if_pos c6] at H
       have c6b0 : decide (0 ≤ x5_1) = true := decide_eq_true c6
       clear c6
       by_cases c7 : x5_1 < (l0.length : Int)
       ·rw [if_pos c7] at H
        have c7b0 : decide (x5_1 < (l0.length : Int)) = true := decide_eq_true c7
        clear c7
        by_cases c8 : x5_1 < (l1.length : Int)
        ·rw [if_pos c8] at H
         have c8b0 : decide (x5_1 < (l1.length : Int)) = true := decide_eq_true c8
         clear c8
         by_cases c9 : (rd l0 x5_1) = (rd l1 x5_1)
         ·rw [if_pos c9] at H
          have c9b0 : ((rd l0 x5_1) == (rd l1 x5_1)) = true := beq_iff_eq.mpr c9
          have c9b1 : ((rd l0 x5_1) != (rd l1 x5_1)) = false := bne_eq_false_iff_eq.mpr c9
          clear c9
          have H' := Aside0.mk H
          clear H
          have p192 : 0 ≤ (x5_1 : Int) := of_decide_eq_true ts26_
          have q192 : x5_1 < (l0.length : Int) := of_decide_eq_true ts26_
          obtain ⟨ad192, e192, hx192_0⟩ := Kd.at_int HR0.out x5_1 p192 q192
          cases e192
          replace p192 := eq_true p192
          replace q192 := eq_true q192
          have p193 : 0 ≤ (x5_1 : Int) := of_decide_eq_true ts26_
          have q193 : x5_1 < (l1.length : Int) := of_decide_eq_true ts26_
          obtain ⟨ad193, e193, hx193_0⟩ := Kd.at_int HR1.out x5_1 p193 q193
          cases e193
          replace p193 := eq_true p193
          replace q193 := eq_true q193
          go_wp2
          repeat (go_quiet (fail); try go_wp2)
          go_roundg kj2
          case measure => have := HK1.out; have := HJ2.out; omega
          case rel => exact ⟨(wrap64 (x5_1 + 1)), ts34_, H', ⟨by have := HK1.out; have := HJ2.out; omega⟩, ts19_⟩
         rw [if_neg c9] at H
         have c9b0 : ((rd l0 x5_1) == (rd l1 x5_1)) = false := beq_eq_false_iff_ne.mpr c9
         have c9b1 : ((rd l0 x5_1) != (rd l1 x5_1)) = true := bne_iff_ne.mpr c9
         obtain rfl := Option.some.inj H
         have p192 : 0 ≤ (x5_1 : Int) := of_decide_eq_true ts26_
         have q192 : x5_1 < (l0.length : Int) := of_decide_eq_true ts26_
         obtain ⟨ad192, e192, hx192_0⟩ := Kd.at_int HR0.out x5_1 p192 q192
         cases e192
         replace p192 := eq_true p192
         replace q192 := eq_true q192
         have p193 : 0 ≤ (x5_1 : Int) := of_decide_eq_true ts26_
         have q193 : x5_1 < (l1.length : Int) := of_decide_eq_true ts26_
         obtain ⟨ad193, e193, hx193_0⟩ := Kd.at_int HR1.out x5_1 p193 q193
         cases e193
         replace p193 := eq_true p193
         replace q193 := eq_true q193
         go_wp2
         repeat (go_quiet (fail); try go_wp2)
         go_ret
         exact ⟨ts34_, ts19_⟩
        rw [if_neg c8] at H
        exact absurd H (by simp)
       rw [if_neg c7] at H
       exact absurd H (by simp)
      rw [if_neg c6] at H
      exact absurd H (by simp)
     replace c5 := Bool.eq_false_iff.mpr c5
     subst c5
     rw [if_neg Bool.false_ne_true] at H
     obtain rfl := Option.some.inj H
     go_wp2
     repeat (go_quiet (fail); try go_wp2)
     go_ret
     exact ⟨ts34_, ts19_⟩
/-! ### cupelref10_Equal: function 50 -/
def cupelref10_Equal.f (k : Nat) (l0_0 : List Int) (a0_1 : Int) (a0_2 : Int) (l1_0 : List Int) (a1_1 : Int) (a1_2 : Int) : Option (Bool) := if a0_1 = a1_1 then (if a0_2 = a1_2 then (if (l0_0.length : Int) = (l1_0.length : Int) then ((cupelref10_begins.f k l0_0 l1_0).bind fun t196 => (some t196)) else (some false)) else (some false)) else (some false)
theorem cupelref10_Equal.mono : ∀ a0 a1 a2 a3 a4 a5 k, LeO (cupelref10_Equal.f k a0 a1 a2 a3 a4 a5) (cupelref10_Equal.f (k + 1) a0 a1 a2 a3 a4 a5) := by
 intro a0 a1 a2 a3 a4 a5 k
 unfold cupelref10_Equal.f
 repeat' first
   | (with_reducible exact cupelref10_begins.mono _ _ _)
   | (with_reducible exact LeO.refl _)
   | (with_reducible exact LeO.none _)
   | (with_reducible refine LeO.ite ?_ ?_)
   | (with_reducible refine LeO.bind ?_ (fun _ => ?_))
   | exact LeO.none _
   | refine LeO.ite ?_ ?_
   | refine LeO.bind ?_ (fun _ => ?_)
theorem cupelref10_Equal.calls (k : Nat) (A0_0 : Option Addr) (c0_0 : Nat) (l0_0 : List Int) (a0_1 : Int) (a0_2 : Int) (A1_0 : Option Addr) (c1_0 : Nat) (l1_0 : List Int) (a1_1 : Int) (a1_2 : Int) (r : Bool) (w : World) (hr0_0 : Kd.C (Kd.int .i64) w A0_0 l0_0.length l0_0) (hc0_0 : l0_0.length ≤ c0_0) (hr1_0 : Kd.C (Kd.int .i64) w A1_0 l1_0.length l1_0) (hc1_0 : l1_0.length ≤ c1_0) (h : cupelref10_Equal.f k l0_0 a0_1 a0_2 l1_0 a1_1 a1_2 = some r) :
  Calls Tryd.prog 50 #[.agg #[.slice A0_0 l0_0.length c0_0, .int .i64 a0_1, .int .i64 a0_2], .agg #[.slice A1_0 l1_0.length c1_0, .int .i64 a1_1, .int .i64 a1_2]] w fun e w' => e = .returned (.bool r) ∧ Below w.heap.size w w' := by
 have hu43 := Tryd.underlying43
 have HR0_0 := Aside0.mk hr0_0
 have HC0_0 := Aside0.mk hc0_0
 clear hr0_0 hc0_0
 have HR1_0 := Aside0.mk hr1_0
 have HC1_0 := Aside0.mk hc1_0
 clear hr1_0 hc1_0
 have HB := Aside0.mk (Below.refl w.heap.size w)
 have H : (if a0_1 = a1_1 then (if a0_2 = a1_2 then (if (l0_0.length : Int) = (l1_0.length : Int) then ((cupelref10_begins.f k l0_0 l1_0).bind fun t196 => (some t196)) else (some false)) else (some false)) else (some false)) = some r := h
 clear h
 by_cases c3 : a0_1 = a1_1
 ·rw [if_pos c3] at H
  have c3b0 : (a0_1 == a1_1) = true := beq_iff_eq.mpr c3
  have c3b1 : (a0_1 != a1_1) = false := bne_eq_false_iff_eq.mpr c3
  clear c3
  by_cases c4 : a0_2 = a1_2
  ·rw [if_pos c4] at H
   have c4b0 : (a0_2 == a1_2) = true := beq_iff_eq.mpr c4
   have c4b1 : (a0_2 != a1_2) = false := bne_eq_false_iff_eq.mpr c4
   clear c4
   by_cases c5 : (l0_0.length : Int) = (l1_0.length : Int)
   ·rw [if_pos c5] at H
    have c5b0 : ((l0_0.length : Int) == (l1_0.length : Int)) = true := beq_iff_eq.mpr c5
    have c5b1 : ((l0_0.length : Int) != (l1_0.length : Int)) = false := bne_eq_false_iff_eq.mpr c5
    have c5b2 : (l0_0.length == l1_0.length) = true := by first | simpa using c5 | (simp at c5 ⊢; omega)
    clear c5
    obtain ⟨t196, A6, H⟩ := bsA_ H
    try dsimp only at H
    obtain rfl := Option.some.inj H
    go_enter Tryd.func50, Tryd.ntmps50
    go_wp2_with (first | ((with_reducible refine gate_dst (N := 2) rfl ?_); (try (refine gate_guard (by rfl) ?_; dsimp only)); refine box_event ?hg (N := 2) ?hd (cs := #[.slice A0_0 l0_0.length c0_0, .int .i64 a0_1, .int .i64 a0_2]) (t := 43) ?hr ?_; (case hd => rfl); (case hg => rfl); (case hr => exact ts18_); intro gb194 hg w7 hbox hb; have BK194 := Aside0.mk (hbox); have GW194 := Aside0.mk ((ts51_ HB.out : w.heap.size ≤ gb194)); have GE194 := Aside0.mk ((ts51_ HB.out : w.heap.size ≤ gb194)); replace HB := Aside0.mk (below_step (ts35_ HB.out) hb); clear hb hbox hg) | ((with_reducible refine gate_dst (N := 3) rfl ?_); (try (refine gate_guard (by rfl) ?_; dsimp only)); refine box_event ?hg (N := 3) ?hd (cs := #[.slice A1_0 l1_0.length c1_0, .int .i64 a1_1, .int .i64 a1_2]) (t := 43) ?hr ?_; (case hd => rfl); (case hg => rfl); (case hr => exact ts18_); intro gb195 hg w8 hbox hb; have BK195 := Aside0.mk (hbox); have GW195 := Aside0.mk ((ts45_ HB.out GE194.out : w.heap.size ≤ gb195)); have GE195 := Aside0.mk ((ts45_ HB.out GE194.out : w.heap.size ≤ gb195)); replace HB := Aside0.mk (below_step (ts20_ HB.out GE194.out) hb); have NB194_195 := Aside0.mk ((ts58_ BK194.out : gb194 ≠ gb195)); have NB195_194 := Aside0.mk ((ts41_ BK194.out : gb195 ≠ gb194)); replace BK194 := Aside0.mk (blk_below (g := gb194) (o := .cells #[.slice A0_0 l0_0.length c0_0, .int .i64 a0_1, .int .i64 a0_2] 43 (0, 0)) (ts17_ BK194.out) hb); clear hb hbox hg; have hnb9 := NB194_195.out; have hnc9 := NB195_194.out; have hcz10_0 : w8.cell? ⟨gb194, 0, none⟩ = some (.slice A0_0 l0_0.length c0_0) := (blk_cell BK194.out 0).trans rfl; have hcz10_1 : w8.cell? ⟨gb194, 1, none⟩ = some (.int .i64 a0_1) := (blk_cell BK194.out 1).trans rfl; have hcz10_2 : w8.cell? ⟨gb194, 2, none⟩ = some (.int .i64 a0_2) := (blk_cell BK194.out 2).trans rfl; have hfz10_0 := blk_frozen BK194.out 0; have hfz10_1 := blk_frozen BK194.out 1; have hfz10_2 := blk_frozen BK194.out 2; have hcz11_0 : w8.cell? ⟨gb195, 0, none⟩ = some (.slice A1_0 l1_0.length c1_0) := (blk_cell BK195.out 0).trans rfl; have hcz11_1 : w8.cell? ⟨gb195, 1, none⟩ = some (.int .i64 a1_1) := (blk_cell BK195.out 1).trans rfl; have hcz11_2 : w8.cell? ⟨gb195, 2, none⟩ = some (.int .i64 a1_2) := (blk_cell BK195.out 2).trans rfl; have hfz11_0 := blk_frozen BK195.out 0; have hfz11_1 := blk_frozen BK195.out 1; have hfz11_2 := blk_frozen BK195.out 2) | (go_at_call 51; (with_reducible refine (cupelref10_begins.calls k _ _ l0_0 _ _ l1_0 t196 _ ?side1 ?side2 ?side3 ?side4 A6.out).mono ?_); (case side1 => exact ts9_ HR0_0.out HB.out); (case side2 => exact HC0_0.out); (case side3 => exact ts9_ HR1_0.out HB.out); (case side4 => exact HC1_0.out); rintro e w' ⟨rfl, ⟨nd, rfl⟩⟩))
    go_ret
    exact ⟨ts30_, ts27_ HB.out GE194.out GE195.out⟩
   rw [if_neg c5] at H
   have c5b0 : ((l0_0.length : Int) == (l1_0.length : Int)) = false := beq_eq_false_iff_ne.mpr c5
   have c5b1 : ((l0_0.length : Int) != (l1_0.length : Int)) = true := bne_iff_ne.mpr c5
   have c5b2 : (l0_0.length == l1_0.length) = false := by first | simpa using c5 | (simp at c5 ⊢; omega)
   obtain rfl := Option.some.inj H
   go_enter Tryd.func50, Tryd.ntmps50
   go_wp2_with (first | ((with_reducible refine gate_dst (N := 2) rfl ?_); (try (refine gate_guard (by rfl) ?_; dsimp only)); refine box_event ?hg (N := 2) ?hd (cs := #[.slice A0_0 l0_0.length c0_0, .int .i64 a0_1, .int .i64 a0_2]) (t := 43) ?hr ?_; (case hd => rfl); (case hg => rfl); (case hr => exact ts18_); intro gb194 hg w12 hbox hb; have BK194 := Aside0.mk (hbox); have GW194 := Aside0.mk ((ts51_ HB.out : w.heap.size ≤ gb194)); have GE194 := Aside0.mk ((ts51_ HB.out : w.heap.size ≤ gb194)); replace HB := Aside0.mk (below_step (ts35_ HB.out) hb); clear hb hbox hg) | ((with_reducible refine gate_dst (N := 3) rfl ?_); (try (refine gate_guard (by rfl) ?_; dsimp only)); refine box_event ?hg (N := 3) ?hd (cs := #[.slice A1_0 l1_0.length c1_0, .int .i64 a1_1, .int .i64 a1_2]) (t := 43) ?hr ?_; (case hd => rfl); (case hg => rfl); (case hr => exact ts18_); intro gb195 hg w13 hbox hb; have BK195 := Aside0.mk (hbox); have GW195 := Aside0.mk ((ts45_ HB.out GE194.out : w.heap.size ≤ gb195)); have GE195 := Aside0.mk ((ts45_ HB.out GE194.out : w.heap.size ≤ gb195)); replace HB := Aside0.mk (below_step (ts20_ HB.out GE194.out) hb); have NB194_195 := Aside0.mk ((ts58_ BK194.out : gb194 ≠ gb195)); have NB195_194 := Aside0.mk ((ts41_ BK194.out : gb195 ≠ gb194)); replace BK194 := Aside0.mk (blk_below (g := gb194) (o := .cells #[.slice A0_0 l0_0.length c0_0, .int .i64 a0_1, .int .i64 a0_2] 43 (0, 0)) (ts17_ BK194.out) hb); clear hb hbox hg; have hnb14 := NB194_195.out; have hnc14 := NB195_194.out; have hcz15_0 : w13.cell? ⟨gb194, 0, none⟩ = some (.slice A0_0 l0_0.length c0_0) := (blk_cell BK194.out 0).trans rfl; have hcz15_1 : w13.cell? ⟨gb194, 1, none⟩ = some (.int .i64 a0_1) := (blk_cell BK194.out 1).trans rfl; have hcz15_2 : w13.cell? ⟨gb194, 2, none⟩ = some (.int .i64 a0_2) := (blk_cell BK194.out 2).trans rfl; have hfz15_0 := blk_frozen BK194.out 0; have hfz15_1 := blk_frozen BK194.out 1; have hfz15_2 := blk_frozen BK194.out 2; have hcz16_0 : w13.cell? ⟨gb195, 0, none⟩ = some (.slice A1_0 l1_0.length c1_0) := (blk_cell BK195.out 0).trans rfl; have hcz16_1 : w13.cell? ⟨gb195, 1, none⟩ = some (.int .i64 a1_1) := (blk_cell BK195.out 1).trans rfl; have hcz16_2 : w13.cell? ⟨gb195, 2, none⟩ = some (.int .i64 a1_2) := (blk_cell BK195.out 2).trans rfl; have hfz16_0 := blk_frozen BK195.out 0; have hfz16_1 := blk_frozen BK195.out 1; have hfz16_2 := blk_frozen BK195.out 2))
   go_ret
   exact ⟨ts30_, ts27_ HB.out GE194.out GE195.out⟩
  rw [if_neg c4] at H
  have c4b0 : (a0_2 == a1_2) = false := beq_eq_false_iff_ne.mpr c4
  have c4b1 : (a0_2 != a1_2) = true := bne_iff_ne.mpr c4
  obtain rfl := Option.some.inj H
  go_enter Tryd.func50, Tryd.ntmps50
  go_wp2_with (first | ((with_reducible refine gate_dst (N := 2) rfl ?_); (try (refine gate_guard (by rfl) ?_; dsimp only)); refine box_event ?hg (N := 2) ?hd (cs := #[.slice A0_0 l0_0.length c0_0, .int .i64 a0_1, .int .i64 a0_2]) (t := 43) ?hr ?_; (case hd => rfl); (case hg => rfl); (case hr => exact ts18_); intro gb194 hg w17 hbox hb; have BK194 := Aside0.mk (hbox); have GW194 := Aside0.mk ((ts51_ HB.out : w.heap.size ≤ gb194)); have GE194 := Aside0.mk ((ts51_ HB.out : w.heap.size ≤ gb194)); replace HB := Aside0.mk (below_step (ts35_ HB.out) hb); clear hb hbox hg) | ((with_reducible refine gate_dst (N := 3) rfl ?_); (try (refine gate_guard (by rfl) ?_; dsimp only)); refine box_event ?hg (N := 3) ?hd (cs := #[.slice A1_0 l1_0.length c1_0, .int .i64 a1_1, .int .i64 a1_2]) (t := 43) ?hr ?_; (case hd => rfl); (case hg => rfl); (case hr => exact ts18_); intro gb195 hg w18 hbox hb; have BK195 := Aside0.mk (hbox); have GW195 := Aside0.mk ((ts45_ HB.out GE194.out : w.heap.size ≤ gb195)); have GE195 := Aside0.mk ((ts45_ HB.out GE194.out : w.heap.size ≤ gb195)); replace HB := Aside0.mk (below_step (ts20_ HB.out GE194.out) hb); have NB194_195 := Aside0.mk ((ts58_ BK194.out : gb194 ≠ gb195)); have NB195_194 := Aside0.mk ((ts41_ BK194.out : gb195 ≠ gb194)); replace BK194 := Aside0.mk (blk_below (g := gb194) (o := .cells #[.slice A0_0 l0_0.length c0_0, .int .i64 a0_1, .int .i64 a0_2] 43 (0, 0)) (ts17_ BK194.out) hb); clear hb hbox hg; have hnb19 := NB194_195.out; have hnc19 := NB195_194.out; have hcz20_0 : w18.cell? ⟨gb194, 0, none⟩ = some (.slice A0_0 l0_0.length c0_0) := (blk_cell BK194.out 0).trans rfl; have hcz20_1 : w18.cell? ⟨gb194, 1, none⟩ = some (.int .i64 a0_1) := (blk_cell BK194.out 1).trans rfl; have hcz20_2 : w18.cell? ⟨gb194, 2, none⟩ = some (.int .i64 a0_2) := (blk_cell BK194.out 2).trans rfl; have hfz20_0 := blk_frozen BK194.out 0; have hfz20_1 := blk_frozen BK194.out 1; have hfz20_2 := blk_frozen BK194.out 2; have hcz21_0 : w18.cell? ⟨gb195, 0, none⟩ = some (.slice A1_0 l1_0.length c1_0) := (blk_cell BK195.out 0).trans rfl; have hcz21_1 : w18.cell? ⟨gb195, 1, none⟩ = some (.int .i64 a1_1) := (blk_cell BK195.out 1).trans rfl; have hcz21_2 : w18.cell? ⟨gb195, 2, none⟩ = some (.int .i64 a1_2) := (blk_cell BK195.out 2).trans rfl; have hfz21_0 := blk_frozen BK195.out 0; have hfz21_1 := blk_frozen BK195.out 1; have hfz21_2 := blk_frozen BK195.out 2))
  go_ret
  exact ⟨ts30_, ts27_ HB.out GE194.out GE195.out⟩
 rw [if_neg c3] at H
 have c3b0 : (a0_1 == a1_1) = false := beq_eq_false_iff_ne.mpr c3
 have c3b1 : (a0_1 != a1_1) = true := bne_iff_ne.mpr c3
 obtain rfl := Option.some.inj H
 go_enter Tryd.func50, Tryd.ntmps50
 go_wp2_with (first | ((with_reducible refine gate_dst (N := 2) rfl ?_); (try (refine gate_guard (by rfl) ?_; dsimp only)); refine box_event ?hg (N := 2) ?hd (cs := #[.slice A0_0 l0_0.length c0_0, .int .i64 a0_1, .int .i64 a0_2]) (t := 43) ?hr ?_; (case hd => rfl); (case hg => rfl); (case hr => exact ts18_); intro gb194 hg w22 hbox hb; have BK194 := Aside0.mk (hbox); have GW194 := Aside0.mk ((ts51_ HB.out : w.heap.size ≤ gb194)); have GE194 := Aside0.mk ((ts51_ HB.out : w.heap.size ≤ gb194)); replace HB := Aside0.mk (below_step (ts35_ HB.out) hb); clear hb hbox hg) | ((with_reducible refine gate_dst (N := 3) rfl ?_); (try (refine gate_guard (by rfl) ?_; dsimp only)); refine box_event ?hg (N := 3) ?hd (cs := #[.slice A1_0 l1_0.length c1_0, .int .i64 a1_1, .int .i64 a1_2]) (t := 43) ?hr ?_; (case hd => rfl); (case hg => rfl); (case hr => exact ts18_); intro gb195 hg w23 hbox hb; have BK195 := Aside0.mk (hbox); have GW195 := Aside0.mk ((ts45_ HB.out GE194.out : w.heap.size ≤ gb195)); have GE195 := Aside0.mk ((ts45_ HB.out GE194.out : w.heap.size ≤ gb195)); replace HB := Aside0.mk (below_step (ts20_ HB.out GE194.out) hb); have NB194_195 := Aside0.mk ((ts58_ BK194.out : gb194 ≠ gb195)); have NB195_194 := Aside0.mk ((ts41_ BK194.out : gb195 ≠ gb194)); replace BK194 := Aside0.mk (blk_below (g := gb194) (o := .cells #[.slice A0_0 l0_0.length c0_0, .int .i64 a0_1, .int .i64 a0_2] 43 (0, 0)) (ts17_ BK194.out) hb); clear hb hbox hg; have hnb24 := NB194_195.out; have hnc24 := NB195_194.out; have hcz25_0 : w23.cell? ⟨gb194, 0, none⟩ = some (.slice A0_0 l0_0.length c0_0) := (blk_cell BK194.out 0).trans rfl; have hcz25_1 : w23.cell? ⟨gb194, 1, none⟩ = some (.int .i64 a0_1) := (blk_cell BK194.out 1).trans rfl; have hcz25_2 : w23.cell? ⟨gb194, 2, none⟩ = some (.int .i64 a0_2) := (blk_cell BK194.out 2).trans rfl; have hfz25_0 := blk_frozen BK194.out 0; have hfz25_1 := blk_frozen BK194.out 1; have hfz25_2 := blk_frozen BK194.out 2; have hcz26_0 : w23.cell? ⟨gb195, 0, none⟩ = some (.slice A1_0 l1_0.length c1_0) := (blk_cell BK195.out 0).trans rfl; have hcz26_1 : w23.cell? ⟨gb195, 1, none⟩ = some (.int .i64 a1_1) := (blk_cell BK195.out 1).trans rfl; have hcz26_2 : w23.cell? ⟨gb195, 2, none⟩ = some (.int .i64 a1_2) := (blk_cell BK195.out 2).trans rfl; have hfz26_0 := blk_frozen BK195.out 0; have hfz26_1 := blk_frozen BK195.out 1; have hfz26_2 := blk_frozen BK195.out 2))
 go_ret
 exact ⟨ts30_, ts27_ HB.out GE194.out GE195.out⟩
/-! ### cupelref10_Agree: function 35 -/
def cupelref10_Agree.f (k : Nat) (l0_0 : List Int) (a0_1 : Int) (a0_2 : Int) (l1_0 : List Int) (a1_1 : Int) (a1_2 : Int) : Option (Bool) := (cupelref10_Equal.f k l0_0 a0_1 a0_2 l1_0 a1_1 a1_2).bind fun t199 => (if t199 = true then (some true) else (if a0_1 = 4 then ((cupelref10_begins.f k l0_0 l1_0).bind fun t200 => (if t200 = true then (some true) else (if a1_1 = 4 then ((cupelref10_begins.f k l1_0 l0_0).bind fun t201 => (some t201)) else (some false)))) else (if a1_1 = 4 then ((cupelref10_begins.f k l1_0 l0_0).bind fun t202 => (some t202)) else (some false))))
theorem cupelref10_Agree.mono : ∀ a0 a1 a2 a3 a4 a5 k, LeO (cupelref10_Agree.f k a0 a1 a2 a3 a4 a5) (cupelref10_Agree.f (k + 1) a0 a1 a2 a3 a4 a5) := by
 intro a0 a1 a2 a3 a4 a5 k
 unfold cupelref10_Agree.f
 repeat' first
   | (with_reducible exact cupelref10_Equal.mono _ _ _ _ _ _ _)
   | (with_reducible exact cupelref10_begins.mono _ _ _)
   | (with_reducible exact LeO.refl _)
   | (with_reducible exact LeO.none _)
   | (with_reducible refine LeO.ite ?_ ?_)
   | (with_reducible refine LeO.bind ?_ (fun _ => ?_))
   | exact LeO.none _
   | refine LeO.ite ?_ ?_
   | refine LeO.bind ?_ (fun _ => ?_)
theorem cupelref10_Agree.calls (k : Nat) (A0_0 : Option Addr) (c0_0 : Nat) (l0_0 : List Int) (a0_1 : Int) (a0_2 : Int) (A1_0 : Option Addr) (c1_0 : Nat) (l1_0 : List Int) (a1_1 : Int) (a1_2 : Int) (r : Bool) (w : World) (hr0_0 : Kd.C (Kd.int .i64) w A0_0 l0_0.length l0_0) (hc0_0 : l0_0.length ≤ c0_0) (hr1_0 : Kd.C (Kd.int .i64) w A1_0 l1_0.length l1_0) (hc1_0 : l1_0.length ≤ c1_0) (h : cupelref10_Agree.f k l0_0 a0_1 a0_2 l1_0 a1_1 a1_2 = some r) :
  Calls Tryd.prog 35 #[.agg #[.slice A0_0 l0_0.length c0_0, .int .i64 a0_1, .int .i64 a0_2], .agg #[.slice A1_0 l1_0.length c1_0, .int .i64 a1_1, .int .i64 a1_2]] w fun e w' => e = .returned (.bool r) ∧ Below w.heap.size w w' := by
 have hu43 := Tryd.underlying43
 have HR0_0 := Aside0.mk hr0_0
 have HC0_0 := Aside0.mk hc0_0
 clear hr0_0 hc0_0
 have HR1_0 := Aside0.mk hr1_0
 have HC1_0 := Aside0.mk hc1_0
 clear hr1_0 hc1_0
 have HB := Aside0.mk (Below.refl w.heap.size w)
 have H : ((cupelref10_Equal.f k l0_0 a0_1 a0_2 l1_0 a1_1 a1_2).bind fun t199 => (if t199 = true then (some true) else (if a0_1 = 4 then ((cupelref10_begins.f k l0_0 l1_0).bind fun t200 => (if t200 = true then (some true) else (if a1_1 = 4 then ((cupelref10_begins.f k l1_0 l0_0).bind fun t201 => (some t201)) else (some false)))) else (if a1_1 = 4 then ((cupelref10_begins.f k l1_0 l0_0).bind fun t202 => (some t202)) else (some false))))) = some r := h
 clear h
 obtain ⟨t199, A3, H⟩ := bsA_ H
 try dsimp only at H
 by_cases c4 : t199 = true
 ·subst c4
  rw [if_pos rfl] at H
  obtain rfl := Option.some.inj H
  go_enter Tryd.func35, Tryd.ntmps35
  go_wp2_with (first | ((with_reducible refine gate_dst (N := 2) rfl ?_); refine box_event ?hg (N := 2) ?hd (cs := #[.slice A0_0 l0_0.length c0_0, .int .i64 a0_1, .int .i64 a0_2]) (t := 43) ?hr ?_; (case hd => rfl); (case hg => rfl); (case hr => exact ts18_); intro gb197 hg w5 hbox hb; have BK197 := Aside0.mk (hbox); have GW197 := Aside0.mk ((ts51_ HB.out : w.heap.size ≤ gb197)); have GE197 := Aside0.mk ((ts51_ HB.out : w.heap.size ≤ gb197)); replace HB := Aside0.mk (below_step (ts35_ HB.out) hb); clear hb hbox hg) | ((with_reducible refine gate_dst (N := 3) rfl ?_); refine box_event ?hg (N := 3) ?hd (cs := #[.slice A1_0 l1_0.length c1_0, .int .i64 a1_1, .int .i64 a1_2]) (t := 43) ?hr ?_; (case hd => rfl); (case hg => rfl); (case hr => exact ts18_); intro gb198 hg w6 hbox hb; have BK198 := Aside0.mk (hbox); have GW198 := Aside0.mk ((ts45_ HB.out GE197.out : w.heap.size ≤ gb198)); have GE198 := Aside0.mk ((ts45_ HB.out GE197.out : w.heap.size ≤ gb198)); replace HB := Aside0.mk (below_step (ts20_ HB.out GE197.out) hb); have NB197_198 := Aside0.mk ((ts61_ BK197.out : gb197 ≠ gb198)); have NB198_197 := Aside0.mk ((ts52_ BK197.out : gb198 ≠ gb197)); replace BK197 := Aside0.mk (blk_below (g := gb197) (o := .cells #[.slice A0_0 l0_0.length c0_0, .int .i64 a0_1, .int .i64 a0_2] 43 (0, 0)) (ts17_ BK197.out) hb); clear hb hbox hg; have hnb7 := NB197_198.out; have hnc7 := NB198_197.out; have hcz8_0 : w6.cell? ⟨gb197, 0, none⟩ = some (.slice A0_0 l0_0.length c0_0) := (blk_cell BK197.out 0).trans rfl; have hcz8_1 : w6.cell? ⟨gb197, 1, none⟩ = some (.int .i64 a0_1) := (blk_cell BK197.out 1).trans rfl; have hcz8_2 : w6.cell? ⟨gb197, 2, none⟩ = some (.int .i64 a0_2) := (blk_cell BK197.out 2).trans rfl; have hfz8_0 := blk_frozen BK197.out 0; have hfz8_1 := blk_frozen BK197.out 1; have hfz8_2 := blk_frozen BK197.out 2; have hcz9_0 : w6.cell? ⟨gb198, 0, none⟩ = some (.slice A1_0 l1_0.length c1_0) := (blk_cell BK198.out 0).trans rfl; have hcz9_1 : w6.cell? ⟨gb198, 1, none⟩ = some (.int .i64 a1_1) := (blk_cell BK198.out 1).trans rfl; have hcz9_2 : w6.cell? ⟨gb198, 2, none⟩ = some (.int .i64 a1_2) := (blk_cell BK198.out 2).trans rfl; have hfz9_0 := blk_frozen BK198.out 0; have hfz9_1 := blk_frozen BK198.out 1; have hfz9_2 := blk_frozen BK198.out 2) | ((with_reducible refine gate_callee (f := 50) rfl ?_); refine goesL_ (some 7) rfl rfl Tryd.func50 (by kernel_rfl) rfl #[.agg #[.slice A0_0 l0_0.length c0_0, .int .i64 a0_1, .int .i64 a0_2], .agg #[.slice A1_0 l1_0.length c1_0, .int .i64 a1_1, .int .i64 a1_2]] rfl ts8_ ?_; (with_reducible refine (cupelref10_Equal.calls k _ _ l0_0 a0_1 a0_2 _ _ l1_0 a1_1 a1_2 true _ ?side1 ?side2 ?side3 ?side4 A3.out).mono ?_); (case side1 => exact ts9_ HR0_0.out HB.out); (case side2 => exact HC0_0.out); (case side3 => exact ts9_ HR1_0.out HB.out); (case side4 => exact HC1_0.out); rintro e w10 ⟨rfl, hb⟩; refine ⟨_, rfl, ?_⟩; replace BK197 := Aside0.mk (blk_below (g := gb197) (o := .cells #[.slice A0_0 l0_0.length c0_0, .int .i64 a0_1, .int .i64 a0_2] 43 (0, 0)) (ts17_ BK197.out) hb); replace BK198 := Aside0.mk (blk_below (g := gb198) (o := .cells #[.slice A1_0 l1_0.length c1_0, .int .i64 a1_1, .int .i64 a1_2] 43 (0, 0)) (ts17_ BK198.out) hb); replace HB := Aside0.mk (below_step (ts27_ HB.out GE197.out GE198.out) hb); clear hb))
  go_ret
  exact ⟨ts30_, ts27_ HB.out GE197.out GE198.out⟩
 replace c4 := Bool.eq_false_iff.mpr c4
 subst c4
 rw [if_neg Bool.false_ne_true] at H
 by_cases c11 : a0_1 = 4
 ·rw [if_pos c11] at H
  have c11b0 : (a0_1 == 4) = true := beq_iff_eq.mpr c11
  have c11b1 : (a0_1 != 4) = false := bne_eq_false_iff_eq.mpr c11
  clear c11
  obtain ⟨t200, A12, H⟩ := bsA_ H
  try dsimp only at H
  by_cases c13 : t200 = true
  ·subst c13
   rw [if_pos rfl] at H
   obtain rfl := Option.some.inj H
   go_enter Tryd.func35, Tryd.ntmps35
   go_wp2_with (first | ((with_reducible refine gate_dst (N := 2) rfl ?_); refine box_event ?hg (N := 2) ?hd (cs := #[.slice A0_0 l0_0.length c0_0, .int .i64 a0_1, .int .i64 a0_2]) (t := 43) ?hr ?_; (case hd => rfl); (case hg => rfl); (case hr => exact ts18_); intro gb197 hg w14 hbox hb; have BK197 := Aside0.mk (hbox); have GW197 := Aside0.mk ((ts51_ HB.out : w.heap.size ≤ gb197)); have GE197 := Aside0.mk ((ts51_ HB.out : w.heap.size ≤ gb197)); replace HB := Aside0.mk (below_step (ts35_ HB.out) hb); clear hb hbox hg) | ((with_reducible refine gate_dst (N := 3) rfl ?_); refine box_event ?hg (N := 3) ?hd (cs := #[.slice A1_0 l1_0.length c1_0, .int .i64 a1_1, .int .i64 a1_2]) (t := 43) ?hr ?_; (case hd => rfl); (case hg => rfl); (case hr => exact ts18_); intro gb198 hg w15 hbox hb; have BK198 := Aside0.mk (hbox); have GW198 := Aside0.mk ((ts45_ HB.out GE197.out : w.heap.size ≤ gb198)); have GE198 := Aside0.mk ((ts45_ HB.out GE197.out : w.heap.size ≤ gb198)); replace HB := Aside0.mk (below_step (ts20_ HB.out GE197.out) hb); have NB197_198 := Aside0.mk ((ts61_ BK197.out : gb197 ≠ gb198)); have NB198_197 := Aside0.mk ((ts52_ BK197.out : gb198 ≠ gb197)); replace BK197 := Aside0.mk (blk_below (g := gb197) (o := .cells #[.slice A0_0 l0_0.length c0_0, .int .i64 a0_1, .int .i64 a0_2] 43 (0, 0)) (ts17_ BK197.out) hb); clear hb hbox hg; have hnb16 := NB197_198.out; have hnc16 := NB198_197.out; have hcz17_0 : w15.cell? ⟨gb197, 0, none⟩ = some (.slice A0_0 l0_0.length c0_0) := (blk_cell BK197.out 0).trans rfl; have hcz17_1 : w15.cell? ⟨gb197, 1, none⟩ = some (.int .i64 a0_1) := (blk_cell BK197.out 1).trans rfl; have hcz17_2 : w15.cell? ⟨gb197, 2, none⟩ = some (.int .i64 a0_2) := (blk_cell BK197.out 2).trans rfl; have hfz17_0 := blk_frozen BK197.out 0; have hfz17_1 := blk_frozen BK197.out 1; have hfz17_2 := blk_frozen BK197.out 2; have hcz18_0 : w15.cell? ⟨gb198, 0, none⟩ = some (.slice A1_0 l1_0.length c1_0) := (blk_cell BK198.out 0).trans rfl; have hcz18_1 : w15.cell? ⟨gb198, 1, none⟩ = some (.int .i64 a1_1) := (blk_cell BK198.out 1).trans rfl; have hcz18_2 : w15.cell? ⟨gb198, 2, none⟩ = some (.int .i64 a1_2) := (blk_cell BK198.out 2).trans rfl; have hfz18_0 := blk_frozen BK198.out 0; have hfz18_1 := blk_frozen BK198.out 1; have hfz18_2 := blk_frozen BK198.out 2) | ((with_reducible refine gate_callee (f := 50) rfl ?_); refine goesL_ (some 7) rfl rfl Tryd.func50 (by kernel_rfl) rfl #[.agg #[.slice A0_0 l0_0.length c0_0, .int .i64 a0_1, .int .i64 a0_2], .agg #[.slice A1_0 l1_0.length c1_0, .int .i64 a1_1, .int .i64 a1_2]] rfl ts8_ ?_; (with_reducible refine (cupelref10_Equal.calls k _ _ l0_0 a0_1 a0_2 _ _ l1_0 a1_1 a1_2 false _ ?side1 ?side2 ?side3 ?side4 A3.out).mono ?_); (case side1 => exact ts9_ HR0_0.out HB.out); (case side2 => exact HC0_0.out); (case side3 => exact ts9_ HR1_0.out HB.out); (case side4 => exact HC1_0.out); rintro e w19 ⟨rfl, hb⟩; refine ⟨_, rfl, ?_⟩; replace BK197 := Aside0.mk (blk_below (g := gb197) (o := .cells #[.slice A0_0 l0_0.length c0_0, .int .i64 a0_1, .int .i64 a0_2] 43 (0, 0)) (ts17_ BK197.out) hb); replace BK198 := Aside0.mk (blk_below (g := gb198) (o := .cells #[.slice A1_0 l1_0.length c1_0, .int .i64 a1_1, .int .i64 a1_2] 43 (0, 0)) (ts17_ BK198.out) hb); replace HB := Aside0.mk (below_step (ts27_ HB.out GE197.out GE198.out) hb); clear hb; have hcz20_0 : w19.cell? ⟨gb197, 0, none⟩ = some (.slice A0_0 l0_0.length c0_0) := (blk_cell BK197.out 0).trans rfl; have hcz20_1 : w19.cell? ⟨gb197, 1, none⟩ = some (.int .i64 a0_1) := (blk_cell BK197.out 1).trans rfl; have hcz20_2 : w19.cell? ⟨gb197, 2, none⟩ = some (.int .i64 a0_2) := (blk_cell BK197.out 2).trans rfl; have hfz20_0 := blk_frozen BK197.out 0; have hfz20_1 := blk_frozen BK197.out 1; have hfz20_2 := blk_frozen BK197.out 2; have hcz21_0 : w19.cell? ⟨gb198, 0, none⟩ = some (.slice A1_0 l1_0.length c1_0) := (blk_cell BK198.out 0).trans rfl; have hcz21_1 : w19.cell? ⟨gb198, 1, none⟩ = some (.int .i64 a1_1) := (blk_cell BK198.out 1).trans rfl; have hcz21_2 : w19.cell? ⟨gb198, 2, none⟩ = some (.int .i64 a1_2) := (blk_cell BK198.out 2).trans rfl; have hfz21_0 := blk_frozen BK198.out 0; have hfz21_1 := blk_frozen BK198.out 1; have hfz21_2 := blk_frozen BK198.out 2) | (go_at_call 51; (with_reducible refine (cupelref10_begins.calls k _ _ l0_0 _ _ l1_0 true _ ?side1 ?side2 ?side3 ?side4 A12.out).mono ?_); (case side1 => exact ts9_ HR0_0.out HB.out); (case side2 => exact HC0_0.out); (case side3 => exact ts9_ HR1_0.out HB.out); (case side4 => exact HC1_0.out); rintro e w' ⟨rfl, ⟨nd, rfl⟩⟩))
   go_ret
   exact ⟨ts30_, ts27_ HB.out GE197.out GE198.out⟩
  replace c13 := Bool.eq_false_iff.mpr c13
  subst c13
  rw [if_neg Bool.false_ne_true] at H
  by_cases c22 : a1_1 = 4
  ·rw [if_pos c22] at H
   have c22b0 : (a1_1 == 4) = true := beq_iff_eq.mpr c22
   have c22b1 : (a1_1 != 4) = false := bne_eq_false_iff_eq.mpr c22
   clear c22
   obtain ⟨t201, A23, H⟩ := bsA_ H
   try dsimp only at H
   obtain rfl := Option.some.inj H
   go_enter Tryd.func35, Tryd.ntmps35
   go_wp2_with (first | ((with_reducible refine gate_dst (N := 2) rfl ?_); refine box_event ?hg (N := 2) ?hd (cs := #[.slice A0_0 l0_0.length c0_0, .int .i64 a0_1, .int .i64 a0_2]) (t := 43) ?hr ?_; (case hd => rfl); (case hg => rfl); (case hr => exact ts18_); intro gb197 hg w24 hbox hb; have BK197 := Aside0.mk (hbox); have GW197 := Aside0.mk ((ts51_ HB.out : w.heap.size ≤ gb197)); have GE197 := Aside0.mk ((ts51_ HB.out : w.heap.size ≤ gb197)); replace HB := Aside0.mk (below_step (ts35_ HB.out) hb); clear hb hbox hg) | ((with_reducible refine gate_dst (N := 3) rfl ?_); refine box_event ?hg (N := 3) ?hd (cs := #[.slice A1_0 l1_0.length c1_0, .int .i64 a1_1, .int .i64 a1_2]) (t := 43) ?hr ?_; (case hd => rfl); (case hg => rfl); (case hr => exact ts18_); intro gb198 hg w25 hbox hb; have BK198 := Aside0.mk (hbox); have GW198 := Aside0.mk ((ts45_ HB.out GE197.out : w.heap.size ≤ gb198)); have GE198 := Aside0.mk ((ts45_ HB.out GE197.out : w.heap.size ≤ gb198)); replace HB := Aside0.mk (below_step (ts20_ HB.out GE197.out) hb); have NB197_198 := Aside0.mk ((ts61_ BK197.out : gb197 ≠ gb198)); have NB198_197 := Aside0.mk ((ts52_ BK197.out : gb198 ≠ gb197)); replace BK197 := Aside0.mk (blk_below (g := gb197) (o := .cells #[.slice A0_0 l0_0.length c0_0, .int .i64 a0_1, .int .i64 a0_2] 43 (0, 0)) (ts17_ BK197.out) hb); clear hb hbox hg; have hnb26 := NB197_198.out; have hnc26 := NB198_197.out; have hcz27_0 : w25.cell? ⟨gb197, 0, none⟩ = some (.slice A0_0 l0_0.length c0_0) := (blk_cell BK197.out 0).trans rfl; have hcz27_1 : w25.cell? ⟨gb197, 1, none⟩ = some (.int .i64 a0_1) := (blk_cell BK197.out 1).trans rfl; have hcz27_2 : w25.cell? ⟨gb197, 2, none⟩ = some (.int .i64 a0_2) := (blk_cell BK197.out 2).trans rfl; have hfz27_0 := blk_frozen BK197.out 0; have hfz27_1 := blk_frozen BK197.out 1; have hfz27_2 := blk_frozen BK197.out 2; have hcz28_0 : w25.cell? ⟨gb198, 0, none⟩ = some (.slice A1_0 l1_0.length c1_0) := (blk_cell BK198.out 0).trans rfl; have hcz28_1 : w25.cell? ⟨gb198, 1, none⟩ = some (.int .i64 a1_1) := (blk_cell BK198.out 1).trans rfl; have hcz28_2 : w25.cell? ⟨gb198, 2, none⟩ = some (.int .i64 a1_2) := (blk_cell BK198.out 2).trans rfl; have hfz28_0 := blk_frozen BK198.out 0; have hfz28_1 := blk_frozen BK198.out 1; have hfz28_2 := blk_frozen BK198.out 2) | ((with_reducible refine gate_callee (f := 50) rfl ?_); refine goesL_ (some 7) rfl rfl Tryd.func50 (by kernel_rfl) rfl #[.agg #[.slice A0_0 l0_0.length c0_0, .int .i64 a0_1, .int .i64 a0_2], .agg #[.slice A1_0 l1_0.length c1_0, .int .i64 a1_1, .int .i64 a1_2]] rfl ts8_ ?_; (with_reducible refine (cupelref10_Equal.calls k _ _ l0_0 a0_1 a0_2 _ _ l1_0 a1_1 a1_2 false _ ?side1 ?side2 ?side3 ?side4 A3.out).mono ?_); (case side1 => exact ts9_ HR0_0.out HB.out); (case side2 => exact HC0_0.out); (case side3 => exact ts9_ HR1_0.out HB.out); (case side4 => exact HC1_0.out); rintro e w29 ⟨rfl, hb⟩; refine ⟨_, rfl, ?_⟩; replace BK197 := Aside0.mk (blk_below (g := gb197) (o := .cells #[.slice A0_0 l0_0.length c0_0, .int .i64 a0_1, .int .i64 a0_2] 43 (0, 0)) (ts17_ BK197.out) hb); replace BK198 := Aside0.mk (blk_below (g := gb198) (o := .cells #[.slice A1_0 l1_0.length c1_0, .int .i64 a1_1, .int .i64 a1_2] 43 (0, 0)) (ts17_ BK198.out) hb); replace HB := Aside0.mk (below_step (ts27_ HB.out GE197.out GE198.out) hb); clear hb; have hcz30_0 : w29.cell? ⟨gb197, 0, none⟩ = some (.slice A0_0 l0_0.length c0_0) := (blk_cell BK197.out 0).trans rfl; have hcz30_1 : w29.cell? ⟨gb197, 1, none⟩ = some (.int .i64 a0_1) := (blk_cell BK197.out 1).trans rfl; have hcz30_2 : w29.cell? ⟨gb197, 2, none⟩ = some (.int .i64 a0_2) := (blk_cell BK197.out 2).trans rfl; have hfz30_0 := blk_frozen BK197.out 0; have hfz30_1 := blk_frozen BK197.out 1; have hfz30_2 := blk_frozen BK197.out 2; have hcz31_0 : w29.cell? ⟨gb198, 0, none⟩ = some (.slice A1_0 l1_0.length c1_0) := (blk_cell BK198.out 0).trans rfl; have hcz31_1 : w29.cell? ⟨gb198, 1, none⟩ = some (.int .i64 a1_1) := (blk_cell BK198.out 1).trans rfl; have hcz31_2 : w29.cell? ⟨gb198, 2, none⟩ = some (.int .i64 a1_2) := (blk_cell BK198.out 2).trans rfl; have hfz31_0 := blk_frozen BK198.out 0; have hfz31_1 := blk_frozen BK198.out 1; have hfz31_2 := blk_frozen BK198.out 2) | (go_at_call 51; (with_reducible refine (cupelref10_begins.calls k _ _ l0_0 _ _ l1_0 false _ ?side1 ?side2 ?side3 ?side4 A12.out).mono ?_); (case side1 => exact ts9_ HR0_0.out HB.out); (case side2 => exact HC0_0.out); (case side3 => exact ts9_ HR1_0.out HB.out); (case side4 => exact HC1_0.out); rintro e w' ⟨rfl, ⟨nd, rfl⟩⟩) | (go_at_call 51; (with_reducible refine (cupelref10_begins.calls k _ _ l1_0 _ _ l0_0 t201 _ ?side1 ?side2 ?side3 ?side4 A23.out).mono ?_); (case side1 => exact ts44_ HR1_0.out HB.out GE197.out GE198.out); (case side2 => exact HC1_0.out); (case side3 => exact ts44_ HR0_0.out HB.out GE197.out GE198.out); (case side4 => exact HC0_0.out); rintro e w' ⟨rfl, ⟨nd, rfl⟩⟩))
   go_ret
   exact ⟨ts30_, ts27_ HB.out GE197.out GE198.out⟩
  rw [if_neg c22] at H
  have c22b0 : (a1_1 == 4) = false := beq_eq_false_iff_ne.mpr c22
  have c22b1 : (a1_1 != 4) = true := bne_iff_ne.mpr c22
  obtain rfl := Option.some.inj H
  go_enter Tryd.func35, Tryd.ntmps35
  go_wp2_with (first | ((with_reducible refine gate_dst (N := 2) rfl ?_); refine box_event ?hg (N := 2) ?hd (cs := #[.slice A0_0 l0_0.length c0_0, .int .i64 a0_1, .int .i64 a0_2]) (t := 43) ?hr ?_; (case hd => rfl); (case hg => rfl); (case hr => exact ts18_); intro gb197 hg w32 hbox hb; have BK197 := Aside0.mk (hbox); have GW197 := Aside0.mk ((ts51_ HB.out : w.heap.size ≤ gb197)); have GE197 := Aside0.mk ((ts51_ HB.out : w.heap.size ≤ gb197)); replace HB := Aside0.mk (below_step (ts35_ HB.out) hb); clear hb hbox hg) | ((with_reducible refine gate_dst (N := 3) rfl ?_); refine box_event ?hg (N := 3) ?hd (cs := #[.slice A1_0 l1_0.length c1_0, .int .i64 a1_1, .int .i64 a1_2]) (t := 43) ?hr ?_; (case hd => rfl); (case hg => rfl); (case hr => exact ts18_); intro gb198 hg w33 hbox hb; have BK198 := Aside0.mk (hbox); have GW198 := Aside0.mk ((ts45_ HB.out GE197.out : w.heap.size ≤ gb198)); have GE198 := Aside0.mk ((ts45_ HB.out GE197.out : w.heap.size ≤ gb198)); replace HB := Aside0.mk (below_step (ts20_ HB.out GE197.out) hb); have NB197_198 := Aside0.mk ((ts61_ BK197.out : gb197 ≠ gb198)); have NB198_197 := Aside0.mk ((ts52_ BK197.out : gb198 ≠ gb197)); replace BK197 := Aside0.mk (blk_below (g := gb197) (o := .cells #[.slice A0_0 l0_0.length c0_0, .int .i64 a0_1, .int .i64 a0_2] 43 (0, 0)) (ts17_ BK197.out) hb); clear hb hbox hg; have hnb34 := NB197_198.out; have hnc34 := NB198_197.out; have hcz35_0 : w33.cell? ⟨gb197, 0, none⟩ = some (.slice A0_0 l0_0.length c0_0) := (blk_cell BK197.out 0).trans rfl; have hcz35_1 : w33.cell? ⟨gb197, 1, none⟩ = some (.int .i64 a0_1) := (blk_cell BK197.out 1).trans rfl; have hcz35_2 : w33.cell? ⟨gb197, 2, none⟩ = some (.int .i64 a0_2) := (blk_cell BK197.out 2).trans rfl; have hfz35_0 := blk_frozen BK197.out 0; have hfz35_1 := blk_frozen BK197.out 1; have hfz35_2 := blk_frozen BK197.out 2; have hcz36_0 : w33.cell? ⟨gb198, 0, none⟩ = some (.slice A1_0 l1_0.length c1_0) := (blk_cell BK198.out 0).trans rfl; have hcz36_1 : w33.cell? ⟨gb198, 1, none⟩ = some (.int .i64 a1_1) := (blk_cell BK198.out 1).trans rfl; have hcz36_2 : w33.cell? ⟨gb198, 2, none⟩ = some (.int .i64 a1_2) := (blk_cell BK198.out 2).trans rfl; have hfz36_0 := blk_frozen BK198.out 0; have hfz36_1 := blk_frozen BK198.out 1; have hfz36_2 := blk_frozen BK198.out 2) | ((with_reducible refine gate_callee (f := 50) rfl ?_); refine goesL_ (some 7) rfl rfl Tryd.func50 (by kernel_rfl) rfl #[.agg #[.slice A0_0 l0_0.length c0_0, .int .i64 a0_1, .int .i64 a0_2], .agg #[.slice A1_0 l1_0.length c1_0, .int .i64 a1_1, .int .i64 a1_2]] rfl ts8_ ?_; (with_reducible refine (cupelref10_Equal.calls k _ _ l0_0 a0_1 a0_2 _ _ l1_0 a1_1 a1_2 false _ ?side1 ?side2 ?side3 ?side4 A3.out).mono ?_); (case side1 => exact ts9_ HR0_0.out HB.out); (case side2 => exact HC0_0.out); (case side3 => exact ts9_ HR1_0.out HB.out); (case side4 => exact HC1_0.out); rintro e w37 ⟨rfl, hb⟩; refine ⟨_, rfl, ?_⟩; replace BK197 := Aside0.mk (blk_below (g := gb197) (o := .cells #[.slice A0_0 l0_0.length c0_0, .int .i64 a0_1, .int .i64 a0_2] 43 (0, 0)) (ts17_ BK197.out) hb); replace BK198 := Aside0.mk (blk_below (g := gb198) (o := .cells #[.slice A1_0 l1_0.length c1_0, .int .i64 a1_1, .int .i64 a1_2] 43 (0, 0)) (ts17_ BK198.out) hb); replace HB := Aside0.mk (below_step (ts27_ HB.out GE197.out GE198.out) hb); clear hb; have hcz38_0 : w37.cell? ⟨gb197, 0, none⟩ = some (.slice A0_0 l0_0.length c0_0) := (blk_cell BK197.out 0).trans rfl; have hcz38_1 : w37.cell? ⟨gb197, 1, none⟩ = some (.int .i64 a0_1) := (blk_cell BK197.out 1).trans rfl; have hcz38_2 : w37.cell? ⟨gb197, 2, none⟩ = some (.int .i64 a0_2) := (blk_cell BK197.out 2).trans rfl; have hfz38_0 := blk_frozen BK197.out 0; have hfz38_1 := blk_frozen BK197.out 1; have hfz38_2 := blk_frozen BK197.out 2; have hcz39_0 : w37.cell? ⟨gb198, 0, none⟩ = some (.slice A1_0 l1_0.length c1_0) := (blk_cell BK198.out 0).trans rfl; have hcz39_1 : w37.cell? ⟨gb198, 1, none⟩ = some (.int .i64 a1_1) := (blk_cell BK198.out 1).trans rfl; have hcz39_2 : w37.cell? ⟨gb198, 2, none⟩ = some (.int .i64 a1_2) := (blk_cell BK198.out 2).trans rfl; have hfz39_0 := blk_frozen BK198.out 0; have hfz39_1 := blk_frozen BK198.out 1; have hfz39_2 := blk_frozen BK198.out 2) | (go_at_call 51; (with_reducible refine (cupelref10_begins.calls k _ _ l0_0 _ _ l1_0 false _ ?side1 ?side2 ?side3 ?side4 A12.out).mono ?_); (case side1 => exact ts9_ HR0_0.out HB.out); (case side2 => exact HC0_0.out); (case side3 => exact ts9_ HR1_0.out HB.out); (case side4 => exact HC1_0.out); rintro e w' ⟨rfl, ⟨nd, rfl⟩⟩))
  go_ret
  exact ⟨ts30_, ts27_ HB.out GE197.out GE198.out⟩
 rw [if_neg c11] at H
 have c11b0 : (a0_1 == 4) = false := beq_eq_false_iff_ne.mpr c11
 have c11b1 : (a0_1 != 4) = true := bne_iff_ne.mpr c11
 by_cases c40 : a1_1 = 4
 ·rw [if_pos c40] at H
  have c40b0 : (a1_1 == 4) = true := beq_iff_eq.mpr c40
  have c40b1 : (a1_1 != 4) = false := bne_eq_false_iff_eq.mpr c40
  clear c40
  obtain ⟨t202, A41, H⟩ := bsA_ H
  try dsimp only at H
  obtain rfl := Option.some.inj H
  go_enter Tryd.func35, Tryd.ntmps35
  go_wp2_with (first | ((with_reducible refine gate_dst (N := 2) rfl ?_); refine box_event ?hg (N := 2) ?hd (cs := #[.slice A0_0 l0_0.length c0_0, .int .i64 a0_1, .int .i64 a0_2]) (t := 43) ?hr ?_; (case hd => rfl); (case hg => rfl); (case hr => exact ts18_); intro gb197 hg w42 hbox hb; have BK197 := Aside0.mk (hbox); have GW197 := Aside0.mk ((ts51_ HB.out : w.heap.size ≤ gb197)); have GE197 := Aside0.mk ((ts51_ HB.out : w.heap.size ≤ gb197)); replace HB := Aside0.mk (below_step (ts35_ HB.out) hb); clear hb hbox hg) | ((with_reducible refine gate_dst (N := 3) rfl ?_); refine box_event ?hg (N := 3) ?hd (cs := #[.slice A1_0 l1_0.length c1_0, .int .i64 a1_1, .int .i64 a1_2]) (t := 43) ?hr ?_; (case hd => rfl); (case hg => rfl); (case hr => exact ts18_); intro gb198 hg w43 hbox hb; have BK198 := Aside0.mk (hbox); have GW198 := Aside0.mk ((ts45_ HB.out GE197.out : w.heap.size ≤ gb198)); have GE198 := Aside0.mk ((ts45_ HB.out GE197.out : w.heap.size ≤ gb198)); replace HB := Aside0.mk (below_step (ts20_ HB.out GE197.out) hb); have NB197_198 := Aside0.mk ((ts61_ BK197.out : gb197 ≠ gb198)); have NB198_197 := Aside0.mk ((ts52_ BK197.out : gb198 ≠ gb197)); replace BK197 := Aside0.mk (blk_below (g := gb197) (o := .cells #[.slice A0_0 l0_0.length c0_0, .int .i64 a0_1, .int .i64 a0_2] 43 (0, 0)) (ts17_ BK197.out) hb); clear hb hbox hg; have hnb44 := NB197_198.out; have hnc44 := NB198_197.out; have hcz45_0 : w43.cell? ⟨gb197, 0, none⟩ = some (.slice A0_0 l0_0.length c0_0) := (blk_cell BK197.out 0).trans rfl; have hcz45_1 : w43.cell? ⟨gb197, 1, none⟩ = some (.int .i64 a0_1) := (blk_cell BK197.out 1).trans rfl; have hcz45_2 : w43.cell? ⟨gb197, 2, none⟩ = some (.int .i64 a0_2) := (blk_cell BK197.out 2).trans rfl; have hfz45_0 := blk_frozen BK197.out 0; have hfz45_1 := blk_frozen BK197.out 1; have hfz45_2 := blk_frozen BK197.out 2; have hcz46_0 : w43.cell? ⟨gb198, 0, none⟩ = some (.slice A1_0 l1_0.length c1_0) := (blk_cell BK198.out 0).trans rfl; have hcz46_1 : w43.cell? ⟨gb198, 1, none⟩ = some (.int .i64 a1_1) := (blk_cell BK198.out 1).trans rfl; have hcz46_2 : w43.cell? ⟨gb198, 2, none⟩ = some (.int .i64 a1_2) := (blk_cell BK198.out 2).trans rfl; have hfz46_0 := blk_frozen BK198.out 0; have hfz46_1 := blk_frozen BK198.out 1; have hfz46_2 := blk_frozen BK198.out 2) | ((with_reducible refine gate_callee (f := 50) rfl ?_); refine goesL_ (some 7) rfl rfl Tryd.func50 (by kernel_rfl) rfl #[.agg #[.slice A0_0 l0_0.length c0_0, .int .i64 a0_1, .int .i64 a0_2], .agg #[.slice A1_0 l1_0.length c1_0, .int .i64 a1_1, .int .i64 a1_2]] rfl ts8_ ?_; (with_reducible refine (cupelref10_Equal.calls k _ _ l0_0 a0_1 a0_2 _ _ l1_0 a1_1 a1_2 false _ ?side1 ?side2 ?side3 ?side4 A3.out).mono ?_); (case side1 => exact ts9_ HR0_0.out HB.out); (case side2 => exact HC0_0.out); (case side3 => exact ts9_ HR1_0.out HB.out); (case side4 => exact HC1_0.out); rintro e w47 ⟨rfl, hb⟩; refine ⟨_, rfl, ?_⟩; replace BK197 := Aside0.mk (blk_below (g := gb197) (o := .cells #[.slice A0_0 l0_0.length c0_0, .int .i64 a0_1, .int .i64 a0_2] 43 (0, 0)) (ts17_ BK197.out) hb); replace BK198 := Aside0.mk (blk_below (g := gb198) (o := .cells #[.slice A1_0 l1_0.length c1_0, .int .i64 a1_1, .int .i64 a1_2] 43 (0, 0)) (ts17_ BK198.out) hb); replace HB := Aside0.mk (below_step (ts27_ HB.out GE197.out GE198.out) hb); clear hb; have hcz48_0 : w47.cell? ⟨gb197, 0, none⟩ = some (.slice A0_0 l0_0.length c0_0) := (blk_cell BK197.out 0).trans rfl; have hcz48_1 : w47.cell? ⟨gb197, 1, none⟩ = some (.int .i64 a0_1) := (blk_cell BK197.out 1).trans rfl; have hcz48_2 : w47.cell? ⟨gb197, 2, none⟩ = some (.int .i64 a0_2) := (blk_cell BK197.out 2).trans rfl; have hfz48_0 := blk_frozen BK197.out 0; have hfz48_1 := blk_frozen BK197.out 1; have hfz48_2 := blk_frozen BK197.out 2; have hcz49_0 : w47.cell? ⟨gb198, 0, none⟩ = some (.slice A1_0 l1_0.length c1_0) := (blk_cell BK198.out 0).trans rfl; have hcz49_1 : w47.cell? ⟨gb198, 1, none⟩ = some (.int .i64 a1_1) := (blk_cell BK198.out 1).trans rfl; have hcz49_2 : w47.cell? ⟨gb198, 2, none⟩ = some (.int .i64 a1_2) := (blk_cell BK198.out 2).trans rfl; have hfz49_0 := blk_frozen BK198.out 0; have hfz49_1 := blk_frozen BK198.out 1; have hfz49_2 := blk_frozen BK198.out 2) | (go_at_call 51; (with_reducible refine (cupelref10_begins.calls k _ _ l1_0 _ _ l0_0 t202 _ ?side1 ?side2 ?side3 ?side4 A41.out).mono ?_); (case side1 => exact ts9_ HR1_0.out HB.out); (case side2 => exact HC1_0.out); (case side3 => exact ts9_ HR0_0.out HB.out); (case side4 => exact HC0_0.out); rintro e w' ⟨rfl, ⟨nd, rfl⟩⟩))
  go_ret
  exact ⟨ts30_, ts27_ HB.out GE197.out GE198.out⟩
 rw [if_neg c40] at H
 have c40b0 : (a1_1 == 4) = false := beq_eq_false_iff_ne.mpr c40
 have c40b1 : (a1_1 != 4) = true := bne_iff_ne.mpr c40
 obtain rfl := Option.some.inj H
 go_enter Tryd.func35, Tryd.ntmps35
 go_wp2_with (first | ((with_reducible refine gate_dst (N := 2) rfl ?_); refine box_event ?hg (N := 2) ?hd (cs := #[.slice A0_0 l0_0.length c0_0, .int .i64 a0_1, .int .i64 a0_2]) (t := 43) ?hr ?_; (case hd => rfl); (case hg => rfl); (case hr => exact ts18_); intro gb197 hg w50 hbox hb; have BK197 := Aside0.mk (hbox); have GW197 := Aside0.mk ((ts51_ HB.out : w.heap.size ≤ gb197)); have GE197 := Aside0.mk ((ts51_ HB.out : w.heap.size ≤ gb197)); replace HB := Aside0.mk (below_step (ts35_ HB.out) hb); clear hb hbox hg) | ((with_reducible refine gate_dst (N := 3) rfl ?_); refine box_event ?hg (N := 3) ?hd (cs := #[.slice A1_0 l1_0.length c1_0, .int .i64 a1_1, .int .i64 a1_2]) (t := 43) ?hr ?_; (case hd => rfl); (case hg => rfl); (case hr => exact ts18_); intro gb198 hg w51 hbox hb; have BK198 := Aside0.mk (hbox); have GW198 := Aside0.mk ((ts45_ HB.out GE197.out : w.heap.size ≤ gb198)); have GE198 := Aside0.mk ((ts45_ HB.out GE197.out : w.heap.size ≤ gb198)); replace HB := Aside0.mk (below_step (ts20_ HB.out GE197.out) hb); have NB197_198 := Aside0.mk ((ts61_ BK197.out : gb197 ≠ gb198)); have NB198_197 := Aside0.mk ((ts52_ BK197.out : gb198 ≠ gb197)); replace BK197 := Aside0.mk (blk_below (g := gb197) (o := .cells #[.slice A0_0 l0_0.length c0_0, .int .i64 a0_1, .int .i64 a0_2] 43 (0, 0)) (ts17_ BK197.out) hb); clear hb hbox hg; have hnb52 := NB197_198.out; have hnc52 := NB198_197.out; have hcz53_0 : w51.cell? ⟨gb197, 0, none⟩ = some (.slice A0_0 l0_0.length c0_0) := (blk_cell BK197.out 0).trans rfl; have hcz53_1 : w51.cell? ⟨gb197, 1, none⟩ = some (.int .i64 a0_1) := (blk_cell BK197.out 1).trans rfl; have hcz53_2 : w51.cell? ⟨gb197, 2, none⟩ = some (.int .i64 a0_2) := (blk_cell BK197.out 2).trans rfl; have hfz53_0 := blk_frozen BK197.out 0; have hfz53_1 := blk_frozen BK197.out 1; have hfz53_2 := blk_frozen BK197.out 2; have hcz54_0 : w51.cell? ⟨gb198, 0, none⟩ = some (.slice A1_0 l1_0.length c1_0) := (blk_cell BK198.out 0).trans rfl; have hcz54_1 : w51.cell? ⟨gb198, 1, none⟩ = some (.int .i64 a1_1) := (blk_cell BK198.out 1).trans rfl; have hcz54_2 : w51.cell? ⟨gb198, 2, none⟩ = some (.int .i64 a1_2) := (blk_cell BK198.out 2).trans rfl; have hfz54_0 := blk_frozen BK198.out 0; have hfz54_1 := blk_frozen BK198.out 1; have hfz54_2 := blk_frozen BK198.out 2) | ((with_reducible refine gate_callee (f := 50) rfl ?_); refine goesL_ (some 7) rfl rfl Tryd.func50 (by kernel_rfl) rfl #[.agg #[.slice A0_0 l0_0.length c0_0, .int .i64 a0_1, .int .i64 a0_2], .agg #[.slice A1_0 l1_0.length c1_0, .int .i64 a1_1, .int .i64 a1_2]] rfl ts8_ ?_; (with_reducible refine (cupelref10_Equal.calls k _ _ l0_0 a0_1 a0_2 _ _ l1_0 a1_1 a1_2 false _ ?side1 ?side2 ?side3 ?side4 A3.out).mono ?_); (case side1 => exact ts9_ HR0_0.out HB.out); (case side2 => exact HC0_0.out); (case side3 => exact ts9_ HR1_0.out HB.out); (case side4 => exact HC1_0.out); rintro e w55 ⟨rfl, hb⟩; refine ⟨_, rfl, ?_⟩; replace BK197 := Aside0.mk (blk_below (g := gb197) (o := .cells #[.slice A0_0 l0_0.length c0_0, .int .i64 a0_1, .int .i64 a0_2] 43 (0, 0)) (ts17_ BK197.out) hb); replace BK198 := Aside0.mk (blk_below (g := gb198) (o := .cells #[.slice A1_0 l1_0.length c1_0, .int .i64 a1_1, .int .i64 a1_2] 43 (0, 0)) (ts17_ BK198.out) hb); replace HB := Aside0.mk (below_step (ts27_ HB.out GE197.out GE198.out) hb); clear hb; have hcz56_0 : w55.cell? ⟨gb197, 0, none⟩ = some (.slice A0_0 l0_0.length c0_0) := (blk_cell BK197.out 0).trans rfl; have hcz56_1 : w55.cell? ⟨gb197, 1, none⟩ = some (.int .i64 a0_1) := (blk_cell BK197.out 1).trans rfl; have hcz56_2 : w55.cell? ⟨gb197, 2, none⟩ = some (.int .i64 a0_2) := (blk_cell BK197.out 2).trans rfl; have hfz56_0 := blk_frozen BK197.out 0; have hfz56_1 := blk_frozen BK197.out 1; have hfz56_2 := blk_frozen BK197.out 2; have hcz57_0 : w55.cell? ⟨gb198, 0, none⟩ = some (.slice A1_0 l1_0.length c1_0) := (blk_cell BK198.out 0).trans rfl; have hcz57_1 : w55.cell? ⟨gb198, 1, none⟩ = some (.int .i64 a1_1) := (blk_cell BK198.out 1).trans rfl; have hcz57_2 : w55.cell? ⟨gb198, 2, none⟩ = some (.int .i64 a1_2) := (blk_cell BK198.out 2).trans rfl; have hfz57_0 := blk_frozen BK198.out 0; have hfz57_1 := blk_frozen BK198.out 1; have hfz57_2 := blk_frozen BK198.out 2))
 go_ret
 exact ⟨ts30_, ts27_ HB.out GE197.out GE198.out⟩
end Go.Proofs.YtndennmpnomjnaaDoor.A
