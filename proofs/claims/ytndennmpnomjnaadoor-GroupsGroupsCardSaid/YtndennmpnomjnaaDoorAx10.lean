/- Written by wip/tools/xprint.py, a program of this session that drives the kit's printer. Not trusted: Lean checks it. -/
import Derived.Test.YtndennmpnomjnaaDoorAx0
set_option linter.all false
set_option maxHeartbeats 8000000
set_option maxRecDepth 100000
namespace Go.Proofs.YtndennmpnomjnaaDoor.A
open Go.RowKit Go.Proofs.YtndennmpnomjnaaDoorW.PrintWords Go.Proofs.YtndennmpnomjnaaDoorW.PrintLast Go.Proofs.YtndennmpnomjnaaDoorW.PrintMore
attribute [local go_sem] max2_int min2_int max_two min_two max_three min_three max_four min_four   -- for this text's walks alone
set_option linter.unusedVariables false
set_option linter.unusedSimpArgs false
/-! ### cupelref35_Represent: function 16 -/
mutual
def cupelref35_Represent.l0 : Nat → List (S35) → List Int → List Int → Int → Option (List Int × Int)
 | 0, _, _, _, _ => none
 | k + 1, x0, x1, x6, x7 => if x7 < (x0.length : Int) then (if 0 ≤ x7 then (cupelref35_Represent.l1 k x0 x1 x6 x7 ((rd_T35 x0 x7).f1) (-1) 0) else (none)) else (some (x6, 0))
def cupelref35_Represent.l1 : Nat → List (S35) → List Int → List Int → Int → List Int → Int → Int → Option (List Int × Int)
 | 0, _, _, _, _, _, _, _ => none
 | k + 1, x0, x1, x6, x7, x8, x9, x10 => if x10 < (x8.length : Int) then (if 0 ≤ x10 then (if (rd x8 x10) < 0 then (cupelref35_Represent.j2 k x0 x1 x6 x7 x8 x9 x10 true) else (cupelref35_Represent.j2 k x0 x1 x6 x7 x8 x9 x10 (decide ((rd x8 x10) ≥ (x1.length : Int))))) else (none)) else (if x9 < 0 then (some (([] : List Int), 2)) else (if x6.length < 17592186044416 then (cupelref35_Represent.l0 k x0 x1 (x6 ++ [x9]) (wrap64 (x7 + 1))) else (none)))
def cupelref35_Represent.j2 : Nat → List (S35) → List Int → List Int → Int → List Int → Int → Int → Bool → Option (List Int × Int)
 | 0, _, _, _, _, _, _, _, _ => none
 | k + 1, x0, x1, x6, x7, x8, x9, x10, x41 => if x41 = true then (some (([] : List Int), 2)) else (if x9 < 0 then (if 0 ≤ x10 then (if x10 < (x8.length : Int) then (cupelref35_Represent.l1 k x0 x1 x6 x7 x8 (rd x8 x10) (wrap64 (x10 + 1))) else (none)) else (none)) else (if 0 ≤ x10 then (if x10 < (x8.length : Int) then (if 0 ≤ (rd x8 x10) then (if (rd x8 x10) < (x1.length : Int) then (if 0 ≤ x9 then (if x9 < (x1.length : Int) then (if (rd x1 (rd x8 x10)) < (rd x1 x9) then (cupelref35_Represent.l1 k x0 x1 x6 x7 x8 (rd x8 x10) (wrap64 (x10 + 1))) else (cupelref35_Represent.l1 k x0 x1 x6 x7 x8 x9 (wrap64 (x10 + 1)))) else (none)) else (none)) else (none)) else (none)) else (none)) else (none)))
end
def cupelref35_Represent.f (k : Nat) (l0 : List (S35)) (l1 : List Int) : Option (List Int × Int) := cupelref35_Represent.l0 k l0 l1 ([] : List Int) 0
theorem cupelref35_Represent.mono_l : ∀ k, (∀ y0 y1 y2 y3, LeO (cupelref35_Represent.l0 k y0 y1 y2 y3) (cupelref35_Represent.l0 (k + 1) y0 y1 y2 y3)) ∧ (∀ y0 y1 y2 y3 y4 y5 y6, LeO (cupelref35_Represent.l1 k y0 y1 y2 y3 y4 y5 y6) (cupelref35_Represent.l1 (k + 1) y0 y1 y2 y3 y4 y5 y6)) ∧ (∀ y0 y1 y2 y3 y4 y5 y6 y7, LeO (cupelref35_Represent.j2 k y0 y1 y2 y3 y4 y5 y6 y7) (cupelref35_Represent.j2 (k + 1) y0 y1 y2 y3 y4 y5 y6 y7))
 | 0 => ⟨fun _ _ _ _ r h => by simp [cupelref35_Represent.l0] at h, fun _ _ _ _ _ _ _ r h => by simp [cupelref35_Represent.l1] at h, fun _ _ _ _ _ _ _ _ r h => by simp [cupelref35_Represent.j2] at h⟩
 | k + 1 => by
  obtain ⟨ih0, ih1, ih2⟩ := cupelref35_Represent.mono_l k
  refine ⟨?_, ?_, ?_⟩
  ·intro y0 y1 y2 y3
   unfold cupelref35_Represent.l0
   repeat' first
   | (with_reducible exact ih0 _ _ _ _)
   | (with_reducible exact ih1 _ _ _ _ _ _ _)
   | (with_reducible exact ih2 _ _ _ _ _ _ _ _)
   | (with_reducible exact LeO.refl _)
   | (with_reducible exact LeO.none _)
   | (with_reducible refine LeO.ite ?_ ?_)
   | (with_reducible refine LeO.bind ?_ (fun _ => ?_))
   | exact LeO.none _
   | refine LeO.ite ?_ ?_
   | refine LeO.bind ?_ (fun _ => ?_)
  ·intro y0 y1 y2 y3 y4 y5 y6
   unfold cupelref35_Represent.l1
   repeat' first
   | (with_reducible exact ih0 _ _ _ _)
   | (with_reducible exact ih1 _ _ _ _ _ _ _)
   | (with_reducible exact ih2 _ _ _ _ _ _ _ _)
   | (with_reducible exact LeO.refl _)
   | (with_reducible exact LeO.none _)
   | (with_reducible refine LeO.ite ?_ ?_)
   | (with_reducible refine LeO.bind ?_ (fun _ => ?_))
   | exact LeO.none _
   | refine LeO.ite ?_ ?_
   | refine LeO.bind ?_ (fun _ => ?_)
  intro y0 y1 y2 y3 y4 y5 y6 y7
  unfold cupelref35_Represent.j2
  repeat' first
  | (with_reducible exact ih0 _ _ _ _)
  | (with_reducible exact ih1 _ _ _ _ _ _ _)
  | (with_reducible exact ih2 _ _ _ _ _ _ _ _)
  | (with_reducible exact LeO.refl _)
  | (with_reducible exact LeO.none _)
  | (with_reducible refine LeO.ite ?_ ?_)
  | (with_reducible refine LeO.bind ?_ (fun _ => ?_))
  | exact LeO.none _
  | refine LeO.ite ?_ ?_
  | refine LeO.bind ?_ (fun _ => ?_)
theorem cupelref35_Represent.mono : ∀ a0 a1 k, LeO (cupelref35_Represent.f k a0 a1) (cupelref35_Represent.f (k + 1) a0 a1) := by
 intro a0 a1 k
 obtain ⟨ih0, ih1, ih2⟩ := cupelref35_Represent.mono_l k
 unfold cupelref35_Represent.f
 repeat' first
   | (with_reducible exact ih0 _ _ _ _)
   | (with_reducible exact ih1 _ _ _ _ _ _ _)
   | (with_reducible exact ih2 _ _ _ _ _ _ _ _)
   | (with_reducible exact LeO.refl _)
   | (with_reducible exact LeO.none _)
   | (with_reducible refine LeO.ite ?_ ?_)
   | (with_reducible refine LeO.bind ?_ (fun _ => ?_))
   | exact LeO.none _
   | refine LeO.ite ?_ ?_
   | refine LeO.bind ?_ (fun _ => ?_)
theorem cupelref35_Represent.calls (k : Nat) (A0 : Option Addr) (c0 : Nat) (l0 : List (S35)) (A1 : Option Addr) (c1 : Nat) (l1 : List Int) (r1 : List Int) (r2 : Int) (w : World) (hr0 : Kd.C k35 w A0 l0.length l0) (hc0 : l0.length ≤ c0) (hr1 : Kd.C (Kd.int .i64) w A1 l1.length l1) (hc1 : l1.length ≤ c1) (h : cupelref35_Represent.f k l0 l1 = some (r1, r2)) :
  Calls Tryd.prog 16 #[.slice A0 l0.length c0, .slice A1 l1.length c1] w fun e w' => ∃ v0_ : Value, e = .returned (.tuple #[v0_, .int .i64 r2]) ∧ Kd.R (Kd.int .i64) 3 w' w.heap.size (fun _ => True) v0_ r1 ∧ Below w.heap.size w w' := by
 have HR0 := Aside0.mk hr0
 have HC0 := Aside0.mk hc0
 clear hr0 hc0
 have HR1 := Aside0.mk hr1
 have HC1 := Aside0.mk hc1
 clear hr1 hc1
 have HB := Aside0.mk (Below.refl w.heap.size w)
 have H : (cupelref35_Represent.l0 k l0 l1 ([] : List Int) 0) = some (r1, r2) := h
 clear h
 have H' := Aside0.mk H
 clear H
 go_enter Tryd.func16, Tryd.ntmps16
 go_wp2
 repeat (go_quiet (fail); try go_wp2)
 go_loopg [6, 7] k (fun kq v6 v7 w' => ∃ (x6_1 : List Int) (x7_1 : Int), v7 = .int .i64 x7_1 ∧ Aside0 (cupelref35_Represent.l0 kq l0 l1 x6_1 x7_1 = some (r1, r2)) ∧ Aside0 (kq ≤ k) ∧ Aside0 (Kd.R (Kd.int .i64) 3 w' w.heap.size (fun _ => True) v6 x6_1) ∧ Aside0 (Below w.heap.size w w'))
 case atStart => exact ⟨(([] : List Int)), (0), ts28_, H', ⟨Nat.le_refl _⟩, ⟨ts21_⟩, ⟨ts29_ HB.out⟩⟩
 case round =>
  clear H'
  try clear c1
  try clear p2
  obtain ⟨x6_1, x7_1, rfl, HA, HK1, HO_6, HB⟩ := hrel
  cases gk with
  | zero => exact absurd HA.out (by simp [cupelref35_Represent.l0])
  | succ k1 =>
   have H := HA.out
   clear HA
   simp only [cupelref35_Represent.l0] at H
   by_cases c3 : x7_1 < (l0.length : Int)
   ·rw [if_pos c3] at H
    have c3b0 : decide (x7_1 < (l0.length : Int)) = true := decide_eq_true c3
    clear c3
    by_cases c4 : 0 ≤ x7_1
    ·rw [if_pos c4] at H
     have c4b0 : decide (0 ≤ x7_1) = true := decide_eq_true c4
     clear c4
     have H' := Aside0.mk H
     clear H
     have p277 : 0 ≤ (x7_1 : Int) := of_decide_eq_true ts24_
     have q277 : x7_1 < (l0.length : Int) := of_decide_eq_true ts24_
     obtain ⟨ad277, A277_1, c277_1, e277, hx277_0, hx277_1, hl277_1, hi277_1⟩ := at_T35 HR0.out x7_1 p277 q277
     cases e277
     replace hx277_0 := (HB.out.cell (World.block_lt_of_cell? w _ hx277_0)).trans hx277_0
     replace hx277_1 := (HB.out.cell (World.block_lt_of_cell? w _ hx277_1)).trans hx277_1
     have HR277_1 := Aside0.mk hi277_1
     have HC277_1 := Aside0.mk hl277_1
     clear hi277_1 hl277_1
     replace p277 := eq_true p277
     replace q277 := eq_true q277
     go_wp2
     repeat (go_quiet (fail); try go_wp2)
     go_loopg [9, 10] k1 (fun kq v9 v10 w' => ∃ (x9_2 : Int) (x10_2 : Int), v9 = .int .i64 x9_2 ∧ v10 = .int .i64 x10_2 ∧ Aside0 (cupelref35_Represent.l1 kq l0 l1 x6_1 x7_1 ((rd_T35 l0 x7_1).f1) x9_2 x10_2 = some (r1, r2)) ∧ Aside0 (kq ≤ k1) ∧ Aside0 (Kd.R (Kd.int .i64) 3 w' w.heap.size (fun _ => True) u6 x6_1) ∧ Aside0 (Below w.heap.size w w'))
     case atStart => exact ⟨((-1)), (0), ts28_, ts28_, H', ⟨Nat.le_refl _⟩, ⟨ts18_ HO_6.out⟩, ⟨ts29_ HB.out⟩⟩
     case round =>
      clear H'
      try clear c1
      try clear c2
      try clear p2
      try clear q2
      try clear hx2
      try clear c3
      try clear c3b0
      try clear c4
      try clear c4b0
      try clear hx277_0
      try clear hx277_1
      try clear p2
      try clear p277
      try clear q277
      obtain ⟨x9_2, x10_2, rfl, rfl, HA, HK2, HO_6, HB⟩ := hrel
      cases gk with
      | zero => exact absurd HA.out (by simp [cupelref35_Represent.l1])
      | succ k2 =>
       have H := HA.out
       clear HA
       simp only [cupelref35_Represent.l1] at H
       by_cases c5 : x10_2 < (((rd_T35 l0 x7_1).f1).length : Int)
       ·rw [if_pos c5] at H
        have c5b0 : decide (x10_2 < (((rd_T35 l0 x7_1).f1).length : Int)) = true := decide_eq_true c5
        clear c5
        have HC6 := Aside0.mk H
        clear H
        go_upto_region 10 with (fail)
        repeat (go_quiet (fail); go_upto_region 10 with (fail))
        go_cut [41] (fun v41 wc => ∃ (kq : Nat) (x41_5 : Bool), v41 = .bool x41_5 ∧ Aside0 (cupelref35_Represent.j2 kq l0 l1 x6_1 x7_1 ((rd_T35 l0 x7_1).f1) x9_2 x10_2 x41_5 = some (r1, r2)) ∧ Aside0 (kq ≤ k2) ∧ Aside0 (Kd.R (Kd.int .i64) 3 wc w.heap.size (fun _ => True) u6 x6_1) ∧ Aside0 (Below w.heap.size w wc))
        case first =>
         have H := HC6.out
         clear HC6
         by_cases c7 : 0 ≤ x10_2
         ·rw [if_pos c7] at H
          have c7b0 : decide (0 ≤ x10_2) = true := decide_eq_true c7
          clear c7
          (first | rw [c7b0] | (simp only [i64_w, i32_w]; rw [c7b0]) | skip)
          by_cases c8 : (rd ((rd_T35 l0 x7_1).f1) x10_2) < 0
          ·rw [if_pos c8] at H
           have c8b0 : decide ((rd ((rd_T35 l0 x7_1).f1) x10_2) < 0) = true := decide_eq_true c8
           clear c8
           have H' := Aside0.mk H
           clear H
           have p281 : 0 ≤ (x10_2 : Int) := of_decide_eq_true ts24_
           have q281 : x10_2 < (((rd_T35 l0 x7_1).f1).length : Int) := of_decide_eq_true ts24_
           obtain ⟨ad281, e281, hx281_0⟩ := Kd.at_int HR277_1.out x10_2 p281 q281
           cases e281
           replace hx281_0 := (HB.out.cell (World.block_lt_of_cell? w _ hx281_0)).trans hx281_0
           replace p281 := eq_true p281
           replace q281 := eq_true q281
           go_wp2
           repeat (go_quiet (fail); try go_wp2)
           go_meet
           case rel => exact ⟨_, (true), ts28_, H', ⟨by have := HK1.out; have := HK2.out; first | omega | exact Nat.le_refl _⟩, ⟨ts18_ HO_6.out⟩, ⟨ts29_ HB.out⟩⟩
          rw [if_neg c8] at H
          have c8b0 : decide ((rd ((rd_T35 l0 x7_1).f1) x10_2) < 0) = false := decide_eq_false c8
          clear c8
          have H' := Aside0.mk H
          clear H
          have p281 : 0 ≤ (x10_2 : Int) := of_decide_eq_true ts24_
          have q281 : x10_2 < (((rd_T35 l0 x7_1).f1).length : Int) := of_decide_eq_true ts24_
          obtain ⟨ad281, e281, hx281_0⟩ := Kd.at_int HR277_1.out x10_2 p281 q281
          cases e281
          replace hx281_0 := (HB.out.cell (World.block_lt_of_cell? w _ hx281_0)).trans hx281_0
          replace p281 := eq_true p281
          replace q281 := eq_true q281
          have p282 : 0 ≤ (x10_2 : Int) := of_decide_eq_true ts24_
          have q282 : x10_2 < (((rd_T35 l0 x7_1).f1).length : Int) := of_decide_eq_true ts24_
          obtain ⟨ad282, e282, hx282_0⟩ := Kd.at_int HR277_1.out x10_2 p282 q282
          obtain rfl : ad281 = ad282 := (by injection e282)
          replace hx282_0 := (HB.out.cell (World.block_lt_of_cell? w _ hx282_0)).trans hx282_0
          replace p282 := eq_true p282
          replace q282 := eq_true q282
          go_wp2
          repeat (go_quiet (fail); try go_wp2)
          go_meet
          case rel => exact ⟨_, (decide ((rd ((rd_T35 l0 x7_1).f1) x10_2) ≥ (l1.length : Int))), ts28_, H', ⟨by have := HK1.out; have := HK2.out; first | omega | exact Nat.le_refl _⟩, ⟨ts18_ HO_6.out⟩, ⟨ts29_ HB.out⟩⟩
         rw [if_neg c7] at H
         exact absurd H (by simp)
        case rest =>
         clear HC6
         try clear c1
         try clear c2
         try clear p2
         try clear q2
         try clear hx2
         try clear c3
         try clear c3b0
         try clear c4
         try clear c4b0
         try clear c5
         try clear c5b0
         try clear c7
         try clear c7b0
         try clear c8
         try clear c8b0
         try clear hx277_0
         try clear hx277_1
         try clear hx281_0
         try clear hx282_0
         try clear p2
         try clear p277
         try clear p281
         try clear p282
         try clear q2
         try clear q277
         try clear q281
         try clear q282
         obtain ⟨kq, x41_5, rfl, HA, HJ5, HO_6, HB⟩ := hcut
         cases kq with
         | zero => exact absurd HA.out (by simp [cupelref35_Represent.j2])
         | succ kj5 =>
          have H := HA.out
          clear HA
          simp only [cupelref35_Represent.j2] at H
          by_cases c9 : x41_5 = true
          ·subst c9
           rw [if_pos rfl] at H
           simp only [Option.some.injEq, Prod.mk.injEq] at H
           obtain ⟨rfl, rfl⟩ := H
           go_wp2
           repeat (go_quiet (fail); try go_wp2)
           go_ret2
           exact ⟨_, ts26_, ts21_, ts29_ HB.out⟩
          replace c9 := Bool.eq_false_iff.mpr c9
          subst c9
          rw [if_neg Bool.false_ne_true] at H
          by_cases c10 : x9_2 < 0
          ·rw [if_pos c10] at H
           have c10b0 : decide (x9_2 < 0) = true := decide_eq_true c10
           clear c10
           by_cases c11 : 0 ≤ x10_2
           ·rw [if_pos c11] at H
            have c11b0 : decide (0 ≤ x10_2) = true := decide_eq_true c11
            clear c11
            by_cases c12 : x10_2 < (((rd_T35 l0 x7_1).f1).length : Int)
            ·rw [if_pos c12] at H
             have c12b0 : decide (x10_2 < (((rd_T35 l0 x7_1).f1).length : Int)) = true := decide_eq_true c12
             clear c12
             have H' := Aside0.mk H
             clear H
             have p283 : 0 ≤ (x10_2 : Int) := of_decide_eq_true ts24_
             have q283 : x10_2 < (((rd_T35 l0 x7_1).f1).length : Int) := of_decide_eq_true ts24_
             obtain ⟨ad283, e283, hx283_0⟩ := Kd.at_int HR277_1.out x10_2 p283 q283
             cases e283
             replace hx283_0 := (HB.out.cell (World.block_lt_of_cell? w _ hx283_0)).trans hx283_0
             replace p283 := eq_true p283
             replace q283 := eq_true q283
             go_wp2
             repeat (go_quiet (fail); try go_wp2)
             go_roundg kj5
             case measure => have := HK1.out; have := HK2.out; have := HJ5.out; omega
             case rel => exact ⟨(rd ((rd_T35 l0 x7_1).f1) x10_2), (wrap64 (x10_2 + 1)), ts28_, ts28_, H', ⟨by have := HK1.out; have := HK2.out; have := HJ5.out; omega⟩, ⟨ts18_ HO_6.out⟩, ⟨ts29_ HB.out⟩⟩
            rw [if_neg c12] at H
            exact absurd H (by simp)
           rw [if_neg c11] at H
           exact absurd H (by simp)
          rw [if_neg c10] at H
          have c10b0 : decide (x9_2 < 0) = false := decide_eq_false c10
          clear c10
          by_cases c13 : 0 ≤ x10_2
          ·rw [if_pos c13] at H
           have c13b0 : decide (0 ≤ x10_2) = true := decide_eq_true c13
           clear c13
           by_cases c14 : x10_2 < (((rd_T35 l0 x7_1).f1).length : Int)
           ·rw [if_pos c14] at H
            have c14b0 : decide (x10_2 < (((rd_T35 l0 x7_1).f1).length : Int)) = true := decide_eq_true c14
            clear c14
            by_cases c15 : 0 ≤ (rd ((rd_T35 l0 x7_1).f1) x10_2)
            ·rw [if_pos c15] at H
             have c15b0 : decide (0 ≤ (rd ((rd_T35 l0 x7_1).f1) x10_2)) = true := decide_eq_true c15
             clear c15
             by_cases c16 : (rd ((rd_T35 l0 x7_1).f1) x10_2) < (l1.length : Int)
             ·rw [if_pos c16] at H
              have c16b0 : decide ((rd ((rd_T35 l0 x7_1).f1) x10_2) < (l1.length : Int)) = true := decide_eq_true c16
              clear c16
              by_cases c17 : 0 ≤ x9_2
              ·rw [if_pos c17] at H
               have c17b0 : decide (0 ≤ x9_2) = true := decide_eq_true c17
               clear c17
               by_cases c18 : x9_2 < (l1.length : Int)
               ·rw [if_pos c18] at H
                have c18b0 : decide (x9_2 < (l1.length : Int)) = true := decide_eq_true c18
                clear c18
                by_cases c19 : (rd l1 (rd ((rd_T35 l0 x7_1).f1) x10_2)) < (rd l1 x9_2)
                ·rw [if_pos c19] at H
                 have c19b0 : decide ((rd l1 (rd ((rd_T35 l0 x7_1).f1) x10_2)) < (rd l1 x9_2)) = true := decide_eq_true c19
                 clear c19
                 have H' := Aside0.mk H
                 clear H
                 have p284 : 0 ≤ (x10_2 : Int) := of_decide_eq_true ts24_
                 have q284 : x10_2 < (((rd_T35 l0 x7_1).f1).length : Int) := of_decide_eq_true ts24_
                 obtain ⟨ad284, e284, hx284_0⟩ := Kd.at_int HR277_1.out x10_2 p284 q284
                 cases e284
                 replace hx284_0 := (HB.out.cell (World.block_lt_of_cell? w _ hx284_0)).trans hx284_0
                 replace p284 := eq_true p284
                 replace q284 := eq_true q284
                 have p285 : 0 ≤ ((rd ((rd_T35 l0 x7_1).f1) x10_2) : Int) := of_decide_eq_true ts24_
                 have q285 : (rd ((rd_T35 l0 x7_1).f1) x10_2) < (l1.length : Int) := of_decide_eq_true ts24_
                 obtain ⟨ad285, e285, hx285_0⟩ := Kd.at_int HR1.out (rd ((rd_T35 l0 x7_1).f1) x10_2) p285 q285
                 cases e285
                 replace hx285_0 := (HB.out.cell (World.block_lt_of_cell? w _ hx285_0)).trans hx285_0
                 replace p285 := eq_true p285
                 replace q285 := eq_true q285
                 have p286 : 0 ≤ (x9_2 : Int) := of_decide_eq_true ts24_
                 have q286 : x9_2 < (l1.length : Int) := of_decide_eq_true ts24_
                 obtain ⟨ad286, e286, hx286_0⟩ := Kd.at_int HR1.out x9_2 p286 q286
                 obtain rfl : ad285 = ad286 := (by injection e286)
                 replace hx286_0 := (HB.out.cell (World.block_lt_of_cell? w _ hx286_0)).trans hx286_0
                 replace p286 := eq_true p286
                 replace q286 := eq_true q286
                 have p287 : 0 ≤ (x10_2 : Int) := of_decide_eq_true ts24_
                 have q287 : x10_2 < (((rd_T35 l0 x7_1).f1).length : Int) := of_decide_eq_true ts24_
                 obtain ⟨ad287, e287, hx287_0⟩ := Kd.at_int HR277_1.out x10_2 p287 q287
                 obtain rfl : ad284 = ad287 := (by injection e287)
                 replace hx287_0 := (HB.out.cell (World.block_lt_of_cell? w _ hx287_0)).trans hx287_0
                 replace p287 := eq_true p287
                 replace q287 := eq_true q287
                 go_wp2
                 repeat (go_quiet (fail); try go_wp2)
                 go_roundg kj5
                 case measure => have := HK1.out; have := HK2.out; have := HJ5.out; omega
                 case rel => exact ⟨(rd ((rd_T35 l0 x7_1).f1) x10_2), (wrap64 (x10_2 + 1)), ts28_, ts28_, H', ⟨by have := HK1.out; have := HK2.out; have := HJ5.out; omega⟩, ⟨ts18_ HO_6.out⟩, ⟨ts29_ HB.out⟩⟩
                rw [if_neg c19] at H
                have c19b0 : decide ((rd l1 (rd ((rd_T35 l0 x7_1).f1) x10_2)) < (rd l1 x9_2)) = false := decide_eq_false c19
                clear c19
                have H' := Aside0.mk H
                clear H
                have p284 : 0 ≤ (x10_2 : Int) := of_decide_eq_true ts24_
                have q284 : x10_2 < (((rd_T35 l0 x7_1).f1).length : Int) := of_decide_eq_true ts24_
                obtain ⟨ad284, e284, hx284_0⟩ := Kd.at_int HR277_1.out x10_2 p284 q284
                cases e284
                replace hx284_0 := (HB.out.cell (World.block_lt_of_cell? w _ hx284_0)).trans hx284_0
                replace p284 := eq_true p284
                replace q284 := eq_true q284
                have p285 : 0 ≤ ((rd ((rd_T35 l0 x7_1).f1) x10_2) : Int) := of_decide_eq_true ts24_
                have q285 : (rd ((rd_T35 l0 x7_1).f1) x10_2) < (l1.length : Int) := of_decide_eq_true ts24_
                obtain ⟨ad285, e285, hx285_0⟩ := Kd.at_int HR1.out (rd ((rd_T35 l0 x7_1).f1) x10_2) p285 q285
                cases e285
                replace hx285_0 := (HB.out.cell (World.block_lt_of_cell? w _ hx285_0)).trans hx285_0
                replace p285 := eq_true p285
                replace q285 := eq_true q285
                have p286 : 0 ≤ (x9_2 : Int) := of_decide_eq_true ts24_
                have q286 : x9_2 < (l1.length : Int) := of_decide_eq_true ts24_
                obtain ⟨ad286, e286, hx286_0⟩ := Kd.at_int HR1.out x9_2 p286 q286
                obtain rfl : ad285 = ad286 := (by injection e286)
                replace hx286_0 := (HB.out.cell (World.block_lt_of_cell? w _ hx286_0)).trans hx286_0
                replace p286 := eq_true p286
                replace q286 := eq_true q286
                go_wp2
                repeat (go_quiet (fail); try go_wp2)
                go_roundg kj5
                case measure => have := HK1.out; have := HK2.out; have := HJ5.out; omega
                case rel => exact ⟨(x9_2), (wrap64 (x10_2 + 1)), ts28_, ts28_, H', ⟨by have := HK1.out; have := HK2.out; have := HJ5.out; omega⟩, ⟨ts18_ HO_6.out⟩, ⟨ts29_ HB.out⟩⟩
               rw [if_neg c18] at H
               exact absurd H (by simp)
              rw [if_neg c17] at H
              exact absurd H (by simp)
             rw [if_neg c16] at H
             exact absurd H (by simp)
            rw [if_neg c15] at H
            exact absurd H (by simp)
           rw [if_neg c14] at H
           exact absurd H (by simp)
          rw [if_neg c13] at H
          exact absurd H (by simp)
       rw [if_neg c5] at H
       have c5b0 : decide (x10_2 < (((rd_T35 l0 x7_1).f1).length : Int)) = false := decide_eq_false c5
       clear c5
       by_cases c20 : x9_2 < 0
       ·rw [if_pos c20] at H
        have c20b0 : decide (x9_2 < 0) = true := decide_eq_true c20
        clear c20
        simp only [Option.some.injEq, Prod.mk.injEq] at H
        obtain ⟨rfl, rfl⟩ := H
        go_wp2
        repeat (go_quiet (fail); try go_wp2)
        go_ret2
        exact ⟨_, ts26_, ts21_, ts29_ HB.out⟩
       rw [if_neg c20] at H
       have c20b0 : decide (x9_2 < 0) = false := decide_eq_false c20
       clear c20
       by_cases c21 : x6_1.length < 17592186044416
       ·rw [if_pos c21] at H
        have LMc21 := Aside0.mk c21
        clear c21
        obtain ⟨y278, hy278⟩ : ∃ y_ : List Int, y_ = (x6_1 ++ [x9_2]) := ⟨_, rfl⟩
        replace H : (cupelref35_Represent.l0 k2 l0 l1 y278 (wrap64 (x7_1 + 1))) = some (r1, r2) := by first | (rw [hy278]; with_reducible exact H) | (have H2_ := (Option.bind_some _ _).symm.trans H; rw [hy278]; with_reducible exact H2_) | (have H2_ := (Option.bind_some _ _).symm.trans H; with_reducible exact H2_) | with_reducible exact H | (rw [hy278]; exact H) | exact H
        have Ny278 := Aside0.mk hy278
        clear hy278
        have H' := Aside0.mk H
        clear H
        go_wp2_with (first | ((with_reducible refine gate_builtin (b := .append) (xs := #[.tmp 64, .tmp 66]) rfl ?_); (try (refine gate_guard (by rfl) ?_; dsimp only)); at_builtin; refine Kd.R_append (Kd.int .i64) (w0 := w) w.heap.size rfl (.tmp 64) (.tmp 66) 30 3 (.int .i64 0) 8 rfl Tryd.underlying30 info3 rfl (by decide) (by omega) u6 x6_1 x9_2 [.int .i64 x9_2] (fun _ => True) (fun _ => False) rfl rfl ?aP (fun _ hk => hk.elim) ?aF ?aO ?aB ?aS ?aL ?_; (case aP => exact rfl); (case aB => exact (ts29_ HB.out)); (case aF => exact ts12_); (case aO => exact (ts18_ HO_6.out)); (case aS => exact ts40_ HB.out); (case aL => have := LMc21.out; omega); intro v279 w22 ho hb hg hat; rw [← Ny278.out] at ho; replace HB := Aside0.mk (hb); have HO280 := Aside0.mk (ho); clear HO_6; clear ho hb hg hat))
        repeat (go_quiet (first | ((with_reducible refine gate_builtin (b := .append) (xs := #[.tmp 64, .tmp 66]) rfl ?_); (try (refine gate_guard (by rfl) ?_; dsimp only)); at_builtin; refine Kd.R_append (Kd.int .i64) (w0 := w) w.heap.size rfl (.tmp 64) (.tmp 66) 30 3 (.int .i64 0) 8 rfl Tryd.underlying30 info3 rfl (by decide) (by omega) u6 x6_1 x9_2 [.int .i64 x9_2] (fun _ => True) (fun _ => False) rfl rfl ?aP (fun _ hk => hk.elim) ?aF ?aO ?aB ?aS ?aL ?_; (case aP => exact rfl); (case aB => exact (ts29_ HB.out)); (case aF => exact ts12_); (case aO => exact (ts18_ HO_6.out)); (case aS => exact ts40_ HB.out); (case aL => have := LMc21.out; omega); intro v279 w22 ho hb hg hat; rw [← Ny278.out] at ho; replace HB := Aside0.mk (hb); have HO280 := Aside0.mk (ho); clear HO_6; clear ho hb hg hat)); try go_wp2_with (first | ((with_reducible refine gate_builtin (b := .append) (xs := #[.tmp 64, .tmp 66]) rfl ?_); (try (refine gate_guard (by rfl) ?_; dsimp only)); at_builtin; refine Kd.R_append (Kd.int .i64) (w0 := w) w.heap.size rfl (.tmp 64) (.tmp 66) 30 3 (.int .i64 0) 8 rfl Tryd.underlying30 info3 rfl (by decide) (by omega) u6 x6_1 x9_2 [.int .i64 x9_2] (fun _ => True) (fun _ => False) rfl rfl ?aP (fun _ hk => hk.elim) ?aF ?aO ?aB ?aS ?aL ?_; (case aP => exact rfl); (case aB => exact (ts29_ HB.out)); (case aF => exact ts12_); (case aO => exact (ts18_ HO_6.out)); (case aS => exact ts40_ HB.out); (case aL => have := LMc21.out; omega); intro v279 w22 ho hb hg hat; rw [← Ny278.out] at ho; replace HB := Aside0.mk (hb); have HO280 := Aside0.mk (ho); clear HO_6; clear ho hb hg hat)))
        go_roundg k2
        case measure => have := HK1.out; have := HK2.out; omega
        case rel => exact ⟨(y278), (wrap64 (x7_1 + 1)), ts28_, H', ⟨by have := HK1.out; have := HK2.out; omega⟩, ⟨ts18_ HO280.out⟩, ⟨ts29_ HB.out⟩⟩
       rw [if_neg c21] at H
       exact absurd H (by simp)
    rw [if_neg c4] at H
    exact absurd H (by simp)
   rw [if_neg c3] at H
   have c3b0 : decide (x7_1 < (l0.length : Int)) = false := decide_eq_false c3
   clear c3
   simp only [Option.some.injEq, Prod.mk.injEq] at H
   obtain ⟨rfl, rfl⟩ := H
   go_wp2
   repeat (go_quiet (fail); try go_wp2)
   go_ret2
   exact ⟨_, ts26_, ts18_ HO_6.out, ts29_ HB.out⟩
-- NOT PRINTED: function 4 (cupellaw35_GroupsGroups)
-- NOT PRINTED: function 5 (cupellaw35_GroupsAny)
-- NOT PRINTED: function 6 (cupellaw35_GroupsPart)
-- NOT PRINTED: function 7 (cupellaw35_GroupsAlike)
end Go.Proofs.YtndennmpnomjnaaDoor.A
