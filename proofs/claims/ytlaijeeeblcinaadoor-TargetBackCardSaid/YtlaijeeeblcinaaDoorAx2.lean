/- Written by wip/tools/xprint.py, a program of this session that drives the kit's printer. Not trusted: Lean checks it. -/
import Derived.Test.YtlaijeeeblcinaaDoorAx0
import Derived.Test.YtlaijeeeblcinaaDoorRefFindC
set_option linter.all false
set_option maxHeartbeats 8000000
set_option maxRecDepth 100000
namespace Go.Proofs.YtlaijeeeblcinaaDoor.A
open Go.RowKit Go.Proofs.YtlaijeeeblcinaaDoorW.PrintWords Go.Proofs.YtlaijeeeblcinaaDoorW.PrintLast Go.Proofs.YtlaijeeeblcinaaDoorW.PrintMore
attribute [local go_sem] max2_int min2_int max_two min_two max_three min_three max_four min_four   -- for this text's walks alone
set_option linter.unusedVariables false
set_option linter.unusedSimpArgs false
/-! ### cupelref20_register: function 28 -/
def cupelref20_register.f (a0 : Bool) (a1 : Int) : Option (Bool) := if a0 = true then (if a1 ≥ 0 then (some (decide (a1 < 10))) else (some false)) else (some (a1 == 0))
/-! ### cupelref20_immediate: function 29 -/
def cupelref20_immediate.f (a0 : Int) (a1 : Int) : Option (Bool) := if a0 = 0 then (some (a1 == 0)) else (if a0 = 1 then (if a1 ≥ (-2147483648) then (some (decide (a1 < 2147483648))) else (some false)) else (if a0 = 3 then (if a1 ≥ 0 then (some (decide (a1 ≤ 20000))) else (some false)) else (some true)))
/-! ### cupelref20_Valid: function 11 -/
def cupelref20_Valid.f (a0_0 : Int) (a0_1 : Int) (a0_2 : Int) (a0_3 : Int) (a0_4 : Int) : Option (Bool) := (cupelref20_find.f a0_0).bind fun bt153 => (if bt153.2.2.2.2.2.2 = true then ((cupelref20_register.f bt153.2.2.1 a0_1).bind fun t161 => (if t161 = true then ((cupelref20_register.f bt153.2.2.2.1 a0_2).bind fun t162 => (if t162 = true then ((cupelref20_register.f bt153.2.2.2.2.1 a0_3).bind fun t163 => (if t163 = true then ((cupelref20_immediate.f bt153.2.2.2.2.2.1 a0_4).bind fun t164 => (some t164)) else (some false))) else (some false))) else (some false))) else (some false))
/-! ### cupelref20_words: function 31 -/
def cupelref20_words.f (a0_0 : Int) (a0_1 : Int) (a0_2 : Int) (a0_3 : Int) (a0_4 : Int) : Option (List Int) := if a0_0 = 3 then (some (([IntKind.u64.wrap ((IntKind.u64.wrap ((IntKind.u64.wrap ((IntKind.u64.wrap (a0_0)) + (IntKind.u64.wrap ((IntKind.u64.wrap (a0_1)) * 256)))) + (IntKind.u64.wrap ((IntKind.u64.wrap (a0_2)) * 4096)))) + (IntKind.u64.wrap ((IntKind.u64.wrap (a0_3)) * 65536))), IntKind.u64.wrap (a0_4)] : List Int))) else (some (([IntKind.u64.wrap ((IntKind.u64.wrap ((IntKind.u64.wrap ((IntKind.u64.wrap ((IntKind.u64.wrap (a0_0)) + (IntKind.u64.wrap ((IntKind.u64.wrap (a0_1)) * 256)))) + (IntKind.u64.wrap ((IntKind.u64.wrap (a0_2)) * 4096)))) + (IntKind.u64.wrap ((IntKind.u64.wrap (a0_3)) * 65536)))) + (IntKind.u64.wrap ((IntKind.u64.wrap (a0_4)) * 4294967296)))] : List Int)))
/-! ### cupelref20_Encode: function 13 -/
mutual
def cupelref20_Encode.l0 : Nat → List (S26) → Int → Option (List Int × Int)
 | 0, _, _ => none
 | k + 1, x0, x5 => if x5 < (x0.length : Int) then (if 0 ≤ x5 then ((cupelref20_Valid.f ((rd_T26 x0 x5).f0) ((rd_T26 x0 x5).f1) ((rd_T26 x0 x5).f2) ((rd_T26 x0 x5).f3) ((rd_T26 x0 x5).f4)).bind fun t173 => (if t173 = true then (cupelref20_Encode.l0 k x0 (wrap64 (x5 + 1))) else (some (([] : List Int), 2)))) else (none)) else (cupelref20_Encode.l1 k x0 ([] : List Int) 0)
def cupelref20_Encode.l1 : Nat → List (S26) → List Int → Int → Option (List Int × Int)
 | 0, _, _, _ => none
 | k + 1, x0, x4, x6 => if x6 < (x0.length : Int) then (if 0 ≤ x6 then ((cupelref20_words.f ((rd_T26 x0 x6).f0) ((rd_T26 x0 x6).f1) ((rd_T26 x0 x6).f2) ((rd_T26 x0 x6).f3) ((rd_T26 x0 x6).f4)).bind fun t175 => (if x4.length + t175.length < 17592186044416 then (cupelref20_Encode.l1 k x0 (x4 ++ t175) (wrap64 (x6 + 1))) else (none))) else (none)) else (if (x4.length : Int) > 20000 then (some (([] : List Int), 3)) else (some (x4, 0)))
end
def cupelref20_Encode.f (k : Nat) (l0 : List (S26)) : Option (List Int × Int) := cupelref20_Encode.l0 k l0 0
theorem cupelref20_Encode.mono_l : ∀ k, (∀ y0 y1, LeO (cupelref20_Encode.l0 k y0 y1) (cupelref20_Encode.l0 (k + 1) y0 y1)) ∧ (∀ y0 y1 y2, LeO (cupelref20_Encode.l1 k y0 y1 y2) (cupelref20_Encode.l1 (k + 1) y0 y1 y2))
 | 0 => ⟨fun _ _ r h => by simp [cupelref20_Encode.l0] at h, fun _ _ _ r h => by simp [cupelref20_Encode.l1] at h⟩
 | k + 1 => by
  obtain ⟨ih0, ih1⟩ := cupelref20_Encode.mono_l k
  refine ⟨?_, ?_⟩
  ·intro y0 y1
   unfold cupelref20_Encode.l0
   repeat' first
   | (with_reducible exact ih0 _ _)
   | (with_reducible exact ih1 _ _ _)
   | (with_reducible exact LeO.refl _)
   | (with_reducible exact LeO.none _)
   | (with_reducible refine LeO.ite ?_ ?_)
   | (with_reducible refine LeO.bind ?_ (fun _ => ?_))
   | exact LeO.none _
   | refine LeO.ite ?_ ?_
   | refine LeO.bind ?_ (fun _ => ?_)
  intro y0 y1 y2
  unfold cupelref20_Encode.l1
  repeat' first
  | (with_reducible exact ih0 _ _)
  | (with_reducible exact ih1 _ _ _)
  | (with_reducible exact LeO.refl _)
  | (with_reducible exact LeO.none _)
  | (with_reducible refine LeO.ite ?_ ?_)
  | (with_reducible refine LeO.bind ?_ (fun _ => ?_))
  | exact LeO.none _
  | refine LeO.ite ?_ ?_
  | refine LeO.bind ?_ (fun _ => ?_)
theorem cupelref20_Encode.mono : ∀ a0 k, LeO (cupelref20_Encode.f k a0) (cupelref20_Encode.f (k + 1) a0) := by
 intro a0 k
 obtain ⟨ih0, ih1⟩ := cupelref20_Encode.mono_l k
 unfold cupelref20_Encode.f
 repeat' first
   | (with_reducible exact ih0 _ _)
   | (with_reducible exact ih1 _ _ _)
   | (with_reducible exact LeO.refl _)
   | (with_reducible exact LeO.none _)
   | (with_reducible refine LeO.ite ?_ ?_)
   | (with_reducible refine LeO.bind ?_ (fun _ => ?_))
   | exact LeO.none _
   | refine LeO.ite ?_ ?_
   | refine LeO.bind ?_ (fun _ => ?_)
/-! ### cupellaw20_sameWords: function 14 -/
mutual
def cupellaw20_sameWords.l0 : Nat → List Int → List Int → Int → Option (Bool)
 | 0, _, _, _ => none
 | k + 1, x0, x1, x5 => if x5 < (x0.length : Int) then (cupellaw20_sameWords.j1 k x0 x1 x5 (decide (x5 < (x1.length : Int)))) else (cupellaw20_sameWords.j1 k x0 x1 x5 false)
def cupellaw20_sameWords.j1 : Nat → List Int → List Int → Int → Bool → Option (Bool)
 | 0, _, _, _, _ => none
 | k + 1, x0, x1, x5, x15 => if x15 = true then (if 0 ≤ x5 then (if x5 < (x0.length : Int) then (if x5 < (x1.length : Int) then (if (rd x0 x5) = (rd x1 x5) then (cupellaw20_sameWords.l0 k x0 x1 (wrap64 (x5 + 1))) else (some false)) else (none)) else (none)) else (none)) else (some ((x0.length : Int) == (x1.length : Int)))
end
def cupellaw20_sameWords.f (k : Nat) (l0 : List Int) (l1 : List Int) : Option (Bool) := cupellaw20_sameWords.l0 k l0 l1 0
theorem cupellaw20_sameWords.mono_l : ∀ k, (∀ y0 y1 y2, LeO (cupellaw20_sameWords.l0 k y0 y1 y2) (cupellaw20_sameWords.l0 (k + 1) y0 y1 y2)) ∧ (∀ y0 y1 y2 y3, LeO (cupellaw20_sameWords.j1 k y0 y1 y2 y3) (cupellaw20_sameWords.j1 (k + 1) y0 y1 y2 y3))
 | 0 => ⟨fun _ _ _ r h => by simp [cupellaw20_sameWords.l0] at h, fun _ _ _ _ r h => by simp [cupellaw20_sameWords.j1] at h⟩
 | k + 1 => by
  obtain ⟨ih0, ih1⟩ := cupellaw20_sameWords.mono_l k
  refine ⟨?_, ?_⟩
  ·intro y0 y1 y2
   unfold cupellaw20_sameWords.l0
   repeat' first
   | (with_reducible exact ih0 _ _ _)
   | (with_reducible exact ih1 _ _ _ _)
   | (with_reducible exact LeO.refl _)
   | (with_reducible exact LeO.none _)
   | (with_reducible refine LeO.ite ?_ ?_)
   | (with_reducible refine LeO.bind ?_ (fun _ => ?_))
   | exact LeO.none _
   | refine LeO.ite ?_ ?_
   | refine LeO.bind ?_ (fun _ => ?_)
  intro y0 y1 y2 y3
  unfold cupellaw20_sameWords.j1
  repeat' first
  | (with_reducible exact ih0 _ _ _)
  | (with_reducible exact ih1 _ _ _ _)
  | (with_reducible exact LeO.refl _)
  | (with_reducible exact LeO.none _)
  | (with_reducible refine LeO.ite ?_ ?_)
  | (with_reducible refine LeO.bind ?_ (fun _ => ?_))
  | exact LeO.none _
  | refine LeO.ite ?_ ?_
  | refine LeO.bind ?_ (fun _ => ?_)
theorem cupellaw20_sameWords.mono : ∀ a0 a1 k, LeO (cupellaw20_sameWords.f k a0 a1) (cupellaw20_sameWords.f (k + 1) a0 a1) := by
 intro a0 a1 k
 obtain ⟨ih0, ih1⟩ := cupellaw20_sameWords.mono_l k
 unfold cupellaw20_sameWords.f
 repeat' first
   | (with_reducible exact ih0 _ _ _)
   | (with_reducible exact ih1 _ _ _ _)
   | (with_reducible exact LeO.refl _)
   | (with_reducible exact LeO.none _)
   | (with_reducible refine LeO.ite ?_ ?_)
   | (with_reducible refine LeO.bind ?_ (fun _ => ?_))
   | exact LeO.none _
   | refine LeO.ite ?_ ?_
   | refine LeO.bind ?_ (fun _ => ?_)
theorem cupellaw20_sameWords.calls (k : Nat) (A0 : Option Addr) (c0 : Nat) (l0 : List Int) (A1 : Option Addr) (c1 : Nat) (l1 : List Int) (r : Bool) (w : World) (hr0 : Kd.C (Kd.int .u64) w A0 l0.length l0) (hc0 : l0.length ≤ c0) (hr1 : Kd.C (Kd.int .u64) w A1 l1.length l1) (hc1 : l1.length ≤ c1) (h : cupellaw20_sameWords.f k l0 l1 = some r) :
  Calls Tryd.prog 14 #[.slice A0 l0.length c0, .slice A1 l1.length c1] w fun e w' => e = .returned (.bool r) ∧ Drawn0 w w' := by
 have HR0 := Aside0.mk hr0
 have HC0 := Aside0.mk hc0
 clear hr0 hc0
 have HR1 := Aside0.mk hr1
 have HC1 := Aside0.mk hc1
 clear hr1 hc1
 have H : (cupellaw20_sameWords.l0 k l0 l1 0) = some r := h
 clear h
 have H' := Aside0.mk H
 clear H
 go_enter Tryd.func14, Tryd.ntmps14
 go_wp2
 repeat (go_quiet (fail); try go_wp2)
 go_loopg [5] k (fun kq v5 w' => ∃ (x5_1 : Int), v5 = .int .i64 x5_1 ∧ Aside0 (cupellaw20_sameWords.l0 kq l0 l1 x5_1 = some r) ∧ Aside0 (kq ≤ k) ∧ Drawn0 w w')
 case atStart => exact ⟨(0), ts45_, H', ⟨Nat.le_refl _⟩, ts20_⟩
 case round =>
  clear H'
  try clear c1
  try clear p2
  obtain ⟨x5_1, rfl, HA, HK1, ⟨m1, rfl⟩⟩ := hrel
  cases gk with
  | zero => exact absurd HA.out (by simp [cupellaw20_sameWords.l0])
  | succ k1 =>
   have H := HA.out
   clear HA
   simp only [cupellaw20_sameWords.l0] at H
   have HC3 := Aside0.mk H
   clear H
   go_upto_region 2 with (fail)
   repeat (go_quiet (fail); go_upto_region 2 with (fail))
   go_cut [15] (fun v15 wc => ∃ (kq : Nat) (x15_2 : Bool), v15 = .bool x15_2 ∧ Aside0 (cupellaw20_sameWords.j1 kq l0 l1 x5_1 x15_2 = some r) ∧ Aside0 (kq ≤ k1) ∧ Drawn0 w wc)
   case first =>
    have H := HC3.out
    clear HC3
    by_cases c4 : x5_1 < (l0.length : Int)
    ·rw [if_pos c4] at H
     have c4b0 : decide (x5_1 < (l0.length : Int)) = true := decide_eq_true c4
     clear c4
     (first | rw [c4b0] | (simp only [i64_w, i32_w]; rw [c4b0]) | skip)
     have H' := Aside0.mk H
     clear H
     go_wp2
     repeat (go_quiet (fail); try go_wp2)
     go_meet
     case rel => exact ⟨_, (decide (x5_1 < (l1.length : Int))), ts45_, H', ⟨ts16_ HK1.out⟩, ts20_⟩
    rw [if_neg c4] at H
    have c4b0 : decide (x5_1 < (l0.length : Int)) = false := decide_eq_false c4
    clear c4
    (first | rw [c4b0] | (simp only [i64_w, i32_w]; rw [c4b0]) | skip)
    have H' := Aside0.mk H
    clear H
    go_wp2
    repeat (go_quiet (fail); try go_wp2)
    go_meet
    case rel => exact ⟨_, (false), ts45_, H', ⟨ts16_ HK1.out⟩, ts20_⟩
   case rest =>
    clear HC3
    try clear c1
    try clear p2
    try clear c4
    try clear c4b0
    try clear p2
    obtain ⟨kq, x15_2, rfl, HA, HJ2, ⟨mc2, rfl⟩⟩ := hcut
    cases kq with
    | zero => exact absurd HA.out (by simp [cupellaw20_sameWords.j1])
    | succ kj2 =>
     have H := HA.out
     clear HA
     simp only [cupellaw20_sameWords.j1] at H
     by_cases c5 : x15_2 = true
     ·subst c5
      rw [if_pos rfl] at H
      by_cases c6 : 0 ≤ x5_1
      ·rw [if_pos c6] at H
       have c6b0 : decide (0 ≤ x5_1) = true := decide_eq_true c6
       clear c6
       by_cases c7 : x5_1 < (l0.length : Int)
       ·rw [if_pos c7] at H
        have c7b0 : decide (x5_1 < (l0.length : Int)) = true := decide_eq_true c7
        clear c7
        by_cases c8 : x5_1 < (l1.length : Int)
        ·rw [if_pos c8] at H
         have c8b0 : decide (x5_1 < (l1.length : Int)) = true := decide_eq_true c8
         clear c8
         by_cases c9 : (rd l0 x5_1) = (rd l1 x5_1)
         ·rw [if_pos c9] at H
          have c9b0 : ((rd l0 x5_1) == (rd l1 x5_1)) = true := beq_iff_eq.mpr c9
          have c9b1 : ((rd l0 x5_1) != (rd l1 x5_1)) = false := bne_eq_false_iff_eq.mpr c9
          clear c9
          have H' := Aside0.mk H
          clear H
          have p181 : 0 ≤ (x5_1 : Int) := of_decide_eq_true ts31_
          have q181 : x5_1 < (l0.length : Int) := of_decide_eq_true ts31_
          obtain ⟨ad181, e181, hx181_0⟩ := Kd.at_int HR0.out x5_1 p181 q181
          cases e181
          replace p181 := eq_true p181
          replace q181 := eq_true q181
          have p182 : 0 ≤ (x5_1 : Int) := of_decide_eq_true ts31_
          have q182 : x5_1 < (l1.length : Int) := of_decide_eq_true ts31_
          obtain ⟨ad182, e182, hx182_0⟩ := Kd.at_int HR1.out x5_1 p182 q182
          cases e182
          replace p182 := eq_true p182
          replace q182 := eq_true q182
          go_wp2
          repeat (go_quiet (fail); try go_wp2)
          go_roundg kj2
          case measure => have := HK1.out; have := HJ2.out; omega
          case rel => exact ⟨(wrap64 (x5_1 + 1)), ts45_, H', ⟨by have := HK1.out; have := HJ2.out; omega⟩, ts20_⟩
         rw [if_neg c9] at H
         have c9b0 : ((rd l0 x5_1) == (rd l1 x5_1)) = false := beq_eq_false_iff_ne.mpr c9
         have c9b1 : ((rd l0 x5_1) != (rd l1 x5_1)) = true := bne_iff_ne.mpr c9
         obtain rfl := Option.some.inj H
         have p181 : 0 ≤ (x5_1 : Int) := of_decide_eq_true ts31_
         have q181 : x5_1 < (l0.length : Int) := of_decide_eq_true ts31_
         obtain ⟨ad181, e181, hx181_0⟩ := Kd.at_int HR0.out x5_1 p181 q181
         cases e181
         replace p181 := eq_true p181
         replace q181 := eq_true q181
         have p182 : 0 ≤ (x5_1 : Int) := of_decide_eq_true ts31_
         have q182 : x5_1 < (l1.length : Int) := of_decide_eq_true ts31_
         obtain ⟨ad182, e182, hx182_0⟩ := Kd.at_int HR1.out x5_1 p182 q182
         cases e182
         replace p182 := eq_true p182
         replace q182 := eq_true q182
         go_wp2
         repeat (go_quiet (fail); try go_wp2)
         go_ret
         exact ⟨ts45_, ts20_⟩
        rw [if_neg c8] at H
        exact absurd H (by simp)
       rw [if_neg c7] at H
       exact absurd H (by simp)
      rw [if_neg c6] at H
      exact absurd H (by simp)
     replace c5 := Bool.eq_false_iff.mpr c5
     subst c5
     rw [if_neg Bool.false_ne_true] at H
     obtain rfl := Option.some.inj H
     go_wp2
     repeat (go_quiet (fail); try go_wp2)
     go_ret
     exact ⟨ts45_, ts20_⟩
-- NOT PRINTED: function 3 (cupellaw20_TargetEncodes)
end Go.Proofs.YtlaijeeeblcinaaDoor.A
