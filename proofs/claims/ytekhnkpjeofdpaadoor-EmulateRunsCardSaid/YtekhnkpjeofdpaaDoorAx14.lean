/- Written by wip/tools/xprint.py, a program of this session that drives the kit's printer (a part of the text Ax12). Not trusted: Lean checks it. -/
import Derived.Test.YtekhnkpjeofdpaaDoorAx0
namespace Go.Proofs.YtekhnkpjeofdpaaDoor.A
open Go.RowKit Go.Proofs.YtekhnkpjeofdpaaDoorW.PrintWords Go.Proofs.YtekhnkpjeofdpaaDoorW.PrintLast Go.Proofs.YtekhnkpjeofdpaaDoorW.PrintMore
attribute [local go_sem] max2_int min2_int max_two min_two max_three min_three max_four min_four   -- for this text's walks alone
set_option linter.unusedVariables false
set_option linter.unusedSimpArgs false
/-! ### cupelref10_truth: function 67 -/
def cupelref10_truth.f (a0 : Bool) : Option (Int) := if a0 = true then (some 1) else (some 0)
set_option maxHeartbeats 8000000 in
set_option maxRecDepth 100000 in
theorem cupelref10_truth.calls (a0 : Bool) (r : Int) (w : World) (h : cupelref10_truth.f a0 = some r) :
  Calls Tryd.prog 67 #[.bool a0] w fun e w' => e = .returned (.int .i64 r) ∧ Drawn0 w w' := by
 have H : (if a0 = true then (some 1) else (some 0)) = some r := h
 clear h
 by_cases c2 : a0 = true
 ·subst c2
  rw [if_pos rfl] at H
  obtain rfl := Option.some.inj H
  go_enter Tryd.func67, Tryd.ntmps67
  go_wp2
  go_ret
  exact ⟨ts36_, ts11_⟩
 ·replace c2 := Bool.eq_false_iff.mpr c2
  subst c2
  rw [if_neg Bool.false_ne_true] at H
  obtain rfl := Option.some.inj H
  go_enter Tryd.func67, Tryd.ntmps67
  go_wp2
  go_ret
  exact ⟨ts36_, ts11_⟩
/-! ### cupelref10_Bin: function 42 -/
def cupelref10_Bin.f (a0 : Int) (a1 : Int) (a2 : Int) : Option (Int × Bool × Int) := if a0 = 1 then (some (wrap64 (a1 + a2), false, 0)) else (if a0 = 2 then (some (wrap64 (a1 - a2), false, 0)) else (if a0 = 3 then (some (wrap64 (a1 * a2), false, 0)) else (if a0 = 4 then (if a2 = 0 then (some (0, true, 0)) else (if a2 = (-1) then (some (wrap64 (-a1), false, 0)) else (some (wrap64 (Int.tdiv a1 a2), false, 0)))) else (if a0 = 5 then (if a2 = 0 then (some (0, true, 0)) else (if a2 = (-1) then (some (0, false, 0)) else (some (Int.tmod a1 a2, false, 0)))) else (if a0 = 6 then (some (Go.bits .and .i64 a1 a2, false, 0)) else (if a0 = 7 then (some (Go.bits .or .i64 a1 a2, false, 0)) else (if a0 = 8 then (some (Go.bits .xor .i64 a1 a2, false, 0)) else (if a0 = 9 then (if 0 ≤ (IntKind.u64.wrap (Go.bits .and .i64 a2 63)) then (some (shl .i64 a1 (IntKind.u64.wrap (Go.bits .and .i64 a2 63)), false, 0)) else (none)) else (if a0 = 10 then (if 0 ≤ (IntKind.u64.wrap (Go.bits .and .i64 a2 63)) then (some (shr .i64 a1 (IntKind.u64.wrap (Go.bits .and .i64 a2 63)), false, 0)) else (none)) else (if a0 = 11 then ((cupelref10_truth.f (a1 == a2)).bind fun t576 => (some (t576, false, 0))) else (if a0 = 12 then ((cupelref10_truth.f (a1 != a2)).bind fun t577 => (some (t577, false, 0))) else (if a0 = 13 then ((cupelref10_truth.f (decide (a1 < a2))).bind fun t578 => (some (t578, false, 0))) else (if a0 = 14 then ((cupelref10_truth.f (decide (a1 ≤ a2))).bind fun t579 => (some (t579, false, 0))) else (some (0, false, 2)))))))))))))))
set_option maxHeartbeats 8000000 in
set_option maxRecDepth 100000 in
theorem cupelref10_Bin.calls (a0 : Int) (a1 : Int) (a2 : Int) (r1 : Int) (r2 : Bool) (r3 : Int) (w : World) (h : cupelref10_Bin.f a0 a1 a2 = some (r1, r2, r3)) :
  Calls Tryd.prog 42 #[.int .i64 a0, .int .i64 a1, .int .i64 a2] w fun e w' => e = .returned (.tuple #[.int .i64 r1, .bool r2, .int .i64 r3]) ∧ Drawn0 w w' := by
 have H : (if a0 = 1 then (some (wrap64 (a1 + a2), false, 0)) else (if a0 = 2 then (some (wrap64 (a1 - a2), false, 0)) else (if a0 = 3 then (some (wrap64 (a1 * a2), false, 0)) else (if a0 = 4 then (if a2 = 0 then (some (0, true, 0)) else (if a2 = (-1) then (some (wrap64 (-a1), false, 0)) else (some (wrap64 (Int.tdiv a1 a2), false, 0)))) else (if a0 = 5 then (if a2 = 0 then (some (0, true, 0)) else (if a2 = (-1) then (some (0, false, 0)) else (some (Int.tmod a1 a2, false, 0)))) else (if a0 = 6 then (some (Go.bits .and .i64 a1 a2, false, 0)) else (if a0 = 7 then (some (Go.bits .or .i64 a1 a2, false, 0)) else (if a0 = 8 then (some (Go.bits .xor .i64 a1 a2, false, 0)) else (if a0 = 9 then (if 0 ≤ (IntKind.u64.wrap (Go.bits .and .i64 a2 63)) then (some (shl .i64 a1 (IntKind.u64.wrap (Go.bits .and .i64 a2 63)), false, 0)) else (none)) else (if a0 = 10 then (if 0 ≤ (IntKind.u64.wrap (Go.bits .and .i64 a2 63)) then (some (shr .i64 a1 (IntKind.u64.wrap (Go.bits .and .i64 a2 63)), false, 0)) else (none)) else (if a0 = 11 then ((cupelref10_truth.f (a1 == a2)).bind fun t576 => (some (t576, false, 0))) else (if a0 = 12 then ((cupelref10_truth.f (a1 != a2)).bind fun t577 => (some (t577, false, 0))) else (if a0 = 13 then ((cupelref10_truth.f (decide (a1 < a2))).bind fun t578 => (some (t578, false, 0))) else (if a0 = 14 then ((cupelref10_truth.f (decide (a1 ≤ a2))).bind fun t579 => (some (t579, false, 0))) else (some (0, false, 2)))))))))))))))) = some (r1, r2, r3) := h
 clear h
 by_cases c4 : a0 = 1
 ·rw [if_pos c4] at H
  have c4b0 : (a0 == 1) = true := beq_iff_eq.mpr c4
  have c4b1 : (a0 != 1) = false := bne_eq_false_iff_eq.mpr c4
  clear c4
  simp only [Option.some.injEq, Prod.mk.injEq] at H
  obtain ⟨rfl, rfl, rfl⟩ := H
  go_enter Tryd.func42, Tryd.ntmps42
  go_wp2
  go_ret3
  exact ⟨ts36_, ts11_⟩
 ·rw [if_neg c4] at H
  have c4b0 : (a0 == 1) = false := beq_eq_false_iff_ne.mpr c4
  have c4b1 : (a0 != 1) = true := bne_iff_ne.mpr c4
  by_cases c5 : a0 = 2
  ·rw [if_pos c5] at H
   have c5b0 : (a0 == 2) = true := beq_iff_eq.mpr c5
   have c5b1 : (a0 != 2) = false := bne_eq_false_iff_eq.mpr c5
   clear c5
   simp only [Option.some.injEq, Prod.mk.injEq] at H
   obtain ⟨rfl, rfl, rfl⟩ := H
   go_enter Tryd.func42, Tryd.ntmps42
   go_wp2
   go_ret3
   exact ⟨ts36_, ts11_⟩
  ·rw [if_neg c5] at H
   have c5b0 : (a0 == 2) = false := beq_eq_false_iff_ne.mpr c5
   have c5b1 : (a0 != 2) = true := bne_iff_ne.mpr c5
   by_cases c6 : a0 = 3
   ·rw [if_pos c6] at H
    have c6b0 : (a0 == 3) = true := beq_iff_eq.mpr c6
    have c6b1 : (a0 != 3) = false := bne_eq_false_iff_eq.mpr c6
    clear c6
    simp only [Option.some.injEq, Prod.mk.injEq] at H
    obtain ⟨rfl, rfl, rfl⟩ := H
    go_enter Tryd.func42, Tryd.ntmps42
    go_wp2
    go_ret3
    exact ⟨ts36_, ts11_⟩
   ·rw [if_neg c6] at H
    have c6b0 : (a0 == 3) = false := beq_eq_false_iff_ne.mpr c6
    have c6b1 : (a0 != 3) = true := bne_iff_ne.mpr c6
    by_cases c7 : a0 = 4
    ·rw [if_pos c7] at H
     have c7b0 : (a0 == 4) = true := beq_iff_eq.mpr c7
     have c7b1 : (a0 != 4) = false := bne_eq_false_iff_eq.mpr c7
     clear c7
     by_cases c8 : a2 = 0
     ·rw [if_pos c8] at H
      have c8b0 : (a2 == 0) = true := beq_iff_eq.mpr c8
      have c8b1 : (a2 != 0) = false := bne_eq_false_iff_eq.mpr c8
      clear c8
      simp only [Option.some.injEq, Prod.mk.injEq] at H
      obtain ⟨rfl, rfl, rfl⟩ := H
      go_enter Tryd.func42, Tryd.ntmps42
      go_wp2
      go_ret3
      exact ⟨ts36_, ts11_⟩
     ·rw [if_neg c8] at H
      have c8b0 : (a2 == 0) = false := beq_eq_false_iff_ne.mpr c8
      have c8b1 : (a2 != 0) = true := bne_iff_ne.mpr c8
      by_cases c9 : a2 = (-1)
      ·rw [if_pos c9] at H
       have c9b0 : (a2 == (-1)) = true := beq_iff_eq.mpr c9
       have c9b1 : (a2 != (-1)) = false := bne_eq_false_iff_eq.mpr c9
       clear c9
       simp only [Option.some.injEq, Prod.mk.injEq] at H
       obtain ⟨rfl, rfl, rfl⟩ := H
       go_enter Tryd.func42, Tryd.ntmps42
       go_wp2
       go_ret3
       exact ⟨ts36_, ts11_⟩
      ·rw [if_neg c9] at H
       have c9b0 : (a2 == (-1)) = false := beq_eq_false_iff_ne.mpr c9
       have c9b1 : (a2 != (-1)) = true := bne_iff_ne.mpr c9
       simp only [Option.some.injEq, Prod.mk.injEq] at H
       obtain ⟨rfl, rfl, rfl⟩ := H
       go_enter Tryd.func42, Tryd.ntmps42
       go_wp2
       go_ret3
       exact ⟨ts36_, ts11_⟩
    ·rw [if_neg c7] at H
     have c7b0 : (a0 == 4) = false := beq_eq_false_iff_ne.mpr c7
     have c7b1 : (a0 != 4) = true := bne_iff_ne.mpr c7
     by_cases c10 : a0 = 5
     ·rw [if_pos c10] at H
      have c10b0 : (a0 == 5) = true := beq_iff_eq.mpr c10
      have c10b1 : (a0 != 5) = false := bne_eq_false_iff_eq.mpr c10
      clear c10
      by_cases c11 : a2 = 0
      ·rw [if_pos c11] at H
       have c11b0 : (a2 == 0) = true := beq_iff_eq.mpr c11
       have c11b1 : (a2 != 0) = false := bne_eq_false_iff_eq.mpr c11
       clear c11
       simp only [Option.some.injEq, Prod.mk.injEq] at H
       obtain ⟨rfl, rfl, rfl⟩ := H
       go_enter Tryd.func42, Tryd.ntmps42
       go_wp2
       go_ret3
       exact ⟨ts36_, ts11_⟩
      ·rw [if_neg c11] at H
       have c11b0 : (a2 == 0) = false := beq_eq_false_iff_ne.mpr c11
       have c11b1 : (a2 != 0) = true := bne_iff_ne.mpr c11
       by_cases c12 : a2 = (-1)
       ·rw [if_pos c12] at H
        have c12b0 : (a2 == (-1)) = true := beq_iff_eq.mpr c12
        have c12b1 : (a2 != (-1)) = false := bne_eq_false_iff_eq.mpr c12
        clear c12
        simp only [Option.some.injEq, Prod.mk.injEq] at H
        obtain ⟨rfl, rfl, rfl⟩ := H
        go_enter Tryd.func42, Tryd.ntmps42
        go_wp2
        go_ret3
        exact ⟨ts36_, ts11_⟩
       ·rw [if_neg c12] at H
        have c12b0 : (a2 == (-1)) = false := beq_eq_false_iff_ne.mpr c12
        have c12b1 : (a2 != (-1)) = true := bne_iff_ne.mpr c12
        simp only [Option.some.injEq, Prod.mk.injEq] at H
        obtain ⟨rfl, rfl, rfl⟩ := H
        go_enter Tryd.func42, Tryd.ntmps42
        go_wp2
        go_ret3
        exact ⟨ts36_, ts11_⟩
     ·rw [if_neg c10] at H
      have c10b0 : (a0 == 5) = false := beq_eq_false_iff_ne.mpr c10
      have c10b1 : (a0 != 5) = true := bne_iff_ne.mpr c10
      by_cases c13 : a0 = 6
      ·rw [if_pos c13] at H
       have c13b0 : (a0 == 6) = true := beq_iff_eq.mpr c13
       have c13b1 : (a0 != 6) = false := bne_eq_false_iff_eq.mpr c13
       clear c13
       simp only [Option.some.injEq, Prod.mk.injEq] at H
       obtain ⟨rfl, rfl, rfl⟩ := H
       go_enter Tryd.func42, Tryd.ntmps42
       go_wp2
       go_ret3
       exact ⟨ts36_, ts11_⟩
      ·rw [if_neg c13] at H
       have c13b0 : (a0 == 6) = false := beq_eq_false_iff_ne.mpr c13
       have c13b1 : (a0 != 6) = true := bne_iff_ne.mpr c13
       by_cases c14 : a0 = 7
       ·rw [if_pos c14] at H
        have c14b0 : (a0 == 7) = true := beq_iff_eq.mpr c14
        have c14b1 : (a0 != 7) = false := bne_eq_false_iff_eq.mpr c14
        clear c14
        simp only [Option.some.injEq, Prod.mk.injEq] at H
        obtain ⟨rfl, rfl, rfl⟩ := H
        go_enter Tryd.func42, Tryd.ntmps42
        go_wp2
        go_ret3
        exact ⟨ts36_, ts11_⟩
       ·rw [if_neg c14] at H
        have c14b0 : (a0 == 7) = false := beq_eq_false_iff_ne.mpr c14
        have c14b1 : (a0 != 7) = true := bne_iff_ne.mpr c14
        by_cases c15 : a0 = 8
        ·rw [if_pos c15] at H
         have c15b0 : (a0 == 8) = true := beq_iff_eq.mpr c15
         have c15b1 : (a0 != 8) = false := bne_eq_false_iff_eq.mpr c15
         clear c15
         simp only [Option.some.injEq, Prod.mk.injEq] at H
         obtain ⟨rfl, rfl, rfl⟩ := H
         go_enter Tryd.func42, Tryd.ntmps42
         go_wp2
         go_ret3
         exact ⟨ts36_, ts11_⟩
        ·rw [if_neg c15] at H
         have c15b0 : (a0 == 8) = false := beq_eq_false_iff_ne.mpr c15
         have c15b1 : (a0 != 8) = true := bne_iff_ne.mpr c15
         by_cases c16 : a0 = 9
         ·rw [if_pos c16] at H
          have c16b0 : (a0 == 9) = true := beq_iff_eq.mpr c16
          have c16b1 : (a0 != 9) = false := bne_eq_false_iff_eq.mpr c16
          clear c16
          obtain ⟨ji17, hji17⟩ : ∃ j_ : Int, (IntKind.u64.wrap (Go.bits .and .i64 a2 63)) = j_ := ⟨_, rfl⟩
          replace H : (if 0 ≤ (ji17) then (some (shl .i64 a1 (ji17), false, 0)) else (none)) = some (r1, r2, r3) := by first | (rw [hji17] at H; exact H) | (simp only [hji17] at H ⊢; exact H)
          by_cases c18 : 0 ≤ (ji17)
          ·rw [if_pos c18] at H
           have c18b0 := eq_true c18
           have c18b1 : decide (0 ≤ (ji17)) = true := decide_eq_true c18
           clear c18
           obtain ⟨ji19, hji19⟩ : ∃ j_ : Int, (shl .i64 a1 (ji17)) = j_ := ⟨_, rfl⟩
           replace H : (some (ji19, false, 0)) = some (r1, r2, r3) := by first | (rw [hji19] at H; exact H) | (simp only [hji19] at H ⊢; exact H)
           have hji19_ : (IntKind.i64.wrap (a1 * 2 ^ min (ji17).toNat 64)) = ji19 := hji19
           have hji19z : (ji17) ≤ 64 → (IntKind.i64.wrap (a1 * 2 ^ (ji17).toNat)) = ji19 := shl_small hji19
           have hji19y : (wrap64 (a1 * 2 ^ min (ji17).toNat 64)) = ji19 := (i64_w _).symm.trans hji19_
           have hji19x : (ji17) ≤ 64 → (wrap64 (a1 * 2 ^ (ji17).toNat)) = ji19 := fun h_ => (i64_w _).symm.trans (hji19z h_)
           simp only [Option.some.injEq, Prod.mk.injEq] at H
           obtain ⟨rfl, rfl, rfl⟩ := H
           go_enter Tryd.func42, Tryd.ntmps42
           go_wp2
           go_ret3
           exact ⟨by first | rfl | (simp; done) | (simp only [← hji17, ← hji19] <;> (first | rfl | simp)) | (simp [*]; done), ts11_⟩
          ·rw [if_neg c18] at H
           exact absurd H (by simp)
         ·rw [if_neg c16] at H
          have c16b0 : (a0 == 9) = false := beq_eq_false_iff_ne.mpr c16
          have c16b1 : (a0 != 9) = true := bne_iff_ne.mpr c16
          by_cases c20 : a0 = 10
          ·rw [if_pos c20] at H
           have c20b0 : (a0 == 10) = true := beq_iff_eq.mpr c20
           have c20b1 : (a0 != 10) = false := bne_eq_false_iff_eq.mpr c20
           clear c20
           obtain ⟨ji21, hji21⟩ : ∃ j_ : Int, (IntKind.u64.wrap (Go.bits .and .i64 a2 63)) = j_ := ⟨_, rfl⟩
           replace H : (if 0 ≤ (ji21) then (some (shr .i64 a1 (ji21), false, 0)) else (none)) = some (r1, r2, r3) := by first | (rw [hji21] at H; exact H) | (simp only [hji21] at H ⊢; exact H)
           by_cases c22 : 0 ≤ (ji21)
           ·rw [if_pos c22] at H
            have c22b0 := eq_true c22
            have c22b1 : decide (0 ≤ (ji21)) = true := decide_eq_true c22
            clear c22
            obtain ⟨ji23, hji23⟩ : ∃ j_ : Int, (shr .i64 a1 (ji21)) = j_ := ⟨_, rfl⟩
            replace H : (some (ji23, false, 0)) = some (r1, r2, r3) := by first | (rw [hji23] at H; exact H) | (simp only [hji23] at H ⊢; exact H)
            have hji23_ : (a1 / 2 ^ min (ji21).toNat 64) = ji23 := hji23
            have hji23z : (ji21) ≤ 64 → (a1 / 2 ^ (ji21).toNat) = ji23 := shr_small hji23
            simp only [Option.some.injEq, Prod.mk.injEq] at H
            obtain ⟨rfl, rfl, rfl⟩ := H
            go_enter Tryd.func42, Tryd.ntmps42
            go_wp2
            go_ret3
            exact ⟨by first | rfl | (simp; done) | (simp only [← hji21, ← hji23] <;> (first | rfl | simp)) | (simp [*]; done), ts11_⟩
           ·rw [if_neg c22] at H
            exact absurd H (by simp)
          ·rw [if_neg c20] at H
           have c20b0 : (a0 == 10) = false := beq_eq_false_iff_ne.mpr c20
           have c20b1 : (a0 != 10) = true := bne_iff_ne.mpr c20
           by_cases c24 : a0 = 11
           ·rw [if_pos c24] at H
            have c24b0 : (a0 == 11) = true := beq_iff_eq.mpr c24
            have c24b1 : (a0 != 11) = false := bne_eq_false_iff_eq.mpr c24
            clear c24
            replace H := Option.bind_eq_some_iff.mp H
            obtain ⟨t576, A250, H⟩ := H
            try dsimp only at H
            have A25 := Aside0.mk A250
            clear A250
            simp only [Option.some.injEq, Prod.mk.injEq] at H
            obtain ⟨rfl, rfl, rfl⟩ := H
            go_enter Tryd.func42, Tryd.ntmps42
            go_wp2_with (first | ((with_reducible refine gate_callee (f := 67) rfl ?_); refine goesL_ (some 79) rfl rfl Tryd.func67 (by kernel_rfl) rfl #[.bool (a1 == a2)] rfl ts47_ ?_; (with_reducible refine (cupelref10_truth.calls (a1 == a2) t576 _ A25.out).mono ?_); rintro e w' ⟨rfl, ⟨nd, rfl⟩⟩; refine ⟨_, rfl, ?_⟩))
            go_ret3
            exact ⟨ts36_, ts11_⟩
           ·rw [if_neg c24] at H
            have c24b0 : (a0 == 11) = false := beq_eq_false_iff_ne.mpr c24
            have c24b1 : (a0 != 11) = true := bne_iff_ne.mpr c24
            by_cases c26 : a0 = 12
            ·rw [if_pos c26] at H
             have c26b0 : (a0 == 12) = true := beq_iff_eq.mpr c26
             have c26b1 : (a0 != 12) = false := bne_eq_false_iff_eq.mpr c26
             clear c26
             replace H := Option.bind_eq_some_iff.mp H
             obtain ⟨t577, A270, H⟩ := H
             try dsimp only at H
             have A27 := Aside0.mk A270
             clear A270
             simp only [Option.some.injEq, Prod.mk.injEq] at H
             obtain ⟨rfl, rfl, rfl⟩ := H
             go_enter Tryd.func42, Tryd.ntmps42
             go_wp2_with (first | ((with_reducible refine gate_callee (f := 67) rfl ?_); refine goesL_ (some 85) rfl rfl Tryd.func67 (by kernel_rfl) rfl #[.bool (a1 != a2)] rfl ts47_ ?_; (with_reducible refine (cupelref10_truth.calls (a1 != a2) t577 _ A27.out).mono ?_); rintro e w' ⟨rfl, ⟨nd, rfl⟩⟩; refine ⟨_, rfl, ?_⟩))
             go_ret3
             exact ⟨ts36_, ts11_⟩
            ·rw [if_neg c26] at H
             have c26b0 : (a0 == 12) = false := beq_eq_false_iff_ne.mpr c26
             have c26b1 : (a0 != 12) = true := bne_iff_ne.mpr c26
             by_cases c28 : a0 = 13
             ·rw [if_pos c28] at H
              have c28b0 : (a0 == 13) = true := beq_iff_eq.mpr c28
              have c28b1 : (a0 != 13) = false := bne_eq_false_iff_eq.mpr c28
              clear c28
              replace H := Option.bind_eq_some_iff.mp H
              obtain ⟨t578, A290, H⟩ := H
              try dsimp only at H
              have A29 := Aside0.mk A290
              clear A290
              simp only [Option.some.injEq, Prod.mk.injEq] at H
              obtain ⟨rfl, rfl, rfl⟩ := H
              go_enter Tryd.func42, Tryd.ntmps42
              go_wp2_with (first | ((with_reducible refine gate_callee (f := 67) rfl ?_); refine goesL_ (some 91) rfl rfl Tryd.func67 (by kernel_rfl) rfl #[.bool (decide (a1 < a2))] rfl ts47_ ?_; (with_reducible refine (cupelref10_truth.calls (decide (a1 < a2)) t578 _ A29.out).mono ?_); rintro e w' ⟨rfl, ⟨nd, rfl⟩⟩; refine ⟨_, rfl, ?_⟩))
              go_ret3
              exact ⟨ts36_, ts11_⟩
             ·rw [if_neg c28] at H
              have c28b0 : (a0 == 13) = false := beq_eq_false_iff_ne.mpr c28
              have c28b1 : (a0 != 13) = true := bne_iff_ne.mpr c28
              by_cases c30 : a0 = 14
              ·rw [if_pos c30] at H
               have c30b0 : (a0 == 14) = true := beq_iff_eq.mpr c30
               have c30b1 : (a0 != 14) = false := bne_eq_false_iff_eq.mpr c30
               clear c30
               replace H := Option.bind_eq_some_iff.mp H
               obtain ⟨t579, A310, H⟩ := H
               try dsimp only at H
               have A31 := Aside0.mk A310
               clear A310
               simp only [Option.some.injEq, Prod.mk.injEq] at H
               obtain ⟨rfl, rfl, rfl⟩ := H
               go_enter Tryd.func42, Tryd.ntmps42
               go_wp2_with (first | ((with_reducible refine gate_callee (f := 67) rfl ?_); refine goesL_ (some 97) rfl rfl Tryd.func67 (by kernel_rfl) rfl #[.bool (decide (a1 ≤ a2))] rfl ts47_ ?_; (with_reducible refine (cupelref10_truth.calls (decide (a1 ≤ a2)) t579 _ A31.out).mono ?_); rintro e w' ⟨rfl, ⟨nd, rfl⟩⟩; refine ⟨_, rfl, ?_⟩))
               go_ret3
               exact ⟨ts36_, ts11_⟩
              ·rw [if_neg c30] at H
               have c30b0 : (a0 == 14) = false := beq_eq_false_iff_ne.mpr c30
               have c30b1 : (a0 != 14) = true := bne_iff_ne.mpr c30
               simp only [Option.some.injEq, Prod.mk.injEq] at H
               obtain ⟨rfl, rfl, rfl⟩ := H
               go_enter Tryd.func42, Tryd.ntmps42
               go_wp2
               go_ret3
               exact ⟨ts36_, ts11_⟩
-- NOT PRINTED: function 33 (cupelref23_Machine_bin)
-- NOT PRINTED: function 17 (cupelref23_Machine_Step)
-- NOT PRINTED: function 19 (cupelref23_Machine_Behaviour)
-- NOT PRINTED: function 10 (cupelref23_Run)
end Go.Proofs.YtekhnkpjeofdpaaDoor.A
