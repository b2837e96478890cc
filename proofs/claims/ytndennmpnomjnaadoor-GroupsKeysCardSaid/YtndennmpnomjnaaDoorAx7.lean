/- Written by wip/tools/xprint.py, a program of this session that drives the kit's printer. Not trusted: Lean checks it. -/
import Derived.Test.YtndennmpnomjnaaDoorAx0
import Derived.Test.YtndennmpnomjnaaDoorAx6
set_option linter.all false
set_option maxHeartbeats 8000000
set_option maxRecDepth 100000
namespace Go.Proofs.YtndennmpnomjnaaDoor.A
open Go.RowKit Go.Proofs.YtndennmpnomjnaaDoorW.PrintWords Go.Proofs.YtndennmpnomjnaaDoorW.PrintLast Go.Proofs.YtndennmpnomjnaaDoorW.PrintMore
attribute [local go_sem] max2_int min2_int max_two min_two max_three min_three max_four min_four   -- for this text's walks alone
set_option linter.unusedVariables false
set_option linter.unusedSimpArgs false
theorem bsz1 (a : UInt8) : (ByteArray.mk #[a]).size = 1 := rfl
theorem bsz2 (a b : UInt8) : (ByteArray.mk #[a, b]).size = 2 := rfl
theorem bsz3 (a b c : UInt8) : (ByteArray.mk #[a, b, c]).size = 3 := rfl
theorem bsz4 (a b c d : UInt8) : (ByteArray.mk #[a, b, c, d]).size = 4 := rfl
theorem bsz5 (a b c d e : UInt8) : (ByteArray.mk #[a, b, c, d, e]).size = 5 := rfl
theorem bsz6 (a b c d e f : UInt8) : (ByteArray.mk #[a, b, c, d, e, f]).size = 6 := rfl
/-! ### cupelref35_part: function 30 -/
def cupelref35_part.f (k : Nat) (l0 : List (S45)) (a1_0 : Int) (a1_1 : Int) (a1_2 : Int) (a1_3 : Int) : Option (ByteArray) := if 0 ≤ a1_0 then (if a1_0 < (l0.length : Int) then (if 0 ≤ a1_1 then (if a1_1 < (l0.length : Int) then ((cupelref35_Bare.f k ((rd_T45 l0 a1_0).f0)).bind fun t231 => (if t231.size + 2 ≤ 9223372036854775807 then ((cupelref35_Bare.f k ((rd_T45 l0 a1_1).f0)).bind fun t232 => (if (t231 ++ (⟨#[44, 32]⟩ : ByteArray)).size + t232.size ≤ 9223372036854775807 then (if ((t231 ++ (⟨#[44, 32]⟩ : ByteArray)) ++ t232).size + 2 ≤ 9223372036854775807 then (if a1_2 = 1 then (if (((t231 ++ (⟨#[44, 32]⟩ : ByteArray)) ++ t232) ++ (⟨#[58, 32]⟩ : ByteArray)).size + 3 ≤ 9223372036854775807 then (some ((((t231 ++ (⟨#[44, 32]⟩ : ByteArray)) ++ t232) ++ (⟨#[58, 32]⟩ : ByteArray)) ++ (⟨#[111, 117, 116]⟩ : ByteArray))) else (none)) else (if a1_2 = 2 then (if (((t231 ++ (⟨#[44, 32]⟩ : ByteArray)) ++ t232) ++ (⟨#[58, 32]⟩ : ByteArray)).size + 4 ≤ 9223372036854775807 then (some ((((t231 ++ (⟨#[44, 32]⟩ : ByteArray)) ++ t232) ++ (⟨#[58, 32]⟩ : ByteArray)) ++ (⟨#[109, 111, 114, 101]⟩ : ByteArray))) else (none)) else (if a1_2 = 3 then (if (((t231 ++ (⟨#[44, 32]⟩ : ByteArray)) ++ t232) ++ (⟨#[58, 32]⟩ : ByteArray)).size + 4 ≤ 9223372036854775807 then ((cupelref35_end.f k ((rd_T45 l0 a1_0).f1.f0) ((rd_T45 l0 a1_0).f1.f1) ((rd_T45 l0 a1_0).f1.f2)).bind fun t233 => (if ((((t231 ++ (⟨#[44, 32]⟩ : ByteArray)) ++ t232) ++ (⟨#[58, 32]⟩ : ByteArray)) ++ (⟨#[101, 110, 100, 32]⟩ : ByteArray)).size + t233.size ≤ 9223372036854775807 then (if (((((t231 ++ (⟨#[44, 32]⟩ : ByteArray)) ++ t232) ++ (⟨#[58, 32]⟩ : ByteArray)) ++ (⟨#[101, 110, 100, 32]⟩ : ByteArray)) ++ t233).size + 3 ≤ 9223372036854775807 then ((cupelref35_end.f k ((rd_T45 l0 a1_1).f1.f0) ((rd_T45 l0 a1_1).f1.f1) ((rd_T45 l0 a1_1).f1.f2)).bind fun t234 => (if ((((((t231 ++ (⟨#[44, 32]⟩ : ByteArray)) ++ t232) ++ (⟨#[58, 32]⟩ : ByteArray)) ++ (⟨#[101, 110, 100, 32]⟩ : ByteArray)) ++ t233) ++ (⟨#[32, 47, 32]⟩ : ByteArray)).size + t234.size ≤ 9223372036854775807 then (some (((((((t231 ++ (⟨#[44, 32]⟩ : ByteArray)) ++ t232) ++ (⟨#[58, 32]⟩ : ByteArray)) ++ (⟨#[101, 110, 100, 32]⟩ : ByteArray)) ++ t233) ++ (⟨#[32, 47, 32]⟩ : ByteArray)) ++ t234)) else (none))) else (none)) else (none))) else (none)) else (if (((t231 ++ (⟨#[44, 32]⟩ : ByteArray)) ++ t232) ++ (⟨#[58, 32]⟩ : ByteArray)).size + 5 ≤ 9223372036854775807 then ((cupelref35_end.f k ((rd_T45 l0 a1_0).f1.f0) ((rd_T45 l0 a1_0).f1.f1) ((rd_T45 l0 a1_0).f1.f2)).bind fun t235 => (if ((((t231 ++ (⟨#[44, 32]⟩ : ByteArray)) ++ t232) ++ (⟨#[58, 32]⟩ : ByteArray)) ++ (⟨#[99, 111, 100, 101, 32]⟩ : ByteArray)).size + t235.size ≤ 9223372036854775807 then (if (((((t231 ++ (⟨#[44, 32]⟩ : ByteArray)) ++ t232) ++ (⟨#[58, 32]⟩ : ByteArray)) ++ (⟨#[99, 111, 100, 101, 32]⟩ : ByteArray)) ++ t235).size + 3 ≤ 9223372036854775807 then ((cupelref35_end.f k ((rd_T45 l0 a1_1).f1.f0) ((rd_T45 l0 a1_1).f1.f1) ((rd_T45 l0 a1_1).f1.f2)).bind fun t236 => (if ((((((t231 ++ (⟨#[44, 32]⟩ : ByteArray)) ++ t232) ++ (⟨#[58, 32]⟩ : ByteArray)) ++ (⟨#[99, 111, 100, 101, 32]⟩ : ByteArray)) ++ t235) ++ (⟨#[32, 47, 32]⟩ : ByteArray)).size + t236.size ≤ 9223372036854775807 then (some (((((((t231 ++ (⟨#[44, 32]⟩ : ByteArray)) ++ t232) ++ (⟨#[58, 32]⟩ : ByteArray)) ++ (⟨#[99, 111, 100, 101, 32]⟩ : ByteArray)) ++ t235) ++ (⟨#[32, 47, 32]⟩ : ByteArray)) ++ t236)) else (none))) else (none)) else (none))) else (none))))) else (none)) else (none))) else (none))) else (none)) else (none)) else (none)) else (none)
theorem cupelref35_part.mono : ∀ a0 a1 a2 a3 a4 k, LeO (cupelref35_part.f k a0 a1 a2 a3 a4) (cupelref35_part.f (k + 1) a0 a1 a2 a3 a4) := by
 intro a0 a1 a2 a3 a4 k
 unfold cupelref35_part.f
 repeat' first
   | (with_reducible exact cupelref35_Bare.mono _ _)
   | (with_reducible exact cupelref35_end.mono _ _ _ _)
   | (with_reducible exact LeO.refl _)
   | (with_reducible exact LeO.none _)
   | (with_reducible refine LeO.ite ?_ ?_)
   | (with_reducible refine LeO.bind ?_ (fun _ => ?_))
   | exact LeO.none _
   | refine LeO.ite ?_ ?_
   | refine LeO.bind ?_ (fun _ => ?_)
def cupelref35_part.T1 : Bool × List (List Nat × List Nat) := (true, [([], []), ([], []), ([1], [1]), ([0, 2], [0, 2]), ([3], [3]), ([], []), ([], []), ([6], [6]), ([5, 7], [5, 7]), ([8], [8]), ([], []), ([], []), ([10, 4, 0, 1, 2, 3, 4, 10, 11], [4, 10]), ([11, 9, 12, 0, 1, 2, 3, 4, 5, 6, 7, 8, 9, 10, 11, 12], [9, 11])])
def cupelref35_part.B1 : List Nat := [0, 0, 2, 7, 15, 0, 0, 64, 224, 480, 0, 0, 3103, 8191]
theorem cupelref35_part.tab1 : rtab .any (opsOf Tryd.f30 1) = cupelref35_part.T1 := by kernel_rfl
theorem cupelref35_part.bits1 : waitsOk cupelref35_part.T1.2 cupelref35_part.B1 = true := by kernel_rfl
def cupelref35_part.T2 : Bool × List (List Nat × List Nat) := (true, [([], []), ([0], [0]), ([1], [1]), ([2], [2]), ([], []), ([4], [4]), ([5, 2], [5]), ([3, 6], [3, 6]), ([7], [7]), ([8, 6, 0, 1, 2, 3, 4, 5, 6, 7, 8], [8])])
def cupelref35_part.B2 : List Nat := [0, 1, 3, 7, 0, 16, 55, 127, 255, 511]
theorem cupelref35_part.tab2 : rtab .any (opsOf Tryd.f30 2) = cupelref35_part.T2 := by kernel_rfl
theorem cupelref35_part.bits2 : waitsOk cupelref35_part.T2.2 cupelref35_part.B2 = true := by kernel_rfl
def cupelref35_part.T11 : Bool × List (List Nat × List Nat) := (true, [([], []), ([], []), ([1], [1]), ([2], [2]), ([0, 3], [0, 3]), ([4], [4]), ([], []), ([6], [6]), ([7, 3], [7]), ([5, 8], [5, 8]), ([9, 8, 0, 1, 2, 3, 4, 5, 6, 7, 8, 9], [9])])
def cupelref35_part.B11 : List Nat := [0, 0, 2, 6, 15, 31, 0, 64, 206, 511, 1023]
theorem cupelref35_part.tab11 : rtab .any (opsOf Tryd.f30 11) = cupelref35_part.T11 := by kernel_rfl
theorem cupelref35_part.bits11 : waitsOk cupelref35_part.T11.2 cupelref35_part.B11 = true := by kernel_rfl
theorem cupelref35_part.calls (k : Nat) (A0 : Option Addr) (c0 : Nat) (l0 : List (S45)) (a1_0 : Int) (a1_1 : Int) (a1_2 : Int) (a1_3 : Int) (r : ByteArray) (w : World) (hr0 : Kd.C k45 w A0 l0.length l0) (hc0 : l0.length ≤ c0) (h : cupelref35_part.f k l0 a1_0 a1_1 a1_2 a1_3 = some r) :
  Calls Tryd.prog 30 #[.slice A0 l0.length c0, .agg #[.int .i64 a1_0, .int .i64 a1_1, .int .i64 a1_2, .int .i64 a1_3]] w fun e w' => e = .returned (.string r) ∧ Below w.heap.size w w' := by
 have hu57 := Tryd.underlying57
 have hu45 := Tryd.underlying45
 have hu43 := Tryd.underlying43
 have HR0 := Aside0.mk hr0
 have HC0 := Aside0.mk hc0
 clear hr0 hc0
 have HB := Aside0.mk (Below.refl w.heap.size w)
 have H : (if 0 ≤ a1_0 then (if a1_0 < (l0.length : Int) then (if 0 ≤ a1_1 then (if a1_1 < (l0.length : Int) then ((cupelref35_Bare.f k ((rd_T45 l0 a1_0).f0)).bind fun t231 => (if t231.size + 2 ≤ 9223372036854775807 then ((cupelref35_Bare.f k ((rd_T45 l0 a1_1).f0)).bind fun t232 => (if (t231 ++ (⟨#[44, 32]⟩ : ByteArray)).size + t232.size ≤ 9223372036854775807 then (if ((t231 ++ (⟨#[44, 32]⟩ : ByteArray)) ++ t232).size + 2 ≤ 9223372036854775807 then (if a1_2 = 1 then (if (((t231 ++ (⟨#[44, 32]⟩ : ByteArray)) ++ t232) ++ (⟨#[58, 32]⟩ : ByteArray)).size + 3 ≤ 9223372036854775807 then (some ((((t231 ++ (⟨#[44, 32]⟩ : ByteArray)) ++ t232) ++ (⟨#[58, 32]⟩ : ByteArray)) ++ (⟨#[111, 117, 116]⟩ : ByteArray))) else (none)) else (if a1_2 = 2 then (if (((t231 ++ (⟨#[44, 32]⟩ : ByteArray)) ++ t232) ++ (⟨#[58, 32]⟩ : ByteArray)).size + 4 ≤ 9223372036854775807 then (some ((((t231 ++ (⟨#[44, 32]⟩ : ByteArray)) ++ t232) ++ (⟨#[58, 32]⟩ : ByteArray)) ++ (⟨#[109, 111, 114, 101]⟩ : ByteArray))) else (none)) else (if a1_2 = 3 then (if (((t231 ++ (⟨#[44, 32]⟩ : ByteArray)) ++ t232) ++ (⟨#[58, 32]⟩ : ByteArray)).size + 4 ≤ 9223372036854775807 then ((cupelref35_end.f k ((rd_T45 l0 a1_0).f1.f0) ((rd_T45 l0 a1_0).f1.f1) ((rd_T45 l0 a1_0).f1.f2)).bind fun t233 => (if ((((t231 ++ (⟨#[44, 32]⟩ : ByteArray)) ++ t232) ++ (⟨#[58, 32]⟩ : ByteArray)) ++ (⟨#[101, 110, 100, 32]⟩ : ByteArray)).size + t233.size ≤ 9223372036854775807 then (if (((((t231 ++ (⟨#[44, 32]⟩ : ByteArray)) ++ t232) ++ (⟨#[58, 32]⟩ : ByteArray)) ++ (⟨#[101, 110, 100, 32]⟩ : ByteArray)) ++ t233).size + 3 ≤ 9223372036854775807 then ((cupelref35_end.f k ((rd_T45 l0 a1_1).f1.f0) ((rd_T45 l0 a1_1).f1.f1) ((rd_T45 l0 a1_1).f1.f2)).bind fun t234 => (if ((((((t231 ++ (⟨#[44, 32]⟩ : ByteArray)) ++ t232) ++ (⟨#[58, 32]⟩ : ByteArray)) ++ (⟨#[101, 110, 100, 32]⟩ : ByteArray)) ++ t233) ++ (⟨#[32, 47, 32]⟩ : ByteArray)).size + t234.size ≤ 9223372036854775807 then (some (((((((t231 ++ (⟨#[44, 32]⟩ : ByteArray)) ++ t232) ++ (⟨#[58, 32]⟩ : ByteArray)) ++ (⟨#[101, 110, 100, 32]⟩ : ByteArray)) ++ t233) ++ (⟨#[32, 47, 32]⟩ : ByteArray)) ++ t234)) else (none))) else (none)) else (none))) else (none)) else (if (((t231 ++ (⟨#[44, 32]⟩ : ByteArray)) ++ t232) ++ (⟨#[58, 32]⟩ : ByteArray)).size + 5 ≤ 9223372036854775807 then ((cupelref35_end.f k ((rd_T45 l0 a1_0).f1.f0) ((rd_T45 l0 a1_0).f1.f1) ((rd_T45 l0 a1_0).f1.f2)).bind fun t235 => (if ((((t231 ++ (⟨#[44, 32]⟩ : ByteArray)) ++ t232) ++ (⟨#[58, 32]⟩ : ByteArray)) ++ (⟨#[99, 111, 100, 101, 32]⟩ : ByteArray)).size + t235.size ≤ 9223372036854775807 then (if (((((t231 ++ (⟨#[44, 32]⟩ : ByteArray)) ++ t232) ++ (⟨#[58, 32]⟩ : ByteArray)) ++ (⟨#[99, 111, 100, 101, 32]⟩ : ByteArray)) ++ t235).size + 3 ≤ 9223372036854775807 then ((cupelref35_end.f k ((rd_T45 l0 a1_1).f1.f0) ((rd_T45 l0 a1_1).f1.f1) ((rd_T45 l0 a1_1).f1.f2)).bind fun t236 => (if ((((((t231 ++ (⟨#[44, 32]⟩ : ByteArray)) ++ t232) ++ (⟨#[58, 32]⟩ : ByteArray)) ++ (⟨#[99, 111, 100, 101, 32]⟩ : ByteArray)) ++ t235) ++ (⟨#[32, 47, 32]⟩ : ByteArray)).size + t236.size ≤ 9223372036854775807 then (some (((((((t231 ++ (⟨#[44, 32]⟩ : ByteArray)) ++ t232) ++ (⟨#[58, 32]⟩ : ByteArray)) ++ (⟨#[99, 111, 100, 101, 32]⟩ : ByteArray)) ++ t235) ++ (⟨#[32, 47, 32]⟩ : ByteArray)) ++ t236)) else (none))) else (none)) else (none))) else (none))))) else (none)) else (none))) else (none))) else (none)) else (none)) else (none)) else (none)) = some r := h
 clear h
 by_cases c3 : 0 ≤ a1_0
 ·rw [if_pos c3] at H
  have c3b0 : decide (0 ≤ a1_0) = true := decide_eq_true c3
  clear c3
  by_cases c4 : a1_0 < (l0.length : Int)
  ·rw [if_pos c4] at H
   have c4b0 : decide (a1_0 < (l0.length : Int)) = true := decide_eq_true c4
   clear c4
   by_cases c5 : 0 ≤ a1_1
   ·rw [if_pos c5] at H
    have c5b0 : decide (0 ≤ a1_1) = true := decide_eq_true c5
    clear c5
    by_cases c6 : a1_1 < (l0.length : Int)
    ·rw [if_pos c6] at H
     have c6b0 : decide (a1_1 < (l0.length : Int)) = true := decide_eq_true c6
     clear c6
     obtain ⟨t231, A7, H⟩ := bsA_ H
     try dsimp only at H
     by_cases c8 : t231.size + 2 ≤ 9223372036854775807
     ·rw [if_pos c8] at H
      have c8b0 := eq_true c8
      have c8b1 : decide (t231.size + 2 ≤ 9223372036854775807) = true := decide_eq_true c8
      try have c8b2 : (9223372036854775807 < t231.size + 2) = False := eq_false (Nat.not_lt.2 c8)
      have c8b3 := c8b2
      try simp only [ByteArray.size_append, bsz1, bsz2, bsz3, bsz4, bsz5, bsz6] at c8b3
      obtain ⟨t232, A9, H⟩ := bsA_ H
      try dsimp only at H
      by_cases c10 : (t231 ++ (⟨#[44, 32]⟩ : ByteArray)).size + t232.size ≤ 9223372036854775807
      ·rw [if_pos c10] at H
       have c10b0 := eq_true c10
       have c10b1 : decide ((t231 ++ (⟨#[44, 32]⟩ : ByteArray)).size + t232.size ≤ 9223372036854775807) = true := decide_eq_true c10
       try have c10b2 : (9223372036854775807 < (t231 ++ (⟨#[44, 32]⟩ : ByteArray)).size + t232.size) = False := eq_false (Nat.not_lt.2 c10)
       have c10b3 := c10b2
       try simp only [ByteArray.size_append, bsz1, bsz2, bsz3, bsz4, bsz5, bsz6] at c10b3
       by_cases c11 : ((t231 ++ (⟨#[44, 32]⟩ : ByteArray)) ++ t232).size + 2 ≤ 9223372036854775807
       ·rw [if_pos c11] at H
        have c11b0 := eq_true c11
        have c11b1 : decide (((t231 ++ (⟨#[44, 32]⟩ : ByteArray)) ++ t232).size + 2 ≤ 9223372036854775807) = true := decide_eq_true c11
        try have c11b2 : (9223372036854775807 < ((t231 ++ (⟨#[44, 32]⟩ : ByteArray)) ++ t232).size + 2) = False := eq_false (Nat.not_lt.2 c11)
        have c11b3 := c11b2
        try simp only [ByteArray.size_append, bsz1, bsz2, bsz3, bsz4, bsz5, bsz6] at c11b3
        by_cases c12 : a1_2 = 1
        ·rw [if_pos c12] at H
         have c12b0 : (a1_2 == 1) = true := beq_iff_eq.mpr c12
         have c12b1 : (a1_2 != 1) = false := bne_eq_false_iff_eq.mpr c12
         clear c12
         by_cases c13 : (((t231 ++ (⟨#[44, 32]⟩ : ByteArray)) ++ t232) ++ (⟨#[58, 32]⟩ : ByteArray)).size + 3 ≤ 9223372036854775807
         ·rw [if_pos c13] at H
          have c13b0 := eq_true c13
          have c13b1 : decide ((((t231 ++ (⟨#[44, 32]⟩ : ByteArray)) ++ t232) ++ (⟨#[58, 32]⟩ : ByteArray)).size + 3 ≤ 9223372036854775807) = true := decide_eq_true c13
          try have c13b2 : (9223372036854775807 < (((t231 ++ (⟨#[44, 32]⟩ : ByteArray)) ++ t232) ++ (⟨#[58, 32]⟩ : ByteArray)).size + 3) = False := eq_false (Nat.not_lt.2 c13)
          have c13b3 := c13b2
          try simp only [ByteArray.size_append, bsz1, bsz2, bsz3, bsz4, bsz5, bsz6] at c13b3
          obtain rfl := Option.some.inj H
          go_enter Tryd.func30, Tryd.ntmps30
          try go_wp2_with (first | ((with_reducible refine gate_dst (N := 3) rfl ?_); refine box_event ?hg (N := 3) ?hd (cs := #[.int .i64 a1_0, .int .i64 a1_1, .int .i64 a1_2, .int .i64 a1_3]) (t := 57) ?hr ?_; (case hd => rfl); (case hg => rfl); (case hr => exact ts19_); intro gb226 hg w14 hbox hb; have BK226 := Aside0.mk (hbox); have GW226 := Aside0.mk ((ts47_ HB.out : w.heap.size ≤ gb226)); have GE226 := Aside0.mk ((ts47_ HB.out : w.heap.size ≤ gb226)); replace HB := Aside0.mk (below_step (ts41_ HB.out) hb); clear hb hbox hg))
          have n0_ := Aside0.mk (blk_drew BK226.out)
          have n1_ := Aside0.mk (below_drew1 HB.out)
          clear BK226
          clear HB
          have BK226 := n0_
          have HB := n1_
          clear n0_ n1_
          have p227 : 0 ≤ (a1_0 : Int) := of_decide_eq_true ts30_
          have q227 : a1_0 < (l0.length : Int) := of_decide_eq_true ts30_
          obtain ⟨ad227, A227_1, c227_1, e227, hx227_0, hx227_1, hx227_2, hx227_3, hl227_1, hi227_1⟩ := at_T45 HR0.out a1_0 p227 q227
          have hw227_3 := hx227_3
          have hw227_2 := hx227_2
          have hw227_1 := hx227_1
          have hw227_0 := hx227_0
          cases e227
          replace hx227_0 := (HB.out.cell (World.block_lt_of_cell? w _ hx227_0)).trans hx227_0
          replace hx227_1 := (HB.out.cell (World.block_lt_of_cell? w _ hx227_1)).trans hx227_1
          replace hx227_2 := (HB.out.cell (World.block_lt_of_cell? w _ hx227_2)).trans hx227_2
          replace hx227_3 := (HB.out.cell (World.block_lt_of_cell? w _ hx227_3)).trans hx227_3
          have HR227_1 := Aside0.mk hi227_1
          have HC227_1 := Aside0.mk hl227_1
          clear hi227_1 hl227_1
          replace p227 := eq_true p227
          replace q227 := eq_true q227
          have p228 : 0 ≤ (a1_1 : Int) := of_decide_eq_true ts30_
          have q228 : a1_1 < (l0.length : Int) := of_decide_eq_true ts30_
          obtain ⟨ad228, A228_1, c228_1, e228, hx228_0, hx228_1, hx228_2, hx228_3, hl228_1, hi228_1⟩ := at_T45 HR0.out a1_1 p228 q228
          have hw228_3 := hx228_3
          have hw228_2 := hx228_2
          have hw228_1 := hx228_1
          have hw228_0 := hx228_0
          obtain rfl : ad227 = ad228 := (by injection e228)
          replace hx228_0 := (HB.out.cell (World.block_lt_of_cell? w _ hx228_0)).trans hx228_0
          replace hx228_1 := (HB.out.cell (World.block_lt_of_cell? w _ hx228_1)).trans hx228_1
          replace hx228_2 := (HB.out.cell (World.block_lt_of_cell? w _ hx228_2)).trans hx228_2
          replace hx228_3 := (HB.out.cell (World.block_lt_of_cell? w _ hx228_3)).trans hx228_3
          have HR228_1 := Aside0.mk hi228_1
          have HC228_1 := Aside0.mk hl228_1
          clear hi228_1 hl228_1
          replace p228 := eq_true p228
          replace q228 := eq_true q228
          refine start_ (n := 14) (S := fun w' => w'.cell? ⟨gb226, 0, none⟩ = some (.int .i64 a1_0) ∧ w'.cell? ⟨gb226, 1, none⟩ = some (.int .i64 a1_1) ∧ w'.cell? ⟨gb226, 2, none⟩ = some (.int .i64 a1_2) ∧ w'.cell? ⟨gb226, 3, none⟩ = some (.int .i64 a1_3) ∧ w'.cell? (ad227.add ((a1_0).toNat * 4)) = some (.string ((rd_T45 l0 a1_0).f0)) ∧ w'.cell? ⟨(ad227.add ((a1_0).toNat * 4)).block, (ad227.add ((a1_0).toNat * 4)).off + 1, none⟩ = some (.slice A227_1 ((rd_T45 l0 a1_0).f1.f0).length c227_1) ∧ w'.cell? ⟨(ad227.add ((a1_0).toNat * 4)).block, (ad227.add ((a1_0).toNat * 4)).off + 2, none⟩ = some (.int .i64 ((rd_T45 l0 a1_0).f1.f1)) ∧ w'.cell? ⟨(ad227.add ((a1_0).toNat * 4)).block, (ad227.add ((a1_0).toNat * 4)).off + 3, none⟩ = some (.int .i64 ((rd_T45 l0 a1_0).f1.f2)) ∧ w'.cell? (ad227.add ((a1_1).toNat * 4)) = some (.string ((rd_T45 l0 a1_1).f0)) ∧ w'.cell? ⟨(ad227.add ((a1_1).toNat * 4)).block, (ad227.add ((a1_1).toNat * 4)).off + 1, none⟩ = some (.slice A228_1 ((rd_T45 l0 a1_1).f1.f0).length c228_1) ∧ w'.cell? ⟨(ad227.add ((a1_1).toNat * 4)).block, (ad227.add ((a1_1).toNat * 4)).off + 2, none⟩ = some (.int .i64 ((rd_T45 l0 a1_1).f1.f1)) ∧ w'.cell? ⟨(ad227.add ((a1_1).toNat * 4)).block, (ad227.add ((a1_1).toNat * 4)).off + 3, none⟩ = some (.int .i64 ((rd_T45 l0 a1_1).f1.f2))) (ds := []) #[false, false, false, false, false, false, false, false, false, false, false, false, false, false] (by kernel_rfl) rfl rfl ⟨(blk_cell BK226.out 0).trans rfl, (blk_cell BK226.out 1).trans rfl, (blk_cell BK226.out 2).trans rfl, (blk_cell BK226.out 3).trans rfl, ((HB.out.cell (World.block_lt_of_cell? w _ hw227_0)).trans hw227_0), ((HB.out.cell (World.block_lt_of_cell? w _ hw227_1)).trans hw227_1), ((HB.out.cell (World.block_lt_of_cell? w _ hw227_2)).trans hw227_2), ((HB.out.cell (World.block_lt_of_cell? w _ hw227_3)).trans hw227_3), ((HB.out.cell (World.block_lt_of_cell? w _ hw228_0)).trans hw228_0), ((HB.out.cell (World.block_lt_of_cell? w _ hw228_1)).trans hw228_1), ((HB.out.cell (World.block_lt_of_cell? w _ hw228_2)).trans hw228_2), ((HB.out.cell (World.block_lt_of_cell? w _ hw228_3)).trans hw228_3)⟩ (fun hHeld => ?_); refine with_tabW cupelref35_part.tab1 cupelref35_part.bits1 (fun HT_ HW_ => ?_)
          generalize w14.drew = w15 at BK226 HB HR227_1 HR228_1 hx227_0 hx227_1 hx227_2 hx227_3 hx228_0 hx228_1 hx228_2 hx228_3 hHeld ⊢
          refine pure_ (i := 0) (N := some 8) (v := ?_) (a' := ?_) #[true, false, false, false, false, false, false, false, false, false, false, false, false, false] rfl rfl (any_of HT_.out (by kernel_rfl)) (fun _ _ _ h => h) (Or.inl ⟨by rfl, ?_⟩) ?_ ?_
          rotate_left
          ·intro w'
           go_simp
           with_reducible rfl
          rotate_left
          ·simp only [Act.put, List.setIfInBounds_toArray, List.set_cons_zero, List.set_cons_succ, i64_w, i32_w]
           rfl
          refine pure_ (i := 1) (N := some 9) (v := ?_) (a' := ?_) #[true, true, false, false, false, false, false, false, false, false, false, false, false, false] rfl rfl (any_of HT_.out (by kernel_rfl)) (fun _ _ _ h => h) (Or.inl ⟨by rfl, ?_⟩) ?_ ?_
          rotate_left
          ·intro w'
           go_simp
           with_reducible rfl
          rotate_left
          ·simp only [Act.put, List.setIfInBounds_toArray, List.set_cons_zero, List.set_cons_succ, i64_w, i32_w]
           rfl
          refine pure_ (i := 5) (N := some 13) (v := ?_) (a' := ?_) #[true, true, false, false, false, true, false, false, false, false, false, false, false, false] rfl rfl (any_of HT_.out (by kernel_rfl)) (fun _ _ _ h => h) (Or.inl ⟨by rfl, ?_⟩) ?_ ?_
          rotate_left
          ·intro w'
           go_simp
           with_reducible rfl
          rotate_left
          ·simp only [Act.put, List.setIfInBounds_toArray, List.set_cons_zero, List.set_cons_succ, i64_w, i32_w]
           rfl
          refine pure_ (i := 6) (N := some 14) (v := ?_) (a' := ?_) #[true, true, false, false, false, true, true, false, false, false, false, false, false, false] rfl rfl (any_of HT_.out (by kernel_rfl)) (fun _ _ _ h => h) (Or.inl ⟨by rfl, ?_⟩) ?_ ?_
          rotate_left
          ·intro w'
           go_simp
           with_reducible rfl
          rotate_left
          ·simp only [Act.put, List.setIfInBounds_toArray, List.set_cons_zero, List.set_cons_succ, i64_w, i32_w]
           rfl
          refine take_ (i := 2) (N := some 10) (v := ?_) (a' := ?_) #[true, true, true, false, false, true, true, false, false, false, false, false, false, false] rfl rfl (take_ofW HT_.out HW_.out (by kernel_rfl)) (fun _ _ _ h => h) (Or.inl ⟨by rfl, ?_⟩) hHeld ?_ ?_
          rotate_left
          ·rintro w' ⟨s0, s1, s2, s3, s4, s5, s6, s7, s8, s9, s10, s11⟩
           go_simp
           with_reducible rfl
          rotate_left
          ·simp only [Act.put, List.setIfInBounds_toArray, List.set_cons_zero, List.set_cons_succ, i64_w, i32_w]
           rfl
          refine pure_ (i := 3) (N := some 11) (v := ?_) (a' := ?_) #[true, true, true, true, false, true, true, false, false, false, false, false, false, false] rfl rfl (any_of HT_.out (by kernel_rfl)) (fun _ _ _ h => h) (Or.inl ⟨by rfl, ?_⟩) ?_ ?_
          rotate_left
          ·intro w'
           go_simp
           with_reducible rfl
          rotate_left
          ·simp only [Act.put, List.setIfInBounds_toArray, List.set_cons_zero, List.set_cons_succ, i64_w, i32_w]
           rfl
          refine take_ (i := 4) (N := some 12) (v := ?_) (a' := ?_) #[true, true, true, true, true, true, true, false, false, false, false, false, false, false] rfl rfl (take_ofW HT_.out HW_.out (by kernel_rfl)) (fun _ _ _ h => h) (Or.inl ⟨by rfl, ?_⟩) hHeld ?_ ?_
          rotate_left
          ·rintro w' ⟨s0, s1, s2, s3, s4, s5, s6, s7, s8, s9, s10, s11⟩
           go_simp
           with_reducible rfl
          rotate_left
          ·simp only [Act.put, List.setIfInBounds_toArray, List.set_cons_zero, List.set_cons_succ, i64_w, i32_w]
           rfl
          refine take_ (i := 7) (N := some 15) (v := ?_) (a' := ?_) #[true, true, true, true, true, true, true, true, false, false, false, false, false, false] rfl rfl (take_ofW HT_.out HW_.out (by kernel_rfl)) (fun _ _ _ h => h) (Or.inl ⟨by rfl, ?_⟩) hHeld ?_ ?_
          rotate_left
          ·rintro w' ⟨s0, s1, s2, s3, s4, s5, s6, s7, s8, s9, s10, s11⟩
           go_simp
           with_reducible rfl
          rotate_left
          ·simp only [Act.put, List.setIfInBounds_toArray, List.set_cons_zero, List.set_cons_succ, i64_w, i32_w]
           rfl
          refine pure_ (i := 8) (N := some 16) (v := ?_) (a' := ?_) #[true, true, true, true, true, true, true, true, true, false, false, false, false, false] rfl rfl (any_of HT_.out (by kernel_rfl)) (fun _ _ _ h => h) (Or.inl ⟨by rfl, ?_⟩) ?_ ?_
          rotate_left
          ·intro w'
           go_simp
           with_reducible rfl
          rotate_left
          ·simp only [Act.put, List.setIfInBounds_toArray, List.set_cons_zero, List.set_cons_succ, i64_w, i32_w]
           rfl
          refine take_ (i := 9) (N := some 17) (v := ?_) (a' := ?_) #[true, true, true, true, true, true, true, true, true, true, false, false, false, false] rfl rfl (take_ofW HT_.out HW_.out (by kernel_rfl)) (fun _ _ _ h => h) (Or.inl ⟨by rfl, ?_⟩) hHeld ?_ ?_
          rotate_left
          ·rintro w' ⟨s0, s1, s2, s3, s4, s5, s6, s7, s8, s9, s10, s11⟩
           go_simp
           with_reducible rfl
          rotate_left
          ·simp only [Act.put, List.setIfInBounds_toArray, List.set_cons_zero, List.set_cons_succ, i64_w, i32_w]
           rfl
          refine join_ (σ := Nat × Nat) 2 #[true, true, true, true, true, true, true, true, true, true, true, true, false, false] (fun s_ => [(5, .pointer (some ⟨s_.1, 0, none⟩)), (6, .pointer (some ⟨s_.2, 0, none⟩))]) (fun s_ w' => (w'.cell? ⟨gb226, 0, none⟩ = some (.int .i64 a1_0) ∧ w'.cell? ⟨gb226, 1, none⟩ = some (.int .i64 a1_1) ∧ w'.cell? ⟨gb226, 2, none⟩ = some (.int .i64 a1_2) ∧ w'.cell? ⟨gb226, 3, none⟩ = some (.int .i64 a1_3) ∧ w'.cell? (ad227.add ((a1_0).toNat * 4)) = some (.string ((rd_T45 l0 a1_0).f0)) ∧ w'.cell? ⟨(ad227.add ((a1_0).toNat * 4)).block, (ad227.add ((a1_0).toNat * 4)).off + 1, none⟩ = some (.slice A227_1 ((rd_T45 l0 a1_0).f1.f0).length c227_1) ∧ w'.cell? ⟨(ad227.add ((a1_0).toNat * 4)).block, (ad227.add ((a1_0).toNat * 4)).off + 2, none⟩ = some (.int .i64 ((rd_T45 l0 a1_0).f1.f1)) ∧ w'.cell? ⟨(ad227.add ((a1_0).toNat * 4)).block, (ad227.add ((a1_0).toNat * 4)).off + 3, none⟩ = some (.int .i64 ((rd_T45 l0 a1_0).f1.f2)) ∧ w'.cell? (ad227.add ((a1_1).toNat * 4)) = some (.string ((rd_T45 l0 a1_1).f0)) ∧ w'.cell? ⟨(ad227.add ((a1_1).toNat * 4)).block, (ad227.add ((a1_1).toNat * 4)).off + 1, none⟩ = some (.slice A228_1 ((rd_T45 l0 a1_1).f1.f0).length c228_1) ∧ w'.cell? ⟨(ad227.add ((a1_1).toNat * 4)).block, (ad227.add ((a1_1).toNat * 4)).off + 2, none⟩ = some (.int .i64 ((rd_T45 l0 a1_1).f1.f1)) ∧ w'.cell? ⟨(ad227.add ((a1_1).toNat * 4)).block, (ad227.add ((a1_1).toNat * 4)).off + 3, none⟩ = some (.int .i64 ((rd_T45 l0 a1_1).f1.f2))) ∧ (w'.heap[gb226]? = some (.cells #[.int .i64 a1_0, .int .i64 a1_1, .int .i64 a1_2, .int .i64 a1_3] 57 (0, 0))) ∧ (w'.heap[s_.1]? = some (.cells #[.string (⟨#[]⟩ : ByteArray), .slice none 0 0, .int .i64 0, .int .i64 0] 45 (0, 0))) ∧ (w'.heap[s_.2]? = some (.cells #[.string (⟨#[]⟩ : ByteArray), .slice none 0 0, .int .i64 0, .int .i64 0] 45 (0, 0))) ∧ (w.heap.size ≤ s_.1) ∧ (w.heap.size ≤ s_.1) ∧ (gb226 ≠ s_.1) ∧ (s_.1 ≠ gb226) ∧ (s_.2 ≠ s_.1) ∧ (s_.1 ≠ s_.2) ∧ (w.heap.size ≤ s_.2) ∧ (w.heap.size ≤ s_.2) ∧ (gb226 ≠ s_.2) ∧ (s_.2 ≠ gb226) ∧ (Below w.heap.size w w')) ?_ ?_
          rotate_left
          ·intro hCont
           refine two_ (i := 10) (j := 11) (Ni := some 5) (Nj := some 6) #[true, true, true, true, true, true, true, true, true, true, true, false, false, false] #[true, true, true, true, true, true, true, true, true, true, false, true, false, false] rfl rfl rfl rfl (two_of HT_.out (by kernel_rfl)) (by decide) (by decide) (fun K hK => ?_) (fun K hK => ?_)
           ·skip
            refine box_step ?hg (N := 5) ?hd (cs := #[.string (⟨#[]⟩ : ByteArray), .slice none 0 0, .int .i64 0, .int .i64 0]) (t := 45) ?hr ?_; (case hd => rfl); (case hg => rfl); (case hr => exact ts19_)
            intro gb229 hg w16 hbox hb
            have n0_ := Aside0.mk (blk_below (g := gb226) (o := .cells #[.int .i64 a1_0, .int .i64 a1_1, .int .i64 a1_2, .int .i64 a1_3] 57 (0, 0)) (ts18_ BK226.out) hb)
            have n1_ := Aside0.mk (below_step (ts22_ HB.out GE226.out) hb)
            have n2_ := Aside0.mk (hbox)
            have n3_ := Aside0.mk ((ts76_ HB.out GE226.out : w.heap.size ≤ gb229))
            have n4_ := Aside0.mk ((ts76_ HB.out GE226.out : w.heap.size ≤ gb229))
            have n5_ := Aside0.mk ((ts78_ BK226.out : gb226 ≠ gb229))
            have n6_ := Aside0.mk ((ts61_ BK226.out : gb229 ≠ gb226))
            clear BK226
            clear HB
            have BK226 := n0_
            have HB := n1_
            have BK229 := n2_
            have GW229 := n3_
            have GE229 := n4_
            have NB226_229 := n5_
            have NB229_226 := n6_
            clear n0_ n1_ n2_ n3_ n4_ n5_ n6_
            clear hb hbox hg
            refine hK.out _ _ ⟨(blk_cell BK226.out 0).trans rfl, (blk_cell BK226.out 1).trans rfl, (blk_cell BK226.out 2).trans rfl, (blk_cell BK226.out 3).trans rfl, ((HB.out.cell (World.block_lt_of_cell? w _ hw227_0)).trans hw227_0), ((HB.out.cell (World.block_lt_of_cell? w _ hw227_1)).trans hw227_1), ((HB.out.cell (World.block_lt_of_cell? w _ hw227_2)).trans hw227_2), ((HB.out.cell (World.block_lt_of_cell? w _ hw227_3)).trans hw227_3), ((HB.out.cell (World.block_lt_of_cell? w _ hw228_0)).trans hw228_0), ((HB.out.cell (World.block_lt_of_cell? w _ hw228_1)).trans hw228_1), ((HB.out.cell (World.block_lt_of_cell? w _ hw228_2)).trans hw228_2), ((HB.out.cell (World.block_lt_of_cell? w _ hw228_3)).trans hw228_3)⟩ (fun hHeld => ?_)
            clear hK K
            refine norm_ (a' := ?_) ?_ ?_
            rotate_left
            ·show Act.put _ (some 5) _ = _
             simp only [Act.put, List.setIfInBounds_toArray, List.set_cons_zero, List.set_cons_succ, i64_w, i32_w]
             rfl
            refine one_ (i := 11) (N := some 6) #[true, true, true, true, true, true, true, true, true, true, true, true, false, false] rfl rfl (one_of HT_.out (by kernel_rfl)) (by decide) (fun K hK => ?_)
            refine box_step ?hg (N := 6) ?hd (cs := #[.string (⟨#[]⟩ : ByteArray), .slice none 0 0, .int .i64 0, .int .i64 0]) (t := 45) ?hr ?_; (case hd => rfl); (case hg => rfl); (case hr => exact ts19_)
            intro gb230 hg w17 hbox hb
            have n0_ := Aside0.mk (blk_below (g := gb226) (o := .cells #[.int .i64 a1_0, .int .i64 a1_1, .int .i64 a1_2, .int .i64 a1_3] 57 (0, 0)) (ts18_ BK226.out) hb)
            have n1_ := Aside0.mk (blk_below (g := gb229) (o := .cells #[.string (⟨#[]⟩ : ByteArray), .slice none 0 0, .int .i64 0, .int .i64 0] 45 (0, 0)) (ts18_ BK229.out) hb)
            have n2_ := Aside0.mk (below_step (ts31_ HB.out GE226.out GE229.out) hb)
            have n3_ := Aside0.mk (hbox)
            have n4_ := Aside0.mk ((ts79_ HB.out GE226.out GE229.out : w.heap.size ≤ gb230))
            have n5_ := Aside0.mk ((ts79_ HB.out GE226.out GE229.out : w.heap.size ≤ gb230))
            have n6_ := Aside0.mk ((ts78_ BK226.out : gb226 ≠ gb230))
            have n7_ := Aside0.mk ((ts61_ BK226.out : gb230 ≠ gb226))
            have n8_ := Aside0.mk ((ts62_ BK229.out : gb229 ≠ gb230))
            have n9_ := Aside0.mk ((ts82_ BK229.out : gb230 ≠ gb229))
            clear BK226
            clear BK229
            clear HB
            have BK226 := n0_
            have BK229 := n1_
            have HB := n2_
            have BK230 := n3_
            have GW230 := n4_
            have GE230 := n5_
            have NB226_230 := n6_
            have NB230_226 := n7_
            have NB229_230 := n8_
            have NB230_229 := n9_
            clear n0_ n1_ n2_ n3_ n4_ n5_ n6_ n7_ n8_ n9_
            clear hb hbox hg
            refine hK.out _ _ ⟨(blk_cell BK226.out 0).trans rfl, (blk_cell BK226.out 1).trans rfl, (blk_cell BK226.out 2).trans rfl, (blk_cell BK226.out 3).trans rfl, ((HB.out.cell (World.block_lt_of_cell? w _ hw227_0)).trans hw227_0), ((HB.out.cell (World.block_lt_of_cell? w _ hw227_1)).trans hw227_1), ((HB.out.cell (World.block_lt_of_cell? w _ hw227_2)).trans hw227_2), ((HB.out.cell (World.block_lt_of_cell? w _ hw227_3)).trans hw227_3), ((HB.out.cell (World.block_lt_of_cell? w _ hw228_0)).trans hw228_0), ((HB.out.cell (World.block_lt_of_cell? w _ hw228_1)).trans hw228_1), ((HB.out.cell (World.block_lt_of_cell? w _ hw228_2)).trans hw228_2), ((HB.out.cell (World.block_lt_of_cell? w _ hw228_3)).trans hw228_3)⟩ (fun hHeld => ?_)
            clear hK K
            refine norm_ (a' := ?_) ?_ ?_
            rotate_left
            ·show Act.put _ (some 6) _ = _
             simp only [Act.put, List.setIfInBounds_toArray, List.set_cons_zero, List.set_cons_succ, i64_w, i32_w]
             rfl
            exact norm_ ts7_ (hCont (gb229, gb230) _ ⟨hHeld, (ts18_ BK226.out), (ts18_ BK229.out), (ts18_ BK230.out), GW229.out, GE229.out, NB226_229.out, NB229_226.out, NB230_229.out, NB229_230.out, GW230.out, GE230.out, NB226_230.out, NB230_226.out, (ts39_ HB.out GE226.out GE229.out GE230.out)⟩)
           skip
           refine box_step ?hg (N := 6) ?hd (cs := #[.string (⟨#[]⟩ : ByteArray), .slice none 0 0, .int .i64 0, .int .i64 0]) (t := 45) ?hr ?_; (case hd => rfl); (case hg => rfl); (case hr => exact ts19_)
           intro gb230 hg w16 hbox hb
           have n0_ := Aside0.mk (blk_below (g := gb226) (o := .cells #[.int .i64 a1_0, .int .i64 a1_1, .int .i64 a1_2, .int .i64 a1_3] 57 (0, 0)) (ts18_ BK226.out) hb)
           have n1_ := Aside0.mk (below_step (ts22_ HB.out GE226.out) hb)
           have n2_ := Aside0.mk (hbox)
           have n3_ := Aside0.mk ((ts76_ HB.out GE226.out : w.heap.size ≤ gb230))
           have n4_ := Aside0.mk ((ts76_ HB.out GE226.out : w.heap.size ≤ gb230))
           have n5_ := Aside0.mk ((ts78_ BK226.out : gb226 ≠ gb230))
           have n6_ := Aside0.mk ((ts61_ BK226.out : gb230 ≠ gb226))
           clear BK226
           clear HB
           have BK226 := n0_
           have HB := n1_
           have BK230 := n2_
           have GW230 := n3_
           have GE230 := n4_
           have NB226_230 := n5_
           have NB230_226 := n6_
           clear n0_ n1_ n2_ n3_ n4_ n5_ n6_
           clear hb hbox hg
           refine hK.out _ _ ⟨(blk_cell BK226.out 0).trans rfl, (blk_cell BK226.out 1).trans rfl, (blk_cell BK226.out 2).trans rfl, (blk_cell BK226.out 3).trans rfl, ((HB.out.cell (World.block_lt_of_cell? w _ hw227_0)).trans hw227_0), ((HB.out.cell (World.block_lt_of_cell? w _ hw227_1)).trans hw227_1), ((HB.out.cell (World.block_lt_of_cell? w _ hw227_2)).trans hw227_2), ((HB.out.cell (World.block_lt_of_cell? w _ hw227_3)).trans hw227_3), ((HB.out.cell (World.block_lt_of_cell? w _ hw228_0)).trans hw228_0), ((HB.out.cell (World.block_lt_of_cell? w _ hw228_1)).trans hw228_1), ((HB.out.cell (World.block_lt_of_cell? w _ hw228_2)).trans hw228_2), ((HB.out.cell (World.block_lt_of_cell? w _ hw228_3)).trans hw228_3)⟩ (fun hHeld => ?_)
           clear hK K
           refine norm_ (a' := ?_) ?_ ?_
           rotate_left
           ·show Act.put _ (some 6) _ = _
            simp only [Act.put, List.setIfInBounds_toArray, List.set_cons_zero, List.set_cons_succ, i64_w, i32_w]
            rfl
           refine one_ (i := 10) (N := some 5) #[true, true, true, true, true, true, true, true, true, true, true, true, false, false] rfl rfl (one_of HT_.out (by kernel_rfl)) (by decide) (fun K hK => ?_)
           refine box_step ?hg (N := 5) ?hd (cs := #[.string (⟨#[]⟩ : ByteArray), .slice none 0 0, .int .i64 0, .int .i64 0]) (t := 45) ?hr ?_; (case hd => rfl); (case hg => rfl); (case hr => exact ts19_)
           intro gb229 hg w17 hbox hb
           have n0_ := Aside0.mk (blk_below (g := gb226) (o := .cells #[.int .i64 a1_0, .int .i64 a1_1, .int .i64 a1_2, .int .i64 a1_3] 57 (0, 0)) (ts18_ BK226.out) hb)
           have n1_ := Aside0.mk (blk_below (g := gb230) (o := .cells #[.string (⟨#[]⟩ : ByteArray), .slice none 0 0, .int .i64 0, .int .i64 0] 45 (0, 0)) (ts18_ BK230.out) hb)
           have n2_ := Aside0.mk (below_step (ts31_ HB.out GE226.out GE230.out) hb)
           have n3_ := Aside0.mk (hbox)
           have n4_ := Aside0.mk ((ts79_ HB.out GE226.out GE230.out : w.heap.size ≤ gb229))
           have n5_ := Aside0.mk ((ts79_ HB.out GE226.out GE230.out : w.heap.size ≤ gb229))
           have n6_ := Aside0.mk ((ts78_ BK226.out : gb226 ≠ gb229))
           have n7_ := Aside0.mk ((ts61_ BK226.out : gb229 ≠ gb226))
           have n8_ := Aside0.mk ((ts75_ BK230.out : gb230 ≠ gb229))
           have n9_ := Aside0.mk ((ts65_ BK230.out : gb229 ≠ gb230))
           clear BK226
           clear BK230
           clear HB
           have BK226 := n0_
           have BK230 := n1_
           have HB := n2_
           have BK229 := n3_
           have GW229 := n4_
           have GE229 := n5_
           have NB226_229 := n6_
           have NB229_226 := n7_
           have NB230_229 := n8_
           have NB229_230 := n9_
           clear n0_ n1_ n2_ n3_ n4_ n5_ n6_ n7_ n8_ n9_
           clear hb hbox hg
           refine hK.out _ _ ⟨(blk_cell BK226.out 0).trans rfl, (blk_cell BK226.out 1).trans rfl, (blk_cell BK226.out 2).trans rfl, (blk_cell BK226.out 3).trans rfl, ((HB.out.cell (World.block_lt_of_cell? w _ hw227_0)).trans hw227_0), ((HB.out.cell (World.block_lt_of_cell? w _ hw227_1)).trans hw227_1), ((HB.out.cell (World.block_lt_of_cell? w _ hw227_2)).trans hw227_2), ((HB.out.cell (World.block_lt_of_cell? w _ hw227_3)).trans hw227_3), ((HB.out.cell (World.block_lt_of_cell? w _ hw228_0)).trans hw228_0), ((HB.out.cell (World.block_lt_of_cell? w _ hw228_1)).trans hw228_1), ((HB.out.cell (World.block_lt_of_cell? w _ hw228_2)).trans hw228_2), ((HB.out.cell (World.block_lt_of_cell? w _ hw228_3)).trans hw228_3)⟩ (fun hHeld => ?_)
           clear hK K
           refine norm_ (a' := ?_) ?_ ?_
           rotate_left
           ·show Act.put _ (some 5) _ = _
            simp only [Act.put, List.setIfInBounds_toArray, List.set_cons_zero, List.set_cons_succ, i64_w, i32_w]
            rfl
           exact norm_ ts7_ (hCont (gb229, gb230) _ ⟨hHeld, (ts18_ BK226.out), (ts18_ BK229.out), (ts18_ BK230.out), GW229.out, GE229.out, NB226_229.out, NB229_226.out, NB230_229.out, NB229_230.out, GW230.out, GE230.out, NB226_230.out, NB230_226.out, (ts39_ HB.out GE226.out GE230.out GE229.out)⟩)
          rintro ⟨gb229, gb230⟩ w18 ⟨hS_, h0_, h1_, h2_, h3_, h4_, h5_, h6_, h7_, h8_, h9_, h10_, h11_, h12_, h13_⟩
          have n0_ : Aside0 (w18.heap[gb226]? = some (.cells #[.int .i64 a1_0, .int .i64 a1_1, .int .i64 a1_2, .int .i64 a1_3] 57 (0, 0))) := ⟨h0_⟩
          have n1_ : Aside0 (w18.heap[gb229]? = some (.cells #[.string (⟨#[]⟩ : ByteArray), .slice none 0 0, .int .i64 0, .int .i64 0] 45 (0, 0))) := ⟨h1_⟩
          have n2_ : Aside0 (w18.heap[gb230]? = some (.cells #[.string (⟨#[]⟩ : ByteArray), .slice none 0 0, .int .i64 0, .int .i64 0] 45 (0, 0))) := ⟨h2_⟩
          have n3_ : Aside0 (w.heap.size ≤ gb229) := ⟨h3_⟩
          have n4_ : Aside0 (w.heap.size ≤ gb229) := ⟨h4_⟩
          have n5_ : Aside0 (gb226 ≠ gb229) := ⟨h5_⟩
          have n6_ : Aside0 (gb229 ≠ gb226) := ⟨h6_⟩
          have n7_ : Aside0 (gb230 ≠ gb229) := ⟨h7_⟩
          have n8_ : Aside0 (gb229 ≠ gb230) := ⟨h8_⟩
          have n9_ : Aside0 (w.heap.size ≤ gb230) := ⟨h9_⟩
          have n10_ : Aside0 (w.heap.size ≤ gb230) := ⟨h10_⟩
          have n11_ : Aside0 (gb226 ≠ gb230) := ⟨h11_⟩
          have n12_ : Aside0 (gb230 ≠ gb226) := ⟨h12_⟩
          have n13_ : Aside0 (Below w.heap.size w w18) := ⟨h13_⟩
          clear BK226
          clear HB
          clear h0_ h1_ h2_ h3_ h4_ h5_ h6_ h7_ h8_ h9_ h10_ h11_ h12_ h13_
          have BK226 := n0_
          have BK229 := n1_
          have BK230 := n2_
          have GW229 := n3_
          have GE229 := n4_
          have NB226_229 := n5_
          have NB229_226 := n6_
          have NB230_229 := n7_
          have NB229_230 := n8_
          have GW230 := n9_
          have GE230 := n10_
          have NB226_230 := n11_
          have NB230_226 := n12_
          have HB := n13_
          clear n0_ n1_ n2_ n3_ n4_ n5_ n6_ n7_ n8_ n9_ n10_ n11_ n12_ n13_
          have hHeld : w18.cell? ⟨gb226, 0, none⟩ = some (.int .i64 a1_0) ∧ w18.cell? ⟨gb226, 1, none⟩ = some (.int .i64 a1_1) ∧ w18.cell? ⟨gb226, 2, none⟩ = some (.int .i64 a1_2) ∧ w18.cell? ⟨gb226, 3, none⟩ = some (.int .i64 a1_3) ∧ w18.cell? (ad227.add ((a1_0).toNat * 4)) = some (.string ((rd_T45 l0 a1_0).f0)) ∧ w18.cell? ⟨(ad227.add ((a1_0).toNat * 4)).block, (ad227.add ((a1_0).toNat * 4)).off + 1, none⟩ = some (.slice A227_1 ((rd_T45 l0 a1_0).f1.f0).length c227_1) ∧ w18.cell? ⟨(ad227.add ((a1_0).toNat * 4)).block, (ad227.add ((a1_0).toNat * 4)).off + 2, none⟩ = some (.int .i64 ((rd_T45 l0 a1_0).f1.f1)) ∧ w18.cell? ⟨(ad227.add ((a1_0).toNat * 4)).block, (ad227.add ((a1_0).toNat * 4)).off + 3, none⟩ = some (.int .i64 ((rd_T45 l0 a1_0).f1.f2)) ∧ w18.cell? (ad227.add ((a1_1).toNat * 4)) = some (.string ((rd_T45 l0 a1_1).f0)) ∧ w18.cell? ⟨(ad227.add ((a1_1).toNat * 4)).block, (ad227.add ((a1_1).toNat * 4)).off + 1, none⟩ = some (.slice A228_1 ((rd_T45 l0 a1_1).f1.f0).length c228_1) ∧ w18.cell? ⟨(ad227.add ((a1_1).toNat * 4)).block, (ad227.add ((a1_1).toNat * 4)).off + 2, none⟩ = some (.int .i64 ((rd_T45 l0 a1_1).f1.f1)) ∧ w18.cell? ⟨(ad227.add ((a1_1).toNat * 4)).block, (ad227.add ((a1_1).toNat * 4)).off + 3, none⟩ = some (.int .i64 ((rd_T45 l0 a1_1).f1.f2)) := hS_
          refine norm_ (a' := ?_) ?_ ?_
          rotate_left
          ·simp only [putAll, Act.put, List.setIfInBounds_toArray, List.set_cons_zero, List.set_cons_succ]
           rfl
          refine one_ (i := 12) (N := none) #[true, true, true, true, true, true, true, true, true, true, true, true, true, false] rfl rfl (one_of HT_.out (by kernel_rfl)) (by decide) (fun K hK => ?_)
          have hs19 : w18.cell? ⟨gb229, 0, none⟩ = some (.string (⟨#[]⟩ : ByteArray)) := (blk_cell BK229.out 0).trans rfl
          have hfs19 := blk_frozen BK229.out 0
          have hns19_0 := NB226_229.out
          have hns19_2 := NB230_229.out
          have hms19_0 := NB229_226.out
          have hms19_2 := NB229_230.out
          have hs20 : w18.cell? ⟨gb229, 1, none⟩ = some (.slice none 0 0) := (blk_cell BK229.out 1).trans rfl
          have hfs20 := blk_frozen BK229.out 1
          have hns20_0 := NB226_229.out
          have hns20_2 := NB230_229.out
          have hms20_0 := NB229_226.out
          have hms20_2 := NB229_230.out
          have hs21 : w18.cell? ⟨gb229, 2, none⟩ = some (.int .i64 0) := (blk_cell BK229.out 2).trans rfl
          have hfs21 := blk_frozen BK229.out 2
          have hns21_0 := NB226_229.out
          have hns21_2 := NB230_229.out
          have hms21_0 := NB229_226.out
          have hms21_2 := NB229_230.out
          have hs22 : w18.cell? ⟨gb229, 3, none⟩ = some (.int .i64 0) := (blk_cell BK229.out 3).trans rfl
          have hfs22 := blk_frozen BK229.out 3
          have hns22_0 := NB226_229.out
          have hns22_2 := NB230_229.out
          have hms22_0 := NB229_226.out
          have hms22_2 := NB229_230.out
          refine skip_ (w1 := ?_) (by rfl) rfl ?_ ?_
          rotate_left
          ·go_simp
           rfl
          refine hK.out _ _ ⟨((cell_far (p := ⟨gb229, _, none⟩) NB226_229.out _).trans (((cell_far (p := ⟨gb229, _, none⟩) NB226_229.out _).trans (((cell_far (p := ⟨gb229, _, none⟩) NB226_229.out _).trans (((cell_far (p := ⟨gb229, _, none⟩) NB226_229.out _).trans (hHeld.1)))))))), ((cell_far (p := ⟨gb229, _, none⟩) NB226_229.out _).trans (((cell_far (p := ⟨gb229, _, none⟩) NB226_229.out _).trans (((cell_far (p := ⟨gb229, _, none⟩) NB226_229.out _).trans (((cell_far (p := ⟨gb229, _, none⟩) NB226_229.out _).trans (hHeld.2.1)))))))), ((cell_far (p := ⟨gb229, _, none⟩) NB226_229.out _).trans (((cell_far (p := ⟨gb229, _, none⟩) NB226_229.out _).trans (((cell_far (p := ⟨gb229, _, none⟩) NB226_229.out _).trans (((cell_far (p := ⟨gb229, _, none⟩) NB226_229.out _).trans (hHeld.2.2.1)))))))), ((cell_far (p := ⟨gb229, _, none⟩) NB226_229.out _).trans (((cell_far (p := ⟨gb229, _, none⟩) NB226_229.out _).trans (((cell_far (p := ⟨gb229, _, none⟩) NB226_229.out _).trans (((cell_far (p := ⟨gb229, _, none⟩) NB226_229.out _).trans (hHeld.2.2.2.1)))))))), ((cell_far (p := ⟨gb229, _, none⟩) (ts80_ GW229.out) _).trans (((cell_far (p := ⟨gb229, _, none⟩) (ts80_ GW229.out) _).trans (((cell_far (p := ⟨gb229, _, none⟩) (ts80_ GW229.out) _).trans (((cell_far (p := ⟨gb229, _, none⟩) (ts80_ GW229.out) _).trans (hHeld.2.2.2.2.1)))))))), ((cell_far (p := ⟨gb229, _, none⟩) (ts51_ GW229.out) _).trans (((cell_far (p := ⟨gb229, _, none⟩) (ts51_ GW229.out) _).trans (((cell_far (p := ⟨gb229, _, none⟩) (ts51_ GW229.out) _).trans (((cell_far (p := ⟨gb229, _, none⟩) (ts51_ GW229.out) _).trans (hHeld.2.2.2.2.2.1)))))))), ((cell_far (p := ⟨gb229, _, none⟩) (ts56_ GW229.out) _).trans (((cell_far (p := ⟨gb229, _, none⟩) (ts56_ GW229.out) _).trans (((cell_far (p := ⟨gb229, _, none⟩) (ts56_ GW229.out) _).trans (((cell_far (p := ⟨gb229, _, none⟩) (ts56_ GW229.out) _).trans (hHeld.2.2.2.2.2.2.1)))))))), ((cell_far (p := ⟨gb229, _, none⟩) (ts67_ GW229.out) _).trans (((cell_far (p := ⟨gb229, _, none⟩) (ts67_ GW229.out) _).trans (((cell_far (p := ⟨gb229, _, none⟩) (ts67_ GW229.out) _).trans (((cell_far (p := ⟨gb229, _, none⟩) (ts67_ GW229.out) _).trans (hHeld.2.2.2.2.2.2.2.1)))))))), ((cell_far (p := ⟨gb229, _, none⟩) (ts63_ GW229.out) _).trans (((cell_far (p := ⟨gb229, _, none⟩) (ts63_ GW229.out) _).trans (((cell_far (p := ⟨gb229, _, none⟩) (ts63_ GW229.out) _).trans (((cell_far (p := ⟨gb229, _, none⟩) (ts63_ GW229.out) _).trans (hHeld.2.2.2.2.2.2.2.2.1)))))))), ((cell_far (p := ⟨gb229, _, none⟩) (ts70_ GW229.out) _).trans (((cell_far (p := ⟨gb229, _, none⟩) (ts70_ GW229.out) _).trans (((cell_far (p := ⟨gb229, _, none⟩) (ts70_ GW229.out) _).trans (((cell_far (p := ⟨gb229, _, none⟩) (ts70_ GW229.out) _).trans (hHeld.2.2.2.2.2.2.2.2.2.1)))))))), ((cell_far (p := ⟨gb229, _, none⟩) (ts74_ GW229.out) _).trans (((cell_far (p := ⟨gb229, _, none⟩) (ts74_ GW229.out) _).trans (((cell_far (p := ⟨gb229, _, none⟩) (ts74_ GW229.out) _).trans (((cell_far (p := ⟨gb229, _, none⟩) (ts74_ GW229.out) _).trans (hHeld.2.2.2.2.2.2.2.2.2.2.1)))))))), ((cell_far (p := ⟨gb229, _, none⟩) (ts46_ GW229.out) _).trans (((cell_far (p := ⟨gb229, _, none⟩) (ts46_ GW229.out) _).trans (((cell_far (p := ⟨gb229, _, none⟩) (ts46_ GW229.out) _).trans (((cell_far (p := ⟨gb229, _, none⟩) (ts46_ GW229.out) _).trans (hHeld.2.2.2.2.2.2.2.2.2.2.2))))))))⟩ (fun hHeld => ?_)
          clear hK K
          refine one_ (i := 13) (N := none) #[true, true, true, true, true, true, true, true, true, true, true, true, true, true] rfl rfl (one_of HT_.out (by kernel_rfl)) (by decide) (fun K hK => ?_)
          have hs23 : w18.cell? ⟨gb230, 0, none⟩ = some (.string (⟨#[]⟩ : ByteArray)) := (blk_cell BK230.out 0).trans rfl
          have hfs23 := blk_frozen BK230.out 0
          have hns23_0 := NB226_230.out
          have hns23_1 := NB229_230.out
          have hms23_0 := NB230_226.out
          have hms23_1 := NB230_229.out
          have hs24 : w18.cell? ⟨gb230, 1, none⟩ = some (.slice none 0 0) := (blk_cell BK230.out 1).trans rfl
          have hfs24 := blk_frozen BK230.out 1
          have hns24_0 := NB226_230.out
          have hns24_1 := NB229_230.out
          have hms24_0 := NB230_226.out
          have hms24_1 := NB230_229.out
          have hs25 : w18.cell? ⟨gb230, 2, none⟩ = some (.int .i64 0) := (blk_cell BK230.out 2).trans rfl
          have hfs25 := blk_frozen BK230.out 2
          have hns25_0 := NB226_230.out
          have hns25_1 := NB229_230.out
          have hms25_0 := NB230_226.out
          have hms25_1 := NB230_229.out
          have hs26 : w18.cell? ⟨gb230, 3, none⟩ = some (.int .i64 0) := (blk_cell BK230.out 3).trans rfl
          have hfs26 := blk_frozen BK230.out 3
          have hns26_0 := NB226_230.out
          have hns26_1 := NB229_230.out
          have hms26_0 := NB230_226.out
          have hms26_1 := NB230_229.out
          refine skip_ (w1 := ?_) (by rfl) rfl ?_ ?_
          rotate_left
          ·go_simp
           rfl
          refine hK.out _ _ ⟨((cell_far (p := ⟨gb230, _, none⟩) NB226_230.out _).trans (((cell_far (p := ⟨gb230, _, none⟩) NB226_230.out _).trans (((cell_far (p := ⟨gb230, _, none⟩) NB226_230.out _).trans (((cell_far (p := ⟨gb230, _, none⟩) NB226_230.out _).trans (hHeld.1)))))))), ((cell_far (p := ⟨gb230, _, none⟩) NB226_230.out _).trans (((cell_far (p := ⟨gb230, _, none⟩) NB226_230.out _).trans (((cell_far (p := ⟨gb230, _, none⟩) NB226_230.out _).trans (((cell_far (p := ⟨gb230, _, none⟩) NB226_230.out _).trans (hHeld.2.1)))))))), ((cell_far (p := ⟨gb230, _, none⟩) NB226_230.out _).trans (((cell_far (p := ⟨gb230, _, none⟩) NB226_230.out _).trans (((cell_far (p := ⟨gb230, _, none⟩) NB226_230.out _).trans (((cell_far (p := ⟨gb230, _, none⟩) NB226_230.out _).trans (hHeld.2.2.1)))))))), ((cell_far (p := ⟨gb230, _, none⟩) NB226_230.out _).trans (((cell_far (p := ⟨gb230, _, none⟩) NB226_230.out _).trans (((cell_far (p := ⟨gb230, _, none⟩) NB226_230.out _).trans (((cell_far (p := ⟨gb230, _, none⟩) NB226_230.out _).trans (hHeld.2.2.2.1)))))))), ((cell_far (p := ⟨gb230, _, none⟩) (ts80_ GW230.out) _).trans (((cell_far (p := ⟨gb230, _, none⟩) (ts80_ GW230.out) _).trans (((cell_far (p := ⟨gb230, _, none⟩) (ts80_ GW230.out) _).trans (((cell_far (p := ⟨gb230, _, none⟩) (ts80_ GW230.out) _).trans (hHeld.2.2.2.2.1)))))))), ((cell_far (p := ⟨gb230, _, none⟩) (ts51_ GW230.out) _).trans (((cell_far (p := ⟨gb230, _, none⟩) (ts51_ GW230.out) _).trans (((cell_far (p := ⟨gb230, _, none⟩) (ts51_ GW230.out) _).trans (((cell_far (p := ⟨gb230, _, none⟩) (ts51_ GW230.out) _).trans (hHeld.2.2.2.2.2.1)))))))), ((cell_far (p := ⟨gb230, _, none⟩) (ts56_ GW230.out) _).trans (((cell_far (p := ⟨gb230, _, none⟩) (ts56_ GW230.out) _).trans (((cell_far (p := ⟨gb230, _, none⟩) (ts56_ GW230.out) _).trans (((cell_far (p := ⟨gb230, _, none⟩) (ts56_ GW230.out) _).trans (hHeld.2.2.2.2.2.2.1)))))))), ((cell_far (p := ⟨gb230, _, none⟩) (ts67_ GW230.out) _).trans (((cell_far (p := ⟨gb230, _, none⟩) (ts67_ GW230.out) _).trans (((cell_far (p := ⟨gb230, _, none⟩) (ts67_ GW230.out) _).trans (((cell_far (p := ⟨gb230, _, none⟩) (ts67_ GW230.out) _).trans (hHeld.2.2.2.2.2.2.2.1)))))))), ((cell_far (p := ⟨gb230, _, none⟩) (ts63_ GW230.out) _).trans (((cell_far (p := ⟨gb230, _, none⟩) (ts63_ GW230.out) _).trans (((cell_far (p := ⟨gb230, _, none⟩) (ts63_ GW230.out) _).trans (((cell_far (p := ⟨gb230, _, none⟩) (ts63_ GW230.out) _).trans (hHeld.2.2.2.2.2.2.2.2.1)))))))), ((cell_far (p := ⟨gb230, _, none⟩) (ts70_ GW230.out) _).trans (((cell_far (p := ⟨gb230, _, none⟩) (ts70_ GW230.out) _).trans (((cell_far (p := ⟨gb230, _, none⟩) (ts70_ GW230.out) _).trans (((cell_far (p := ⟨gb230, _, none⟩) (ts70_ GW230.out) _).trans (hHeld.2.2.2.2.2.2.2.2.2.1)))))))), ((cell_far (p := ⟨gb230, _, none⟩) (ts74_ GW230.out) _).trans (((cell_far (p := ⟨gb230, _, none⟩) (ts74_ GW230.out) _).trans (((cell_far (p := ⟨gb230, _, none⟩) (ts74_ GW230.out) _).trans (((cell_far (p := ⟨gb230, _, none⟩) (ts74_ GW230.out) _).trans (hHeld.2.2.2.2.2.2.2.2.2.2.1)))))))), ((cell_far (p := ⟨gb230, _, none⟩) (ts46_ GW230.out) _).trans (((cell_far (p := ⟨gb230, _, none⟩) (ts46_ GW230.out) _).trans (((cell_far (p := ⟨gb230, _, none⟩) (ts46_ GW230.out) _).trans (((cell_far (p := ⟨gb230, _, none⟩) (ts46_ GW230.out) _).trans (hHeld.2.2.2.2.2.2.2.2.2.2.2))))))))⟩ (fun hHeld => ?_)
          clear hK K
          refine done_ (done_of HT_.out (by kernel_rfl)) ?_
          try go_wp2
          have n0_ : Aside0 (((((((((w18.setCell ⟨gb229, 0, none⟩ (.string ((rd_T45 l0 a1_0).f0))).setCell ⟨gb229, 1, none⟩ (.slice A227_1 ((rd_T45 l0 a1_0).f1.f0).length c227_1)).setCell ⟨gb229, 2, none⟩ (.int .i64 ((rd_T45 l0 a1_0).f1.f1))).setCell ⟨gb229, 3, none⟩ (.int .i64 ((rd_T45 l0 a1_0).f1.f2))).setCell ⟨gb230, 0, none⟩ (.string ((rd_T45 l0 a1_1).f0))).setCell ⟨gb230, 1, none⟩ (.slice A228_1 ((rd_T45 l0 a1_1).f1.f0).length c228_1)).setCell ⟨gb230, 2, none⟩ (.int .i64 ((rd_T45 l0 a1_1).f1.f1))).setCell ⟨gb230, 3, none⟩ (.int .i64 ((rd_T45 l0 a1_1).f1.f2))).heap[gb226]? = some (.cells #[.int .i64 a1_0, .int .i64 a1_1, .int .i64 a1_2, .int .i64 a1_3] 57 (0, 0))) := ⟨ts11_ NB226_230.out NB226_229.out BK226.out⟩
          have n1_ : Aside0 (((((((((w18.setCell ⟨gb229, 0, none⟩ (.string ((rd_T45 l0 a1_0).f0))).setCell ⟨gb229, 1, none⟩ (.slice A227_1 ((rd_T45 l0 a1_0).f1.f0).length c227_1)).setCell ⟨gb229, 2, none⟩ (.int .i64 ((rd_T45 l0 a1_0).f1.f1))).setCell ⟨gb229, 3, none⟩ (.int .i64 ((rd_T45 l0 a1_0).f1.f2))).setCell ⟨gb230, 0, none⟩ (.string ((rd_T45 l0 a1_1).f0))).setCell ⟨gb230, 1, none⟩ (.slice A228_1 ((rd_T45 l0 a1_1).f1.f0).length c228_1)).setCell ⟨gb230, 2, none⟩ (.int .i64 ((rd_T45 l0 a1_1).f1.f1))).setCell ⟨gb230, 3, none⟩ (.int .i64 ((rd_T45 l0 a1_1).f1.f2))).heap[gb229]? = some (.cells #[.string ((rd_T45 l0 a1_0).f0), .slice A227_1 ((rd_T45 l0 a1_0).f1.f0).length c227_1, .int .i64 ((rd_T45 l0 a1_0).f1.f1), .int .i64 ((rd_T45 l0 a1_0).f1.f2)] 45 (0, 0))) := ⟨ts26_ NB229_230.out BK229.out⟩
          have n2_ : Aside0 (((((((((w18.setCell ⟨gb229, 0, none⟩ (.string ((rd_T45 l0 a1_0).f0))).setCell ⟨gb229, 1, none⟩ (.slice A227_1 ((rd_T45 l0 a1_0).f1.f0).length c227_1)).setCell ⟨gb229, 2, none⟩ (.int .i64 ((rd_T45 l0 a1_0).f1.f1))).setCell ⟨gb229, 3, none⟩ (.int .i64 ((rd_T45 l0 a1_0).f1.f2))).setCell ⟨gb230, 0, none⟩ (.string ((rd_T45 l0 a1_1).f0))).setCell ⟨gb230, 1, none⟩ (.slice A228_1 ((rd_T45 l0 a1_1).f1.f0).length c228_1)).setCell ⟨gb230, 2, none⟩ (.int .i64 ((rd_T45 l0 a1_1).f1.f1))).setCell ⟨gb230, 3, none⟩ (.int .i64 ((rd_T45 l0 a1_1).f1.f2))).heap[gb230]? = some (.cells #[.string ((rd_T45 l0 a1_1).f0), .slice A228_1 ((rd_T45 l0 a1_1).f1.f0).length c228_1, .int .i64 ((rd_T45 l0 a1_1).f1.f1), .int .i64 ((rd_T45 l0 a1_1).f1.f2)] 45 (0, 0))) := ⟨ts5_ NB230_229.out BK230.out⟩
          have n3_ : Aside0 (Below w.heap.size w ((((((((w18.setCell ⟨gb229, 0, none⟩ (.string ((rd_T45 l0 a1_0).f0))).setCell ⟨gb229, 1, none⟩ (.slice A227_1 ((rd_T45 l0 a1_0).f1.f0).length c227_1)).setCell ⟨gb229, 2, none⟩ (.int .i64 ((rd_T45 l0 a1_0).f1.f1))).setCell ⟨gb229, 3, none⟩ (.int .i64 ((rd_T45 l0 a1_0).f1.f2))).setCell ⟨gb230, 0, none⟩ (.string ((rd_T45 l0 a1_1).f0))).setCell ⟨gb230, 1, none⟩ (.slice A228_1 ((rd_T45 l0 a1_1).f1.f0).length c228_1)).setCell ⟨gb230, 2, none⟩ (.int .i64 ((rd_T45 l0 a1_1).f1.f1))).setCell ⟨gb230, 3, none⟩ (.int .i64 ((rd_T45 l0 a1_1).f1.f2)))) := ⟨ts39_ HB.out GE226.out GE229.out GE230.out⟩
          (try clear BK226)
          (try clear BK229)
          (try clear BK230)
          (try clear HB)
          generalize ((((((((w18.setCell ⟨gb229, 0, none⟩ (.string ((rd_T45 l0 a1_0).f0))).setCell ⟨gb229, 1, none⟩ (.slice A227_1 ((rd_T45 l0 a1_0).f1.f0).length c227_1)).setCell ⟨gb229, 2, none⟩ (.int .i64 ((rd_T45 l0 a1_0).f1.f1))).setCell ⟨gb229, 3, none⟩ (.int .i64 ((rd_T45 l0 a1_0).f1.f2))).setCell ⟨gb230, 0, none⟩ (.string ((rd_T45 l0 a1_1).f0))).setCell ⟨gb230, 1, none⟩ (.slice A228_1 ((rd_T45 l0 a1_1).f1.f0).length c228_1)).setCell ⟨gb230, 2, none⟩ (.int .i64 ((rd_T45 l0 a1_1).f1.f1))).setCell ⟨gb230, 3, none⟩ (.int .i64 ((rd_T45 l0 a1_1).f1.f2))) = w27 at n0_ n1_ n2_ n3_ ⊢
          have BK226 := n0_
          have BK229 := n1_
          have BK230 := n2_
          have HB := n3_
          clear n0_ n1_ n2_ n3_
          have n0_ := Aside0.mk (blk_drew BK226.out)
          have n1_ := Aside0.mk (blk_drew BK229.out)
          have n2_ := Aside0.mk (blk_drew BK230.out)
          have n3_ := Aside0.mk (below_drew1 HB.out)
          clear BK226
          clear BK229
          clear BK230
          clear HB
          have BK226 := n0_
          have BK229 := n1_
          have BK230 := n2_
          have HB := n3_
          clear n0_ n1_ n2_ n3_
          refine start_ (n := 10) (S := fun w' => w'.cell? ⟨gb229, 0, none⟩ = some (.string ((rd_T45 l0 a1_0).f0)) ∧ w'.cell? ⟨gb229, 1, none⟩ = some (.slice A227_1 ((rd_T45 l0 a1_0).f1.f0).length c227_1) ∧ w'.cell? ⟨gb229, 2, none⟩ = some (.int .i64 ((rd_T45 l0 a1_0).f1.f1)) ∧ w'.cell? ⟨gb229, 3, none⟩ = some (.int .i64 ((rd_T45 l0 a1_0).f1.f2)) ∧ w'.cell? ⟨gb230, 0, none⟩ = some (.string ((rd_T45 l0 a1_1).f0)) ∧ w'.cell? ⟨gb230, 1, none⟩ = some (.slice A228_1 ((rd_T45 l0 a1_1).f1.f0).length c228_1) ∧ w'.cell? ⟨gb230, 2, none⟩ = some (.int .i64 ((rd_T45 l0 a1_1).f1.f1)) ∧ w'.cell? ⟨gb230, 3, none⟩ = some (.int .i64 ((rd_T45 l0 a1_1).f1.f2))) (ds := []) #[false, false, false, false, false, false, false, false, false, false] (by kernel_rfl) rfl rfl ⟨(blk_cell BK229.out 0).trans rfl, (blk_cell BK229.out 1).trans rfl, (blk_cell BK229.out 2).trans rfl, (blk_cell BK229.out 3).trans rfl, (blk_cell BK230.out 0).trans rfl, (blk_cell BK230.out 1).trans rfl, (blk_cell BK230.out 2).trans rfl, (blk_cell BK230.out 3).trans rfl⟩ (fun hHeld => ?_); refine with_tabW cupelref35_part.tab2 cupelref35_part.bits2 (fun HT_ HW_ => ?_)
          generalize w27.drew = w28 at BK226 BK229 BK230 HB hHeld ⊢
          refine pure_ (i := 0) (N := some 18) (v := ?_) (a' := ?_) #[true, false, false, false, false, false, false, false, false, false] rfl rfl (any_of HT_.out (by kernel_rfl)) (fun _ _ _ h => h) (Or.inl ⟨by rfl, ?_⟩) ?_ ?_
          rotate_left
          ·intro w'
           go_simp
           with_reducible rfl
          rotate_left
          ·simp only [Act.put, List.setIfInBounds_toArray, List.set_cons_zero, List.set_cons_succ, i64_w, i32_w]
           rfl
          refine pure_ (i := 4) (N := some 22) (v := ?_) (a' := ?_) #[true, false, false, false, true, false, false, false, false, false] rfl rfl (any_of HT_.out (by kernel_rfl)) (fun _ _ _ h => h) (Or.inl ⟨by rfl, ?_⟩) ?_ ?_
          rotate_left
          ·intro w'
           go_simp
           with_reducible rfl
          rotate_left
          ·simp only [Act.put, List.setIfInBounds_toArray, List.set_cons_zero, List.set_cons_succ, i64_w, i32_w]
           rfl
          refine take_ (i := 1) (N := some 19) (v := ?_) (a' := ?_) #[true, true, false, false, true, false, false, false, false, false] rfl rfl (take_ofW HT_.out HW_.out (by kernel_rfl)) (fun _ _ _ h => h) (Or.inl ⟨by rfl, ?_⟩) hHeld ?_ ?_
          rotate_left
          ·rintro w' ⟨s0, s1, s2, s3, s4, s5, s6, s7⟩
           go_simp
           with_reducible rfl
          rotate_left
          ·simp only [Act.put, List.setIfInBounds_toArray, List.set_cons_zero, List.set_cons_succ, i64_w, i32_w]
           rfl
          refine take_ (i := 5) (N := some 23) (v := ?_) (a' := ?_) #[true, true, false, false, true, true, false, false, false, false] rfl rfl (take_ofW HT_.out HW_.out (by kernel_rfl)) (fun _ _ _ h => h) (Or.inl ⟨by rfl, ?_⟩) hHeld ?_ ?_
          rotate_left
          ·rintro w' ⟨s0, s1, s2, s3, s4, s5, s6, s7⟩
           go_simp
           with_reducible rfl
          rotate_left
          ·simp only [Act.put, List.setIfInBounds_toArray, List.set_cons_zero, List.set_cons_succ, i64_w, i32_w]
           rfl
          refine one_ (i := 2) (N := some 20) #[true, true, true, false, true, true, false, false, false, false] rfl rfl (one_of HT_.out (by kernel_rfl)) (by decide) (fun K hK => ?_)
          refine goes_ Tryd.func17 (by kernel_rfl) rfl #[.string ((rd_T45 l0 a1_0).f0)] (by rfl) rfl rfl ts10_ ?_
          with_reducible refine (cupelref35_Bare.calls k ((rd_T45 l0 a1_0).f0) t231 _ A7.out).mono ?_
          rintro e w' ⟨rfl, ⟨nd, rfl⟩⟩
          refine ⟨_, rfl, ?_⟩
          refine hK.out _ _ ⟨(blk_cell BK229.out 0).trans rfl, (blk_cell BK229.out 1).trans rfl, (blk_cell BK229.out 2).trans rfl, (blk_cell BK229.out 3).trans rfl, (blk_cell BK230.out 0).trans rfl, (blk_cell BK230.out 1).trans rfl, (blk_cell BK230.out 2).trans rfl, (blk_cell BK230.out 3).trans rfl⟩ (fun hHeld => ?_)
          clear hK K
          refine norm_ (a' := ?_) ?_ ?_
          rotate_left
          ·show Act.put _ (some 20) _ = _
           simp only [Act.put, List.setIfInBounds_toArray, List.set_cons_zero, List.set_cons_succ, i64_w, i32_w]
           rfl
          refine pure_ (i := 3) (N := some 21) (v := ?_) (a' := ?_) #[true, true, true, true, true, true, false, false, false, false] rfl rfl (any_of HT_.out (by kernel_rfl)) (fun _ _ _ h => h) (Or.inl ⟨by rfl, ?_⟩) ?_ ?_
          rotate_left
          ·intro w'
           go_simp
           with_reducible rfl
          rotate_left
          ·simp only [Act.put, List.setIfInBounds_toArray, List.set_cons_zero, List.set_cons_succ, i64_w, i32_w]
           rfl
          refine one_ (i := 6) (N := some 24) #[true, true, true, true, true, true, true, false, false, false] rfl rfl (one_of HT_.out (by kernel_rfl)) (by decide) (fun K hK => ?_)
          refine goes_ Tryd.func17 (by kernel_rfl) rfl #[.string ((rd_T45 l0 a1_1).f0)] (by rfl) rfl rfl ts10_ ?_
          with_reducible refine (cupelref35_Bare.calls k ((rd_T45 l0 a1_1).f0) t232 _ A9.out).mono ?_
          rintro e w' ⟨rfl, ⟨nd, rfl⟩⟩
          refine ⟨_, rfl, ?_⟩
          refine hK.out _ _ ⟨(blk_cell BK229.out 0).trans rfl, (blk_cell BK229.out 1).trans rfl, (blk_cell BK229.out 2).trans rfl, (blk_cell BK229.out 3).trans rfl, (blk_cell BK230.out 0).trans rfl, (blk_cell BK230.out 1).trans rfl, (blk_cell BK230.out 2).trans rfl, (blk_cell BK230.out 3).trans rfl⟩ (fun hHeld => ?_)
          clear hK K
          refine norm_ (a' := ?_) ?_ ?_
          rotate_left
          ·show Act.put _ (some 24) _ = _
           simp only [Act.put, List.setIfInBounds_toArray, List.set_cons_zero, List.set_cons_succ, i64_w, i32_w]
           rfl
          refine pure_ (i := 7) (N := some 25) (v := ?_) (a' := ?_) #[true, true, true, true, true, true, true, true, false, false] rfl rfl (any_of HT_.out (by kernel_rfl)) (fun _ _ _ h => h) (Or.inl ⟨by rfl, ?_⟩) ?_ ?_
          rotate_left
          ·intro w'
           go_simp
           with_reducible rfl
          rotate_left
          ·simp only [Act.put, List.setIfInBounds_toArray, List.set_cons_zero, List.set_cons_succ, i64_w, i32_w]
           rfl
          refine pure_ (i := 8) (N := some 26) (v := ?_) (a' := ?_) #[true, true, true, true, true, true, true, true, true, false] rfl rfl (any_of HT_.out (by kernel_rfl)) (fun _ _ _ h => h) (Or.inl ⟨by rfl, ?_⟩) ?_ ?_
          rotate_left
          ·intro w'
           go_simp
           with_reducible rfl
          rotate_left
          ·simp only [Act.put, List.setIfInBounds_toArray, List.set_cons_zero, List.set_cons_succ, i64_w, i32_w]
           rfl
          refine pure_ (i := 9) (N := some 7) (v := ?_) (a' := ?_) #[true, true, true, true, true, true, true, true, true, true] rfl rfl (any_of HT_.out (by kernel_rfl)) (fun _ _ _ h => h) (Or.inl ⟨by rfl, ?_⟩) ?_ ?_
          rotate_left
          ·intro w'
           go_simp
           with_reducible rfl
          rotate_left
          ·simp only [Act.put, List.setIfInBounds_toArray, List.set_cons_zero, List.set_cons_succ, i64_w, i32_w]
           rfl
          refine done_ (done_of HT_.out (by kernel_rfl)) ?_
          have hnb29 := NB226_229.out
          have hnc29 := NB229_226.out
          have hnb30 := NB226_230.out
          have hnc30 := NB230_226.out
          have hcz31_0 : w28.cell? ⟨gb226, 0, none⟩ = some (.int .i64 a1_0) := (blk_cell BK226.out 0).trans rfl
          have hcz31_1 : w28.cell? ⟨gb226, 1, none⟩ = some (.int .i64 a1_1) := (blk_cell BK226.out 1).trans rfl
          have hcz31_2 : w28.cell? ⟨gb226, 2, none⟩ = some (.int .i64 a1_2) := (blk_cell BK226.out 2).trans rfl
          have hcz31_3 : w28.cell? ⟨gb226, 3, none⟩ = some (.int .i64 a1_3) := (blk_cell BK226.out 3).trans rfl
          have hfz31_0 := blk_frozen BK226.out 0
          have hfz31_1 := blk_frozen BK226.out 1
          have hfz31_2 := blk_frozen BK226.out 2
          have hfz31_3 := blk_frozen BK226.out 3
          try go_wp2
          go_ret
          exact ⟨ts33_, ts39_ HB.out GE226.out GE229.out GE230.out⟩
         rw [if_neg c13] at H
         exact absurd H (by simp)
        rw [if_neg c12] at H
        have c12b0 : (a1_2 == 1) = false := beq_eq_false_iff_ne.mpr c12
        have c12b1 : (a1_2 != 1) = true := bne_iff_ne.mpr c12
        by_cases c32 : a1_2 = 2
        ·rw [if_pos c32] at H
         have c32b0 : (a1_2 == 2) = true := beq_iff_eq.mpr c32
         have c32b1 : (a1_2 != 2) = false := bne_eq_false_iff_eq.mpr c32
         clear c32
         by_cases c33 : (((t231 ++ (⟨#[44, 32]⟩ : ByteArray)) ++ t232) ++ (⟨#[58, 32]⟩ : ByteArray)).size + 4 ≤ 9223372036854775807
         ·rw [if_pos c33] at H
          have c33b0 := eq_true c33
          have c33b1 : decide ((((t231 ++ (⟨#[44, 32]⟩ : ByteArray)) ++ t232) ++ (⟨#[58, 32]⟩ : ByteArray)).size + 4 ≤ 9223372036854775807) = true := decide_eq_true c33
          try have c33b2 : (9223372036854775807 < (((t231 ++ (⟨#[44, 32]⟩ : ByteArray)) ++ t232) ++ (⟨#[58, 32]⟩ : ByteArray)).size + 4) = False := eq_false (Nat.not_lt.2 c33)
          have c33b3 := c33b2
          try simp only [ByteArray.size_append, bsz1, bsz2, bsz3, bsz4, bsz5, bsz6] at c33b3
          obtain rfl := Option.some.inj H
          go_enter Tryd.func30, Tryd.ntmps30
          try go_wp2_with (first | ((with_reducible refine gate_dst (N := 3) rfl ?_); refine box_event ?hg (N := 3) ?hd (cs := #[.int .i64 a1_0, .int .i64 a1_1, .int .i64 a1_2, .int .i64 a1_3]) (t := 57) ?hr ?_; (case hd => rfl); (case hg => rfl); (case hr => exact ts19_); intro gb226 hg w34 hbox hb; have BK226 := Aside0.mk (hbox); have GW226 := Aside0.mk ((ts47_ HB.out : w.heap.size ≤ gb226)); have GE226 := Aside0.mk ((ts47_ HB.out : w.heap.size ≤ gb226)); replace HB := Aside0.mk (below_step (ts41_ HB.out) hb); clear hb hbox hg))
          have n0_ := Aside0.mk (blk_drew BK226.out)
          have n1_ := Aside0.mk (below_drew1 HB.out)
          clear BK226
          clear HB
          have BK226 := n0_
          have HB := n1_
          clear n0_ n1_
          have p227 : 0 ≤ (a1_0 : Int) := of_decide_eq_true ts30_
          have q227 : a1_0 < (l0.length : Int) := of_decide_eq_true ts30_
          obtain ⟨ad227, A227_1, c227_1, e227, hx227_0, hx227_1, hx227_2, hx227_3, hl227_1, hi227_1⟩ := at_T45 HR0.out a1_0 p227 q227
          have hw227_3 := hx227_3
          have hw227_2 := hx227_2
          have hw227_1 := hx227_1
          have hw227_0 := hx227_0
          cases e227
          replace hx227_0 := (HB.out.cell (World.block_lt_of_cell? w _ hx227_0)).trans hx227_0
          replace hx227_1 := (HB.out.cell (World.block_lt_of_cell? w _ hx227_1)).trans hx227_1
          replace hx227_2 := (HB.out.cell (World.block_lt_of_cell? w _ hx227_2)).trans hx227_2
          replace hx227_3 := (HB.out.cell (World.block_lt_of_cell? w _ hx227_3)).trans hx227_3
          have HR227_1 := Aside0.mk hi227_1
          have HC227_1 := Aside0.mk hl227_1
          clear hi227_1 hl227_1
          replace p227 := eq_true p227
          replace q227 := eq_true q227
          have p228 : 0 ≤ (a1_1 : Int) := of_decide_eq_true ts30_
          have q228 : a1_1 < (l0.length : Int) := of_decide_eq_true ts30_
          obtain ⟨ad228, A228_1, c228_1, e228, hx228_0, hx228_1, hx228_2, hx228_3, hl228_1, hi228_1⟩ := at_T45 HR0.out a1_1 p228 q228
          have hw228_3 := hx228_3
          have hw228_2 := hx228_2
          have hw228_1 := hx228_1
          have hw228_0 := hx228_0
          obtain rfl : ad227 = ad228 := (by injection e228)
          replace hx228_0 := (HB.out.cell (World.block_lt_of_cell? w _ hx228_0)).trans hx228_0
          replace hx228_1 := (HB.out.cell (World.block_lt_of_cell? w _ hx228_1)).trans hx228_1
          replace hx228_2 := (HB.out.cell (World.block_lt_of_cell? w _ hx228_2)).trans hx228_2
          replace hx228_3 := (HB.out.cell (World.block_lt_of_cell? w _ hx228_3)).trans hx228_3
          have HR228_1 := Aside0.mk hi228_1
          have HC228_1 := Aside0.mk hl228_1
          clear hi228_1 hl228_1
          replace p228 := eq_true p228
          replace q228 := eq_true q228
          refine start_ (n := 14) (S := fun w' => w'.cell? ⟨gb226, 0, none⟩ = some (.int .i64 a1_0) ∧ w'.cell? ⟨gb226, 1, none⟩ = some (.int .i64 a1_1) ∧ w'.cell? ⟨gb226, 2, none⟩ = some (.int .i64 a1_2) ∧ w'.cell? ⟨gb226, 3, none⟩ = some (.int .i64 a1_3) ∧ w'.cell? (ad227.add ((a1_0).toNat * 4)) = some (.string ((rd_T45 l0 a1_0).f0)) ∧ w'.cell? ⟨(ad227.add ((a1_0).toNat * 4)).block, (ad227.add ((a1_0).toNat * 4)).off + 1, none⟩ = some (.slice A227_1 ((rd_T45 l0 a1_0).f1.f0).length c227_1) ∧ w'.cell? ⟨(ad227.add ((a1_0).toNat * 4)).block, (ad227.add ((a1_0).toNat * 4)).off + 2, none⟩ = some (.int .i64 ((rd_T45 l0 a1_0).f1.f1)) ∧ w'.cell? ⟨(ad227.add ((a1_0).toNat * 4)).block, (ad227.add ((a1_0).toNat * 4)).off + 3, none⟩ = some (.int .i64 ((rd_T45 l0 a1_0).f1.f2)) ∧ w'.cell? (ad227.add ((a1_1).toNat * 4)) = some (.string ((rd_T45 l0 a1_1).f0)) ∧ w'.cell? ⟨(ad227.add ((a1_1).toNat * 4)).block, (ad227.add ((a1_1).toNat * 4)).off + 1, none⟩ = some (.slice A228_1 ((rd_T45 l0 a1_1).f1.f0).length c228_1) ∧ w'.cell? ⟨(ad227.add ((a1_1).toNat * 4)).block, (ad227.add ((a1_1).toNat * 4)).off + 2, none⟩ = some (.int .i64 ((rd_T45 l0 a1_1).f1.f1)) ∧ w'.cell? ⟨(ad227.add ((a1_1).toNat * 4)).block, (ad227.add ((a1_1).toNat * 4)).off + 3, none⟩ = some (.int .i64 ((rd_T45 l0 a1_1).f1.f2))) (ds := []) #[false, false, false, false, false, false, false, false, false, false, false, false, false, false] (by kernel_rfl) rfl rfl ⟨(blk_cell BK226.out 0).trans rfl, (blk_cell BK226.out 1).trans rfl, (blk_cell BK226.out 2).trans rfl, (blk_cell BK226.out 3).trans rfl, ((HB.out.cell (World.block_lt_of_cell? w _ hw227_0)).trans hw227_0), ((HB.out.cell (World.block_lt_of_cell? w _ hw227_1)).trans hw227_1), ((HB.out.cell (World.block_lt_of_cell? w _ hw227_2)).trans hw227_2), ((HB.out.cell (World.block_lt_of_cell? w _ hw227_3)).trans hw227_3), ((HB.out.cell (World.block_lt_of_cell? w _ hw228_0)).trans hw228_0), ((HB.out.cell (World.block_lt_of_cell? w _ hw228_1)).trans hw228_1), ((HB.out.cell (World.block_lt_of_cell? w _ hw228_2)).trans hw228_2), ((HB.out.cell (World.block_lt_of_cell? w _ hw228_3)).trans hw228_3)⟩ (fun hHeld => ?_); refine with_tabW cupelref35_part.tab1 cupelref35_part.bits1 (fun HT_ HW_ => ?_)
          generalize w34.drew = w35 at BK226 HB HR227_1 HR228_1 hx227_0 hx227_1 hx227_2 hx227_3 hx228_0 hx228_1 hx228_2 hx228_3 hHeld ⊢
          refine pure_ (i := 0) (N := some 8) (v := ?_) (a' := ?_) #[true, false, false, false, false, false, false, false, false, false, false, false, false, false] rfl rfl (any_of HT_.out (by kernel_rfl)) (fun _ _ _ h => h) (Or.inl ⟨by rfl, ?_⟩) ?_ ?_
          rotate_left
          ·intro w'
           go_simp
           with_reducible rfl
          rotate_left
          ·simp only [Act.put, List.setIfInBounds_toArray, List.set_cons_zero, List.set_cons_succ, i64_w, i32_w]
           rfl
          refine pure_ (i := 1) (N := some 9) (v := ?_) (a' := ?_) #[true, true, false, false, false, false, false, false, false, false, false, false, false, false] rfl rfl (any_of HT_.out (by kernel_rfl)) (fun _ _ _ h => h) (Or.inl ⟨by rfl, ?_⟩) ?_ ?_
          rotate_left
          ·intro w'
           go_simp
           with_reducible rfl
          rotate_left
          ·simp only [Act.put, List.setIfInBounds_toArray, List.set_cons_zero, List.set_cons_succ, i64_w, i32_w]
           rfl
          refine pure_ (i := 5) (N := some 13) (v := ?_) (a' := ?_) #[true, true, false, false, false, true, false, false, false, false, false, false, false, false] rfl rfl (any_of HT_.out (by kernel_rfl)) (fun _ _ _ h => h) (Or.inl ⟨by rfl, ?_⟩) ?_ ?_
          rotate_left
          ·intro w'
           go_simp
           with_reducible rfl
          rotate_left
          ·simp only [Act.put, List.setIfInBounds_toArray, List.set_cons_zero, List.set_cons_succ, i64_w, i32_w]
           rfl
          refine pure_ (i := 6) (N := some 14) (v := ?_) (a' := ?_) #[true, true, false, false, false, true, true, false, false, false, false, false, false, false] rfl rfl (any_of HT_.out (by kernel_rfl)) (fun _ _ _ h => h) (Or.inl ⟨by rfl, ?_⟩) ?_ ?_
          rotate_left
          ·intro w'
           go_simp
           with_reducible rfl
          rotate_left
          ·simp only [Act.put, List.setIfInBounds_toArray, List.set_cons_zero, List.set_cons_succ, i64_w, i32_w]
           rfl
          refine take_ (i := 2) (N := some 10) (v := ?_) (a' := ?_) #[true, true, true, false, false, true, true, false, false, false, false, false, false, false] rfl rfl (take_ofW HT_.out HW_.out (by kernel_rfl)) (fun _ _ _ h => h) (Or.inl ⟨by rfl, ?_⟩) hHeld ?_ ?_
          rotate_left
          ·rintro w' ⟨s0, s1, s2, s3, s4, s5, s6, s7, s8, s9, s10, s11⟩
           go_simp
           with_reducible rfl
          rotate_left
          ·simp only [Act.put, List.setIfInBounds_toArray, List.set_cons_zero, List.set_cons_succ, i64_w, i32_w]
           rfl
          refine pure_ (i := 3) (N := some 11) (v := ?_) (a' := ?_) #[true, true, true, true, false, true, true, false, false, false, false, false, false, false] rfl rfl (any_of HT_.out (by kernel_rfl)) (fun _ _ _ h => h) (Or.inl ⟨by rfl, ?_⟩) ?_ ?_
          rotate_left
          ·intro w'
           go_simp
           with_reducible rfl
          rotate_left
          ·simp only [Act.put, List.setIfInBounds_toArray, List.set_cons_zero, List.set_cons_succ, i64_w, i32_w]
           rfl
          refine take_ (i := 4) (N := some 12) (v := ?_) (a' := ?_) #[true, true, true, true, true, true, true, false, false, false, false, false, false, false] rfl rfl (take_ofW HT_.out HW_.out (by kernel_rfl)) (fun _ _ _ h => h) (Or.inl ⟨by rfl, ?_⟩) hHeld ?_ ?_
          rotate_left
          ·rintro w' ⟨s0, s1, s2, s3, s4, s5, s6, s7, s8, s9, s10, s11⟩
           go_simp
           with_reducible rfl
          rotate_left
          ·simp only [Act.put, List.setIfInBounds_toArray, List.set_cons_zero, List.set_cons_succ, i64_w, i32_w]
           rfl
          refine take_ (i := 7) (N := some 15) (v := ?_) (a' := ?_) #[true, true, true, true, true, true, true, true, false, false, false, false, false, false] rfl rfl (take_ofW HT_.out HW_.out (by kernel_rfl)) (fun _ _ _ h => h) (Or.inl ⟨by rfl, ?_⟩) hHeld ?_ ?_
          rotate_left
          ·rintro w' ⟨s0, s1, s2, s3, s4, s5, s6, s7, s8, s9, s10, s11⟩
           go_simp
           with_reducible rfl
          rotate_left
          ·simp only [Act.put, List.setIfInBounds_toArray, List.set_cons_zero, List.set_cons_succ, i64_w, i32_w]
           rfl
          refine pure_ (i := 8) (N := some 16) (v := ?_) (a' := ?_) #[true, true, true, true, true, true, true, true, true, false, false, false, false, false] rfl rfl (any_of HT_.out (by kernel_rfl)) (fun _ _ _ h => h) (Or.inl ⟨by rfl, ?_⟩) ?_ ?_
          rotate_left
          ·intro w'
           go_simp
           with_reducible rfl
          rotate_left
          ·simp only [Act.put, List.setIfInBounds_toArray, List.set_cons_zero, List.set_cons_succ, i64_w, i32_w]
           rfl
          refine take_ (i := 9) (N := some 17) (v := ?_) (a' := ?_) #[true, true, true, true, true, true, true, true, true, true, false, false, false, false] rfl rfl (take_ofW HT_.out HW_.out (by kernel_rfl)) (fun _ _ _ h => h) (Or.inl ⟨by rfl, ?_⟩) hHeld ?_ ?_
          rotate_left
          ·rintro w' ⟨s0, s1, s2, s3, s4, s5, s6, s7, s8, s9, s10, s11⟩
           go_simp
           with_reducible rfl
          rotate_left
          ·simp only [Act.put, List.setIfInBounds_toArray, List.set_cons_zero, List.set_cons_succ, i64_w, i32_w]
           rfl
          refine join_ (σ := Nat × Nat) 2 #[true, true, true, true, true, true, true, true, true, true, true, true, false, false] (fun s_ => [(5, .pointer (some ⟨s_.1, 0, none⟩)), (6, .pointer (some ⟨s_.2, 0, none⟩))]) (fun s_ w' => (w'.cell? ⟨gb226, 0, none⟩ = some (.int .i64 a1_0) ∧ w'.cell? ⟨gb226, 1, none⟩ = some (.int .i64 a1_1) ∧ w'.cell? ⟨gb226, 2, none⟩ = some (.int .i64 a1_2) ∧ w'.cell? ⟨gb226, 3, none⟩ = some (.int .i64 a1_3) ∧ w'.cell? (ad227.add ((a1_0).toNat * 4)) = some (.string ((rd_T45 l0 a1_0).f0)) ∧ w'.cell? ⟨(ad227.add ((a1_0).toNat * 4)).block, (ad227.add ((a1_0).toNat * 4)).off + 1, none⟩ = some (.slice A227_1 ((rd_T45 l0 a1_0).f1.f0).length c227_1) ∧ w'.cell? ⟨(ad227.add ((a1_0).toNat * 4)).block, (ad227.add ((a1_0).toNat * 4)).off + 2, none⟩ = some (.int .i64 ((rd_T45 l0 a1_0).f1.f1)) ∧ w'.cell? ⟨(ad227.add ((a1_0).toNat * 4)).block, (ad227.add ((a1_0).toNat * 4)).off + 3, none⟩ = some (.int .i64 ((rd_T45 l0 a1_0).f1.f2)) ∧ w'.cell? (ad227.add ((a1_1).toNat * 4)) = some (.string ((rd_T45 l0 a1_1).f0)) ∧ w'.cell? ⟨(ad227.add ((a1_1).toNat * 4)).block, (ad227.add ((a1_1).toNat * 4)).off + 1, none⟩ = some (.slice A228_1 ((rd_T45 l0 a1_1).f1.f0).length c228_1) ∧ w'.cell? ⟨(ad227.add ((a1_1).toNat * 4)).block, (ad227.add ((a1_1).toNat * 4)).off + 2, none⟩ = some (.int .i64 ((rd_T45 l0 a1_1).f1.f1)) ∧ w'.cell? ⟨(ad227.add ((a1_1).toNat * 4)).block, (ad227.add ((a1_1).toNat * 4)).off + 3, none⟩ = some (.int .i64 ((rd_T45 l0 a1_1).f1.f2))) ∧ (w'.heap[gb226]? = some (.cells #[.int .i64 a1_0, .int .i64 a1_1, .int .i64 a1_2, .int .i64 a1_3] 57 (0, 0))) ∧ (w'.heap[s_.1]? = some (.cells #[.string (⟨#[]⟩ : ByteArray), .slice none 0 0, .int .i64 0, .int .i64 0] 45 (0, 0))) ∧ (w'.heap[s_.2]? = some (.cells #[.string (⟨#[]⟩ : ByteArray), .slice none 0 0, .int .i64 0, .int .i64 0] 45 (0, 0))) ∧ (w.heap.size ≤ s_.1) ∧ (w.heap.size ≤ s_.1) ∧ (gb226 ≠ s_.1) ∧ (s_.1 ≠ gb226) ∧ (s_.2 ≠ s_.1) ∧ (s_.1 ≠ s_.2) ∧ (w.heap.size ≤ s_.2) ∧ (w.heap.size ≤ s_.2) ∧ (gb226 ≠ s_.2) ∧ (s_.2 ≠ gb226) ∧ (Below w.heap.size w w')) ?_ ?_
          rotate_left
          ·intro hCont
           refine two_ (i := 10) (j := 11) (Ni := some 5) (Nj := some 6) #[true, true, true, true, true, true, true, true, true, true, true, false, false, false] #[true, true, true, true, true, true, true, true, true, true, false, true, false, false] rfl rfl rfl rfl (two_of HT_.out (by kernel_rfl)) (by decide) (by decide) (fun K hK => ?_) (fun K hK => ?_)
           ·skip
            refine box_step ?hg (N := 5) ?hd (cs := #[.string (⟨#[]⟩ : ByteArray), .slice none 0 0, .int .i64 0, .int .i64 0]) (t := 45) ?hr ?_; (case hd => rfl); (case hg => rfl); (case hr => exact ts19_)
            intro gb229 hg w36 hbox hb
            have n0_ := Aside0.mk (blk_below (g := gb226) (o := .cells #[.int .i64 a1_0, .int .i64 a1_1, .int .i64 a1_2, .int .i64 a1_3] 57 (0, 0)) (ts18_ BK226.out) hb)
            have n1_ := Aside0.mk (below_step (ts22_ HB.out GE226.out) hb)
            have n2_ := Aside0.mk (hbox)
            have n3_ := Aside0.mk ((ts76_ HB.out GE226.out : w.heap.size ≤ gb229))
            have n4_ := Aside0.mk ((ts76_ HB.out GE226.out : w.heap.size ≤ gb229))
            have n5_ := Aside0.mk ((ts78_ BK226.out : gb226 ≠ gb229))
            have n6_ := Aside0.mk ((ts61_ BK226.out : gb229 ≠ gb226))
            clear BK226
            clear HB
            have BK226 := n0_
            have HB := n1_
            have BK229 := n2_
            have GW229 := n3_
            have GE229 := n4_
            have NB226_229 := n5_
            have NB229_226 := n6_
            clear n0_ n1_ n2_ n3_ n4_ n5_ n6_
            clear hb hbox hg
            refine hK.out _ _ ⟨(blk_cell BK226.out 0).trans rfl, (blk_cell BK226.out 1).trans rfl, (blk_cell BK226.out 2).trans rfl, (blk_cell BK226.out 3).trans rfl, ((HB.out.cell (World.block_lt_of_cell? w _ hw227_0)).trans hw227_0), ((HB.out.cell (World.block_lt_of_cell? w _ hw227_1)).trans hw227_1), ((HB.out.cell (World.block_lt_of_cell? w _ hw227_2)).trans hw227_2), ((HB.out.cell (World.block_lt_of_cell? w _ hw227_3)).trans hw227_3), ((HB.out.cell (World.block_lt_of_cell? w _ hw228_0)).trans hw228_0), ((HB.out.cell (World.block_lt_of_cell? w _ hw228_1)).trans hw228_1), ((HB.out.cell (World.block_lt_of_cell? w _ hw228_2)).trans hw228_2), ((HB.out.cell (World.block_lt_of_cell? w _ hw228_3)).trans hw228_3)⟩ (fun hHeld => ?_)
            clear hK K
            refine norm_ (a' := ?_) ?_ ?_
            rotate_left
            ·show Act.put _ (some 5) _ = _
             simp only [Act.put, List.setIfInBounds_toArray, List.set_cons_zero, List.set_cons_succ, i64_w, i32_w]
             rfl
            refine one_ (i := 11) (N := some 6) #[true, true, true, true, true, true, true, true, true, true, true, true, false, false] rfl rfl (one_of HT_.out (by kernel_rfl)) (by decide) (fun K hK => ?_)
            refine box_step ?hg (N := 6) ?hd (cs := #[.string (⟨#[]⟩ : ByteArray), .slice none 0 0, .int .i64 0, .int .i64 0]) (t := 45) ?hr ?_; (case hd => rfl); (case hg => rfl); (case hr => exact ts19_)
            intro gb230 hg w37 hbox hb
            have n0_ := Aside0.mk (blk_below (g := gb226) (o := .cells #[.int .i64 a1_0, .int .i64 a1_1, .int .i64 a1_2, .int .i64 a1_3] 57 (0, 0)) (ts18_ BK226.out) hb)
            have n1_ := Aside0.mk (blk_below (g := gb229) (o := .cells #[.string (⟨#[]⟩ : ByteArray), .slice none 0 0, .int .i64 0, .int .i64 0] 45 (0, 0)) (ts18_ BK229.out) hb)
            have n2_ := Aside0.mk (below_step (ts31_ HB.out GE226.out GE229.out) hb)
            have n3_ := Aside0.mk (hbox)
            have n4_ := Aside0.mk ((ts79_ HB.out GE226.out GE229.out : w.heap.size ≤ gb230))
            have n5_ := Aside0.mk ((ts79_ HB.out GE226.out GE229.out : w.heap.size ≤ gb230))
            have n6_ := Aside0.mk ((ts78_ BK226.out : gb226 ≠ gb230))
            have n7_ := Aside0.mk ((ts61_ BK226.out : gb230 ≠ gb226))
            have n8_ := Aside0.mk ((ts62_ BK229.out : gb229 ≠ gb230))
            have n9_ := Aside0.mk ((ts82_ BK229.out : gb230 ≠ gb229))
            clear BK226
            clear BK229
            clear HB
            have BK226 := n0_
            have BK229 := n1_
            have HB := n2_
            have BK230 := n3_
            have GW230 := n4_
            have GE230 := n5_
            have NB226_230 := n6_
            have NB230_226 := n7_
            have NB229_230 := n8_
            have NB230_229 := n9_
            clear n0_ n1_ n2_ n3_ n4_ n5_ n6_ n7_ n8_ n9_
            clear hb hbox hg
            refine hK.out _ _ ⟨(blk_cell BK226.out 0).trans rfl, (blk_cell BK226.out 1).trans rfl, (blk_cell BK226.out 2).trans rfl, (blk_cell BK226.out 3).trans rfl, ((HB.out.cell (World.block_lt_of_cell? w _ hw227_0)).trans hw227_0), ((HB.out.cell (World.block_lt_of_cell? w _ hw227_1)).trans hw227_1), ((HB.out.cell (World.block_lt_of_cell? w _ hw227_2)).trans hw227_2), ((HB.out.cell (World.block_lt_of_cell? w _ hw227_3)).trans hw227_3), ((HB.out.cell (World.block_lt_of_cell? w _ hw228_0)).trans hw228_0), ((HB.out.cell (World.block_lt_of_cell? w _ hw228_1)).trans hw228_1), ((HB.out.cell (World.block_lt_of_cell? w _ hw228_2)).trans hw228_2), ((HB.out.cell (World.block_lt_of_cell? w _ hw228_3)).trans hw228_3)⟩ (fun hHeld => ?_)
            clear hK K
            refine norm_ (a' := ?_) ?_ ?_
            rotate_left
            ·show Act.put _ (some 6) _ = _
             simp only [Act.put, List.setIfInBounds_toArray, List.set_cons_zero, List.set_cons_succ, i64_w, i32_w]
             rfl
            exact norm_ ts7_ (hCont (gb229, gb230) _ ⟨hHeld, (ts18_ BK226.out), (ts18_ BK229.out), (ts18_ BK230.out), GW229.out, GE229.out, NB226_229.out, NB229_226.out, NB230_229.out, NB229_230.out, GW230.out, GE230.out, NB226_230.out, NB230_226.out, (ts39_ HB.out GE226.out GE229.out GE230.out)⟩)
           skip
           refine box_step ?hg (N := 6) ?hd (cs := #[.string (⟨#[]⟩ : ByteArray), .slice none 0 0, .int .i64 0, .int .i64 0]) (t := 45) ?hr ?_; (case hd => rfl); (case hg => rfl); (case hr => exact ts19_)
           intro gb230 hg w36 hbox hb
           have n0_ := Aside0.mk (blk_below (g := gb226) (o := .cells #[.int .i64 a1_0, .int .i64 a1_1, .int .i64 a1_2, .int .i64 a1_3] 57 (0, 0)) (ts18_ BK226.out) hb)
           have n1_ := Aside0.mk (below_step (ts22_ HB.out GE226.out) hb)
           have n2_ := Aside0.mk (hbox)
           have n3_ := Aside0.mk ((ts76_ HB.out GE226.out : w.heap.size ≤ gb230))
           have n4_ := Aside0.mk ((ts76_ HB.out GE226.out : w.heap.size ≤ gb230))
           have n5_ := Aside0.mk ((ts78_ BK226.out : gb226 ≠ gb230))
           have n6_ := Aside0.mk ((ts61_ BK226.out : gb230 ≠ gb226))
           clear BK226
           clear HB
           have BK226 := n0_
           have HB := n1_
           have BK230 := n2_
           have GW230 := n3_
           have GE230 := n4_
           have NB226_230 := n5_
           have NB230_226 := n6_
           clear n0_ n1_ n2_ n3_ n4_ n5_ n6_
           clear hb hbox hg
           refine hK.out _ _ ⟨(blk_cell BK226.out 0).trans rfl, (blk_cell BK226.out 1).trans rfl, (blk_cell BK226.out 2).trans rfl, (blk_cell BK226.out 3).trans rfl, ((HB.out.cell (World.block_lt_of_cell? w _ hw227_0)).trans hw227_0), ((HB.out.cell (World.block_lt_of_cell? w _ hw227_1)).trans hw227_1), ((HB.out.cell (World.block_lt_of_cell? w _ hw227_2)).trans hw227_2), ((HB.out.cell (World.block_lt_of_cell? w _ hw227_3)).trans hw227_3), ((HB.out.cell (World.block_lt_of_cell? w _ hw228_0)).trans hw228_0), ((HB.out.cell (World.block_lt_of_cell? w _ hw228_1)).trans hw228_1), ((HB.out.cell (World.block_lt_of_cell? w _ hw228_2)).trans hw228_2), ((HB.out.cell (World.block_lt_of_cell? w _ hw228_3)).trans hw228_3)⟩ (fun hHeld => ?_)
           clear hK K
           refine norm_ (a' := ?_) ?_ ?_
           rotate_left
           ·show Act.put _ (some 6) _ = _
            simp only [Act.put, List.setIfInBounds_toArray, List.set_cons_zero, List.set_cons_succ, i64_w, i32_w]
            rfl
           refine one_ (i := 10) (N := some 5) #[true, true, true, true, true, true, true, true, true, true, true, true, false, false] rfl rfl (one_of HT_.out (by kernel_rfl)) (by decide) (fun K hK => ?_)
           refine box_step ?hg (N := 5) ?hd (cs := #[.string (⟨#[]⟩ : ByteArray), .slice none 0 0, .int .i64 0, .int .i64 0]) (t := 45) ?hr ?_; (case hd => rfl); (case hg => rfl); (case hr => exact ts19_)
           intro gb229 hg w37 hbox hb
           have n0_ := Aside0.mk (blk_below (g := gb226) (o := .cells #[.int .i64 a1_0, .int .i64 a1_1, .int .i64 a1_2, .int .i64 a1_3] 57 (0, 0)) (ts18_ BK226.out) hb)
           have n1_ := Aside0.mk (blk_below (g := gb230) (o := .cells #[.string (⟨#[]⟩ : ByteArray), .slice none 0 0, .int .i64 0, .int .i64 0] 45 (0, 0)) (ts18_ BK230.out) hb)
           have n2_ := Aside0.mk (below_step (ts31_ HB.out GE226.out GE230.out) hb)
           have n3_ := Aside0.mk (hbox)
           have n4_ := Aside0.mk ((ts79_ HB.out GE226.out GE230.out : w.heap.size ≤ gb229))
           have n5_ := Aside0.mk ((ts79_ HB.out GE226.out GE230.out : w.heap.size ≤ gb229))
           have n6_ := Aside0.mk ((ts78_ BK226.out : gb226 ≠ gb229))
           have n7_ := Aside0.mk ((ts61_ BK226.out : gb229 ≠ gb226))
           have n8_ := Aside0.mk ((ts75_ BK230.out : gb230 ≠ gb229))
           have n9_ := Aside0.mk ((ts65_ BK230.out : gb229 ≠ gb230))
           clear BK226
           clear BK230
           clear HB
           have BK226 := n0_
           have BK230 := n1_
           have HB := n2_
           have BK229 := n3_
           have GW229 := n4_
           have GE229 := n5_
           have NB226_229 := n6_
           have NB229_226 := n7_
           have NB230_229 := n8_
           have NB229_230 := n9_
           clear n0_ n1_ n2_ n3_ n4_ n5_ n6_ n7_ n8_ n9_
           clear hb hbox hg
           refine hK.out _ _ ⟨(blk_cell BK226.out 0).trans rfl, (blk_cell BK226.out 1).trans rfl, (blk_cell BK226.out 2).trans rfl, (blk_cell BK226.out 3).trans rfl, ((HB.out.cell (World.block_lt_of_cell? w _ hw227_0)).trans hw227_0), ((HB.out.cell (World.block_lt_of_cell? w _ hw227_1)).trans hw227_1), ((HB.out.cell (World.block_lt_of_cell? w _ hw227_2)).trans hw227_2), ((HB.out.cell (World.block_lt_of_cell? w _ hw227_3)).trans hw227_3), ((HB.out.cell (World.block_lt_of_cell? w _ hw228_0)).trans hw228_0), ((HB.out.cell (World.block_lt_of_cell? w _ hw228_1)).trans hw228_1), ((HB.out.cell (World.block_lt_of_cell? w _ hw228_2)).trans hw228_2), ((HB.out.cell (World.block_lt_of_cell? w _ hw228_3)).trans hw228_3)⟩ (fun hHeld => ?_)
           clear hK K
           refine norm_ (a' := ?_) ?_ ?_
           rotate_left
           ·show Act.put _ (some 5) _ = _
            simp only [Act.put, List.setIfInBounds_toArray, List.set_cons_zero, List.set_cons_succ, i64_w, i32_w]
            rfl
           exact norm_ ts7_ (hCont (gb229, gb230) _ ⟨hHeld, (ts18_ BK226.out), (ts18_ BK229.out), (ts18_ BK230.out), GW229.out, GE229.out, NB226_229.out, NB229_226.out, NB230_229.out, NB229_230.out, GW230.out, GE230.out, NB226_230.out, NB230_226.out, (ts39_ HB.out GE226.out GE230.out GE229.out)⟩)
          rintro ⟨gb229, gb230⟩ w38 ⟨hS_, h0_, h1_, h2_, h3_, h4_, h5_, h6_, h7_, h8_, h9_, h10_, h11_, h12_, h13_⟩
          have n0_ : Aside0 (w38.heap[gb226]? = some (.cells #[.int .i64 a1_0, .int .i64 a1_1, .int .i64 a1_2, .int .i64 a1_3] 57 (0, 0))) := ⟨h0_⟩
          have n1_ : Aside0 (w38.heap[gb229]? = some (.cells #[.string (⟨#[]⟩ : ByteArray), .slice none 0 0, .int .i64 0, .int .i64 0] 45 (0, 0))) := ⟨h1_⟩
          have n2_ : Aside0 (w38.heap[gb230]? = some (.cells #[.string (⟨#[]⟩ : ByteArray), .slice none 0 0, .int .i64 0, .int .i64 0] 45 (0, 0))) := ⟨h2_⟩
          have n3_ : Aside0 (w.heap.size ≤ gb229) := ⟨h3_⟩
          have n4_ : Aside0 (w.heap.size ≤ gb229) := ⟨h4_⟩
          have n5_ : Aside0 (gb226 ≠ gb229) := ⟨h5_⟩
          have n6_ : Aside0 (gb229 ≠ gb226) := ⟨h6_⟩
          have n7_ : Aside0 (gb230 ≠ gb229) := ⟨h7_⟩
          have n8_ : Aside0 (gb229 ≠ gb230) := ⟨h8_⟩
          have n9_ : Aside0 (w.heap.size ≤ gb230) := ⟨h9_⟩
          have n10_ : Aside0 (w.heap.size ≤ gb230) := ⟨h10_⟩
          have n11_ : Aside0 (gb226 ≠ gb230) := ⟨h11_⟩
          have n12_ : Aside0 (gb230 ≠ gb226) := ⟨h12_⟩
          have n13_ : Aside0 (Below w.heap.size w w38) := ⟨h13_⟩
          clear BK226
          clear HB
          clear h0_ h1_ h2_ h3_ h4_ h5_ h6_ h7_ h8_ h9_ h10_ h11_ h12_ h13_
          have BK226 := n0_
          have BK229 := n1_
          have BK230 := n2_
          have GW229 := n3_
          have GE229 := n4_
          have NB226_229 := n5_
          have NB229_226 := n6_
          have NB230_229 := n7_
          have NB229_230 := n8_
          have GW230 := n9_
          have GE230 := n10_
          have NB226_230 := n11_
          have NB230_226 := n12_
          have HB := n13_
          clear n0_ n1_ n2_ n3_ n4_ n5_ n6_ n7_ n8_ n9_ n10_ n11_ n12_ n13_
          have hHeld : w38.cell? ⟨gb226, 0, none⟩ = some (.int .i64 a1_0) ∧ w38.cell? ⟨gb226, 1, none⟩ = some (.int .i64 a1_1) ∧ w38.cell? ⟨gb226, 2, none⟩ = some (.int .i64 a1_2) ∧ w38.cell? ⟨gb226, 3, none⟩ = some (.int .i64 a1_3) ∧ w38.cell? (ad227.add ((a1_0).toNat * 4)) = some (.string ((rd_T45 l0 a1_0).f0)) ∧ w38.cell? ⟨(ad227.add ((a1_0).toNat * 4)).block, (ad227.add ((a1_0).toNat * 4)).off + 1, none⟩ = some (.slice A227_1 ((rd_T45 l0 a1_0).f1.f0).length c227_1) ∧ w38.cell? ⟨(ad227.add ((a1_0).toNat * 4)).block, (ad227.add ((a1_0).toNat * 4)).off + 2, none⟩ = some (.int .i64 ((rd_T45 l0 a1_0).f1.f1)) ∧ w38.cell? ⟨(ad227.add ((a1_0).toNat * 4)).block, (ad227.add ((a1_0).toNat * 4)).off + 3, none⟩ = some (.int .i64 ((rd_T45 l0 a1_0).f1.f2)) ∧ w38.cell? (ad227.add ((a1_1).toNat * 4)) = some (.string ((rd_T45 l0 a1_1).f0)) ∧ w38.cell? ⟨(ad227.add ((a1_1).toNat * 4)).block, (ad227.add ((a1_1).toNat * 4)).off + 1, none⟩ = some (.slice A228_1 ((rd_T45 l0 a1_1).f1.f0).length c228_1) ∧ w38.cell? ⟨(ad227.add ((a1_1).toNat * 4)).block, (ad227.add ((a1_1).toNat * 4)).off + 2, none⟩ = some (.int .i64 ((rd_T45 l0 a1_1).f1.f1)) ∧ w38.cell? ⟨(ad227.add ((a1_1).toNat * 4)).block, (ad227.add ((a1_1).toNat * 4)).off + 3, none⟩ = some (.int .i64 ((rd_T45 l0 a1_1).f1.f2)) := hS_
          refine norm_ (a' := ?_) ?_ ?_
          rotate_left
          ·simp only [putAll, Act.put, List.setIfInBounds_toArray, List.set_cons_zero, List.set_cons_succ]
           rfl
          refine one_ (i := 12) (N := none) #[true, true, true, true, true, true, true, true, true, true, true, true, true, false] rfl rfl (one_of HT_.out (by kernel_rfl)) (by decide) (fun K hK => ?_)
          have hs39 : w38.cell? ⟨gb229, 0, none⟩ = some (.string (⟨#[]⟩ : ByteArray)) := (blk_cell BK229.out 0).trans rfl
          have hfs39 := blk_frozen BK229.out 0
          have hns39_0 := NB226_229.out
          have hns39_2 := NB230_229.out
          have hms39_0 := NB229_226.out
          have hms39_2 := NB229_230.out
          have hs40 : w38.cell? ⟨gb229, 1, none⟩ = some (.slice none 0 0) := (blk_cell BK229.out 1).trans rfl
          have hfs40 := blk_frozen BK229.out 1
          have hns40_0 := NB226_229.out
          have hns40_2 := NB230_229.out
          have hms40_0 := NB229_226.out
          have hms40_2 := NB229_230.out
          have hs41 : w38.cell? ⟨gb229, 2, none⟩ = some (.int .i64 0) := (blk_cell BK229.out 2).trans rfl
          have hfs41 := blk_frozen BK229.out 2
          have hns41_0 := NB226_229.out
          have hns41_2 := NB230_229.out
          have hms41_0 := NB229_226.out
          have hms41_2 := NB229_230.out
          have hs42 : w38.cell? ⟨gb229, 3, none⟩ = some (.int .i64 0) := (blk_cell BK229.out 3).trans rfl
          have hfs42 := blk_frozen BK229.out 3
          have hns42_0 := NB226_229.out
          have hns42_2 := NB230_229.out
          have hms42_0 := NB229_226.out
          have hms42_2 := NB229_230.out
          refine skip_ (w1 := ?_) (by rfl) rfl ?_ ?_
          rotate_left
          ·go_simp
           rfl
          refine hK.out _ _ ⟨((cell_far (p := ⟨gb229, _, none⟩) NB226_229.out _).trans (((cell_far (p := ⟨gb229, _, none⟩) NB226_229.out _).trans (((cell_far (p := ⟨gb229, _, none⟩) NB226_229.out _).trans (((cell_far (p := ⟨gb229, _, none⟩) NB226_229.out _).trans (hHeld.1)))))))), ((cell_far (p := ⟨gb229, _, none⟩) NB226_229.out _).trans (((cell_far (p := ⟨gb229, _, none⟩) NB226_229.out _).trans (((cell_far (p := ⟨gb229, _, none⟩) NB226_229.out _).trans (((cell_far (p := ⟨gb229, _, none⟩) NB226_229.out _).trans (hHeld.2.1)))))))), ((cell_far (p := ⟨gb229, _, none⟩) NB226_229.out _).trans (((cell_far (p := ⟨gb229, _, none⟩) NB226_229.out _).trans (((cell_far (p := ⟨gb229, _, none⟩) NB226_229.out _).trans (((cell_far (p := ⟨gb229, _, none⟩) NB226_229.out _).trans (hHeld.2.2.1)))))))), ((cell_far (p := ⟨gb229, _, none⟩) NB226_229.out _).trans (((cell_far (p := ⟨gb229, _, none⟩) NB226_229.out _).trans (((cell_far (p := ⟨gb229, _, none⟩) NB226_229.out _).trans (((cell_far (p := ⟨gb229, _, none⟩) NB226_229.out _).trans (hHeld.2.2.2.1)))))))), ((cell_far (p := ⟨gb229, _, none⟩) (ts80_ GW229.out) _).trans (((cell_far (p := ⟨gb229, _, none⟩) (ts80_ GW229.out) _).trans (((cell_far (p := ⟨gb229, _, none⟩) (ts80_ GW229.out) _).trans (((cell_far (p := ⟨gb229, _, none⟩) (ts80_ GW229.out) _).trans (hHeld.2.2.2.2.1)))))))), ((cell_far (p := ⟨gb229, _, none⟩) (ts51_ GW229.out) _).trans (((cell_far (p := ⟨gb229, _, none⟩) (ts51_ GW229.out) _).trans (((cell_far (p := ⟨gb229, _, none⟩) (ts51_ GW229.out) _).trans (((cell_far (p := ⟨gb229, _, none⟩) (ts51_ GW229.out) _).trans (hHeld.2.2.2.2.2.1)))))))), ((cell_far (p := ⟨gb229, _, none⟩) (ts56_ GW229.out) _).trans (((cell_far (p := ⟨gb229, _, none⟩) (ts56_ GW229.out) _).trans (((cell_far (p := ⟨gb229, _, none⟩) (ts56_ GW229.out) _).trans (((cell_far (p := ⟨gb229, _, none⟩) (ts56_ GW229.out) _).trans (hHeld.2.2.2.2.2.2.1)))))))), ((cell_far (p := ⟨gb229, _, none⟩) (ts67_ GW229.out) _).trans (((cell_far (p := ⟨gb229, _, none⟩) (ts67_ GW229.out) _).trans (((cell_far (p := ⟨gb229, _, none⟩) (ts67_ GW229.out) _).trans (((cell_far (p := ⟨gb229, _, none⟩) (ts67_ GW229.out) _).trans (hHeld.2.2.2.2.2.2.2.1)))))))), ((cell_far (p := ⟨gb229, _, none⟩) (ts63_ GW229.out) _).trans (((cell_far (p := ⟨gb229, _, none⟩) (ts63_ GW229.out) _).trans (((cell_far (p := ⟨gb229, _, none⟩) (ts63_ GW229.out) _).trans (((cell_far (p := ⟨gb229, _, none⟩) (ts63_ GW229.out) _).trans (hHeld.2.2.2.2.2.2.2.2.1)))))))), ((cell_far (p := ⟨gb229, _, none⟩) (ts70_ GW229.out) _).trans (((cell_far (p := ⟨gb229, _, none⟩) (ts70_ GW229.out) _).trans (((cell_far (p := ⟨gb229, _, none⟩) (ts70_ GW229.out) _).trans (((cell_far (p := ⟨gb229, _, none⟩) (ts70_ GW229.out) _).trans (hHeld.2.2.2.2.2.2.2.2.2.1)))))))), ((cell_far (p := ⟨gb229, _, none⟩) (ts74_ GW229.out) _).trans (((cell_far (p := ⟨gb229, _, none⟩) (ts74_ GW229.out) _).trans (((cell_far (p := ⟨gb229, _, none⟩) (ts74_ GW229.out) _).trans (((cell_far (p := ⟨gb229, _, none⟩) (ts74_ GW229.out) _).trans (hHeld.2.2.2.2.2.2.2.2.2.2.1)))))))), ((cell_far (p := ⟨gb229, _, none⟩) (ts46_ GW229.out) _).trans (((cell_far (p := ⟨gb229, _, none⟩) (ts46_ GW229.out) _).trans (((cell_far (p := ⟨gb229, _, none⟩) (ts46_ GW229.out) _).trans (((cell_far (p := ⟨gb229, _, none⟩) (ts46_ GW229.out) _).trans (hHeld.2.2.2.2.2.2.2.2.2.2.2))))))))⟩ (fun hHeld => ?_)
          clear hK K
          refine one_ (i := 13) (N := none) #[true, true, true, true, true, true, true, true, true, true, true, true, true, true] rfl rfl (one_of HT_.out (by kernel_rfl)) (by decide) (fun K hK => ?_)
          have hs43 : w38.cell? ⟨gb230, 0, none⟩ = some (.string (⟨#[]⟩ : ByteArray)) := (blk_cell BK230.out 0).trans rfl
          have hfs43 := blk_frozen BK230.out 0
          have hns43_0 := NB226_230.out
          have hns43_1 := NB229_230.out
          have hms43_0 := NB230_226.out
          have hms43_1 := NB230_229.out
          have hs44 : w38.cell? ⟨gb230, 1, none⟩ = some (.slice none 0 0) := (blk_cell BK230.out 1).trans rfl
          have hfs44 := blk_frozen BK230.out 1
          have hns44_0 := NB226_230.out
          have hns44_1 := NB229_230.out
          have hms44_0 := NB230_226.out
          have hms44_1 := NB230_229.out
          have hs45 : w38.cell? ⟨gb230, 2, none⟩ = some (.int .i64 0) := (blk_cell BK230.out 2).trans rfl
          have hfs45 := blk_frozen BK230.out 2
          have hns45_0 := NB226_230.out
          have hns45_1 := NB229_230.out
          have hms45_0 := NB230_226.out
          have hms45_1 := NB230_229.out
          have hs46 : w38.cell? ⟨gb230, 3, none⟩ = some (.int .i64 0) := (blk_cell BK230.out 3).trans rfl
          have hfs46 := blk_frozen BK230.out 3
          have hns46_0 := NB226_230.out
          have hns46_1 := NB229_230.out
          have hms46_0 := NB230_226.out
          have hms46_1 := NB230_229.out
          refine skip_ (w1 := ?_) (by rfl) rfl ?_ ?_
          rotate_left
          ·go_simp
           rfl
          refine hK.out _ _ ⟨((cell_far (p := ⟨gb230, _, none⟩) NB226_230.out _).trans (((cell_far (p := ⟨gb230, _, none⟩) NB226_230.out _).trans (((cell_far (p := ⟨gb230, _, none⟩) NB226_230.out _).trans (((cell_far (p := ⟨gb230, _, none⟩) NB226_230.out _).trans (hHeld.1)))))))), ((cell_far (p := ⟨gb230, _, none⟩) NB226_230.out _).trans (((cell_far (p := ⟨gb230, _, none⟩) NB226_230.out _).trans (((cell_far (p := ⟨gb230, _, none⟩) NB226_230.out _).trans (((cell_far (p := ⟨gb230, _, none⟩) NB226_230.out _).trans (hHeld.2.1)))))))), ((cell_far (p := ⟨gb230, _, none⟩) NB226_230.out _).trans (((cell_far (p := ⟨gb230, _, none⟩) NB226_230.out _).trans (((cell_far (p := ⟨gb230, _, none⟩) NB226_230.out _).trans (((cell_far (p := ⟨gb230, _, none⟩) NB226_230.out _).trans (hHeld.2.2.1)))))))), ((cell_far (p := ⟨gb230, _, none⟩) NB226_230.out _).trans (((cell_far (p := ⟨gb230, _, none⟩) NB226_230.out _).trans (((cell_far (p := ⟨gb230, _, none⟩) NB226_230.out _).trans (((cell_far (p := ⟨gb230, _, none⟩) NB226_230.out _).trans (hHeld.2.2.2.1)))))))), ((cell_far (p := ⟨gb230, _, none⟩) (ts80_ GW230.out) _).trans (((cell_far (p := ⟨gb230, _, none⟩) (ts80_ GW230.out) _).trans (((cell_far (p := ⟨gb230, _, none⟩) (ts80_ GW230.out) _).trans (((cell_far (p := ⟨gb230, _, none⟩) (ts80_ GW230.out) _).trans (hHeld.2.2.2.2.1)))))))), ((cell_far (p := ⟨gb230, _, none⟩) (ts51_ GW230.out) _).trans (((cell_far (p := ⟨gb230, _, none⟩) (ts51_ GW230.out) _).trans (((cell_far (p := ⟨gb230, _, none⟩) (ts51_ GW230.out) _).trans (((cell_far (p := ⟨gb230, _, none⟩) (ts51_ GW230.out) _).trans (hHeld.2.2.2.2.2.1)))))))), ((cell_far (p := ⟨gb230, _, none⟩) (ts56_ GW230.out) _).trans (((cell_far (p := ⟨gb230, _, none⟩) (ts56_ GW230.out) _).trans (((cell_far (p := ⟨gb230, _, none⟩) (ts56_ GW230.out) _).trans (((cell_far (p := ⟨gb230, _, none⟩) (ts56_ GW230.out) _).trans (hHeld.2.2.2.2.2.2.1)))))))), ((cell_far (p := ⟨gb230, _, none⟩) (ts67_ GW230.out) _).trans (((cell_far (p := ⟨gb230, _, none⟩) (ts67_ GW230.out) _).trans (((cell_far (p := ⟨gb230, _, none⟩) (ts67_ GW230.out) _).trans (((cell_far (p := ⟨gb230, _, none⟩) (ts67_ GW230.out) _).trans (hHeld.2.2.2.2.2.2.2.1)))))))), ((cell_far (p := ⟨gb230, _, none⟩) (ts63_ GW230.out) _).trans (((cell_far (p := ⟨gb230, _, none⟩) (ts63_ GW230.out) _).trans (((cell_far (p := ⟨gb230, _, none⟩) (ts63_ GW230.out) _).trans (((cell_far (p := ⟨gb230, _, none⟩) (ts63_ GW230.out) _).trans (hHeld.2.2.2.2.2.2.2.2.1)))))))), ((cell_far (p := ⟨gb230, _, none⟩) (ts70_ GW230.out) _).trans (((cell_far (p := ⟨gb230, _, none⟩) (ts70_ GW230.out) _).trans (((cell_far (p := ⟨gb230, _, none⟩) (ts70_ GW230.out) _).trans (((cell_far (p := ⟨gb230, _, none⟩) (ts70_ GW230.out) _).trans (hHeld.2.2.2.2.2.2.2.2.2.1)))))))), ((cell_far (p := ⟨gb230, _, none⟩) (ts74_ GW230.out) _).trans (((cell_far (p := ⟨gb230, _, none⟩) (ts74_ GW230.out) _).trans (((cell_far (p := ⟨gb230, _, none⟩) (ts74_ GW230.out) _).trans (((cell_far (p := ⟨gb230, _, none⟩) (ts74_ GW230.out) _).trans (hHeld.2.2.2.2.2.2.2.2.2.2.1)))))))), ((cell_far (p := ⟨gb230, _, none⟩) (ts46_ GW230.out) _).trans (((cell_far (p := ⟨gb230, _, none⟩) (ts46_ GW230.out) _).trans (((cell_far (p := ⟨gb230, _, none⟩) (ts46_ GW230.out) _).trans (((cell_far (p := ⟨gb230, _, none⟩) (ts46_ GW230.out) _).trans (hHeld.2.2.2.2.2.2.2.2.2.2.2))))))))⟩ (fun hHeld => ?_)
          clear hK K
          refine done_ (done_of HT_.out (by kernel_rfl)) ?_
          try go_wp2
          have n0_ : Aside0 (((((((((w38.setCell ⟨gb229, 0, none⟩ (.string ((rd_T45 l0 a1_0).f0))).setCell ⟨gb229, 1, none⟩ (.slice A227_1 ((rd_T45 l0 a1_0).f1.f0).length c227_1)).setCell ⟨gb229, 2, none⟩ (.int .i64 ((rd_T45 l0 a1_0).f1.f1))).setCell ⟨gb229, 3, none⟩ (.int .i64 ((rd_T45 l0 a1_0).f1.f2))).setCell ⟨gb230, 0, none⟩ (.string ((rd_T45 l0 a1_1).f0))).setCell ⟨gb230, 1, none⟩ (.slice A228_1 ((rd_T45 l0 a1_1).f1.f0).length c228_1)).setCell ⟨gb230, 2, none⟩ (.int .i64 ((rd_T45 l0 a1_1).f1.f1))).setCell ⟨gb230, 3, none⟩ (.int .i64 ((rd_T45 l0 a1_1).f1.f2))).heap[gb226]? = some (.cells #[.int .i64 a1_0, .int .i64 a1_1, .int .i64 a1_2, .int .i64 a1_3] 57 (0, 0))) := ⟨ts11_ NB226_230.out NB226_229.out BK226.out⟩
          have n1_ : Aside0 (((((((((w38.setCell ⟨gb229, 0, none⟩ (.string ((rd_T45 l0 a1_0).f0))).setCell ⟨gb229, 1, none⟩ (.slice A227_1 ((rd_T45 l0 a1_0).f1.f0).length c227_1)).setCell ⟨gb229, 2, none⟩ (.int .i64 ((rd_T45 l0 a1_0).f1.f1))).setCell ⟨gb229, 3, none⟩ (.int .i64 ((rd_T45 l0 a1_0).f1.f2))).setCell ⟨gb230, 0, none⟩ (.string ((rd_T45 l0 a1_1).f0))).setCell ⟨gb230, 1, none⟩ (.slice A228_1 ((rd_T45 l0 a1_1).f1.f0).length c228_1)).setCell ⟨gb230, 2, none⟩ (.int .i64 ((rd_T45 l0 a1_1).f1.f1))).setCell ⟨gb230, 3, none⟩ (.int .i64 ((rd_T45 l0 a1_1).f1.f2))).heap[gb229]? = some (.cells #[.string ((rd_T45 l0 a1_0).f0), .slice A227_1 ((rd_T45 l0 a1_0).f1.f0).length c227_1, .int .i64 ((rd_T45 l0 a1_0).f1.f1), .int .i64 ((rd_T45 l0 a1_0).f1.f2)] 45 (0, 0))) := ⟨ts26_ NB229_230.out BK229.out⟩
          have n2_ : Aside0 (((((((((w38.setCell ⟨gb229, 0, none⟩ (.string ((rd_T45 l0 a1_0).f0))).setCell ⟨gb229, 1, none⟩ (.slice A227_1 ((rd_T45 l0 a1_0).f1.f0).length c227_1)).setCell ⟨gb229, 2, none⟩ (.int .i64 ((rd_T45 l0 a1_0).f1.f1))).setCell ⟨gb229, 3, none⟩ (.int .i64 ((rd_T45 l0 a1_0).f1.f2))).setCell ⟨gb230, 0, none⟩ (.string ((rd_T45 l0 a1_1).f0))).setCell ⟨gb230, 1, none⟩ (.slice A228_1 ((rd_T45 l0 a1_1).f1.f0).length c228_1)).setCell ⟨gb230, 2, none⟩ (.int .i64 ((rd_T45 l0 a1_1).f1.f1))).setCell ⟨gb230, 3, none⟩ (.int .i64 ((rd_T45 l0 a1_1).f1.f2))).heap[gb230]? = some (.cells #[.string ((rd_T45 l0 a1_1).f0), .slice A228_1 ((rd_T45 l0 a1_1).f1.f0).length c228_1, .int .i64 ((rd_T45 l0 a1_1).f1.f1), .int .i64 ((rd_T45 l0 a1_1).f1.f2)] 45 (0, 0))) := ⟨ts5_ NB230_229.out BK230.out⟩
          have n3_ : Aside0 (Below w.heap.size w ((((((((w38.setCell ⟨gb229, 0, none⟩ (.string ((rd_T45 l0 a1_0).f0))).setCell ⟨gb229, 1, none⟩ (.slice A227_1 ((rd_T45 l0 a1_0).f1.f0).length c227_1)).setCell ⟨gb229, 2, none⟩ (.int .i64 ((rd_T45 l0 a1_0).f1.f1))).setCell ⟨gb229, 3, none⟩ (.int .i64 ((rd_T45 l0 a1_0).f1.f2))).setCell ⟨gb230, 0, none⟩ (.string ((rd_T45 l0 a1_1).f0))).setCell ⟨gb230, 1, none⟩ (.slice A228_1 ((rd_T45 l0 a1_1).f1.f0).length c228_1)).setCell ⟨gb230, 2, none⟩ (.int .i64 ((rd_T45 l0 a1_1).f1.f1))).setCell ⟨gb230, 3, none⟩ (.int .i64 ((rd_T45 l0 a1_1).f1.f2)))) := ⟨ts39_ HB.out GE226.out GE229.out GE230.out⟩
          (try clear BK226)
          (try clear BK229)
          (try clear BK230)
          (try clear HB)
          generalize ((((((((w38.setCell ⟨gb229, 0, none⟩ (.string ((rd_T45 l0 a1_0).f0))).setCell ⟨gb229, 1, none⟩ (.slice A227_1 ((rd_T45 l0 a1_0).f1.f0).length c227_1)).setCell ⟨gb229, 2, none⟩ (.int .i64 ((rd_T45 l0 a1_0).f1.f1))).setCell ⟨gb229, 3, none⟩ (.int .i64 ((rd_T45 l0 a1_0).f1.f2))).setCell ⟨gb230, 0, none⟩ (.string ((rd_T45 l0 a1_1).f0))).setCell ⟨gb230, 1, none⟩ (.slice A228_1 ((rd_T45 l0 a1_1).f1.f0).length c228_1)).setCell ⟨gb230, 2, none⟩ (.int .i64 ((rd_T45 l0 a1_1).f1.f1))).setCell ⟨gb230, 3, none⟩ (.int .i64 ((rd_T45 l0 a1_1).f1.f2))) = w47 at n0_ n1_ n2_ n3_ ⊢
          have BK226 := n0_
          have BK229 := n1_
          have BK230 := n2_
          have HB := n3_
          clear n0_ n1_ n2_ n3_
          have n0_ := Aside0.mk (blk_drew BK226.out)
          have n1_ := Aside0.mk (blk_drew BK229.out)
          have n2_ := Aside0.mk (blk_drew BK230.out)
          have n3_ := Aside0.mk (below_drew1 HB.out)
          clear BK226
          clear BK229
          clear BK230
          clear HB
          have BK226 := n0_
          have BK229 := n1_
          have BK230 := n2_
          have HB := n3_
          clear n0_ n1_ n2_ n3_
          refine start_ (n := 10) (S := fun w' => w'.cell? ⟨gb229, 0, none⟩ = some (.string ((rd_T45 l0 a1_0).f0)) ∧ w'.cell? ⟨gb229, 1, none⟩ = some (.slice A227_1 ((rd_T45 l0 a1_0).f1.f0).length c227_1) ∧ w'.cell? ⟨gb229, 2, none⟩ = some (.int .i64 ((rd_T45 l0 a1_0).f1.f1)) ∧ w'.cell? ⟨gb229, 3, none⟩ = some (.int .i64 ((rd_T45 l0 a1_0).f1.f2)) ∧ w'.cell? ⟨gb230, 0, none⟩ = some (.string ((rd_T45 l0 a1_1).f0)) ∧ w'.cell? ⟨gb230, 1, none⟩ = some (.slice A228_1 ((rd_T45 l0 a1_1).f1.f0).length c228_1) ∧ w'.cell? ⟨gb230, 2, none⟩ = some (.int .i64 ((rd_T45 l0 a1_1).f1.f1)) ∧ w'.cell? ⟨gb230, 3, none⟩ = some (.int .i64 ((rd_T45 l0 a1_1).f1.f2))) (ds := []) #[false, false, false, false, false, false, false, false, false, false] (by kernel_rfl) rfl rfl ⟨(blk_cell BK229.out 0).trans rfl, (blk_cell BK229.out 1).trans rfl, (blk_cell BK229.out 2).trans rfl, (blk_cell BK229.out 3).trans rfl, (blk_cell BK230.out 0).trans rfl, (blk_cell BK230.out 1).trans rfl, (blk_cell BK230.out 2).trans rfl, (blk_cell BK230.out 3).trans rfl⟩ (fun hHeld => ?_); refine with_tabW cupelref35_part.tab2 cupelref35_part.bits2 (fun HT_ HW_ => ?_)
          generalize w47.drew = w48 at BK226 BK229 BK230 HB hHeld ⊢
          refine pure_ (i := 0) (N := some 18) (v := ?_) (a' := ?_) #[true, false, false, false, false, false, false, false, false, false] rfl rfl (any_of HT_.out (by kernel_rfl)) (fun _ _ _ h => h) (Or.inl ⟨by rfl, ?_⟩) ?_ ?_
          rotate_left
          ·intro w'
           go_simp
           with_reducible rfl
          rotate_left
          ·simp only [Act.put, List.setIfInBounds_toArray, List.set_cons_zero, List.set_cons_succ, i64_w, i32_w]
           rfl
          refine pure_ (i := 4) (N := some 22) (v := ?_) (a' := ?_) #[true, false, false, false, true, false, false, false, false, false] rfl rfl (any_of HT_.out (by kernel_rfl)) (fun _ _ _ h => h) (Or.inl ⟨by rfl, ?_⟩) ?_ ?_
          rotate_left
          ·intro w'
           go_simp
           with_reducible rfl
          rotate_left
          ·simp only [Act.put, List.setIfInBounds_toArray, List.set_cons_zero, List.set_cons_succ, i64_w, i32_w]
           rfl
          refine take_ (i := 1) (N := some 19) (v := ?_) (a' := ?_) #[true, true, false, false, true, false, false, false, false, false] rfl rfl (take_ofW HT_.out HW_.out (by kernel_rfl)) (fun _ _ _ h => h) (Or.inl ⟨by rfl, ?_⟩) hHeld ?_ ?_
          rotate_left
          ·rintro w' ⟨s0, s1, s2, s3, s4, s5, s6, s7⟩
           go_simp
           with_reducible rfl
          rotate_left
          ·simp only [Act.put, List.setIfInBounds_toArray, List.set_cons_zero, List.set_cons_succ, i64_w, i32_w]
           rfl
          refine take_ (i := 5) (N := some 23) (v := ?_) (a' := ?_) #[true, true, false, false, true, true, false, false, false, false] rfl rfl (take_ofW HT_.out HW_.out (by kernel_rfl)) (fun _ _ _ h => h) (Or.inl ⟨by rfl, ?_⟩) hHeld ?_ ?_
          rotate_left
          ·rintro w' ⟨s0, s1, s2, s3, s4, s5, s6, s7⟩
           go_simp
           with_reducible rfl
          rotate_left
          ·simp only [Act.put, List.setIfInBounds_toArray, List.set_cons_zero, List.set_cons_succ, i64_w, i32_w]
           rfl
          refine one_ (i := 2) (N := some 20) #[true, true, true, false, true, true, false, false, false, false] rfl rfl (one_of HT_.out (by kernel_rfl)) (by decide) (fun K hK => ?_)
          refine goes_ Tryd.func17 (by kernel_rfl) rfl #[.string ((rd_T45 l0 a1_0).f0)] (by rfl) rfl rfl ts10_ ?_
          with_reducible refine (cupelref35_Bare.calls k ((rd_T45 l0 a1_0).f0) t231 _ A7.out).mono ?_
          rintro e w' ⟨rfl, ⟨nd, rfl⟩⟩
          refine ⟨_, rfl, ?_⟩
          refine hK.out _ _ ⟨(blk_cell BK229.out 0).trans rfl, (blk_cell BK229.out 1).trans rfl, (blk_cell BK229.out 2).trans rfl, (blk_cell BK229.out 3).trans rfl, (blk_cell BK230.out 0).trans rfl, (blk_cell BK230.out 1).trans rfl, (blk_cell BK230.out 2).trans rfl, (blk_cell BK230.out 3).trans rfl⟩ (fun hHeld => ?_)
          clear hK K
          refine norm_ (a' := ?_) ?_ ?_
          rotate_left
          ·show Act.put _ (some 20) _ = _
           simp only [Act.put, List.setIfInBounds_toArray, List.set_cons_zero, List.set_cons_succ, i64_w, i32_w]
           rfl
          refine pure_ (i := 3) (N := some 21) (v := ?_) (a' := ?_) #[true, true, true, true, true, true, false, false, false, false] rfl rfl (any_of HT_.out (by kernel_rfl)) (fun _ _ _ h => h) (Or.inl ⟨by rfl, ?_⟩) ?_ ?_
          rotate_left
          ·intro w'
           go_simp
           with_reducible rfl
          rotate_left
          ·simp only [Act.put, List.setIfInBounds_toArray, List.set_cons_zero, List.set_cons_succ, i64_w, i32_w]
           rfl
          refine one_ (i := 6) (N := some 24) #[true, true, true, true, true, true, true, false, false, false] rfl rfl (one_of HT_.out (by kernel_rfl)) (by decide) (fun K hK => ?_)
          refine goes_ Tryd.func17 (by kernel_rfl) rfl #[.string ((rd_T45 l0 a1_1).f0)] (by rfl) rfl rfl ts10_ ?_
          with_reducible refine (cupelref35_Bare.calls k ((rd_T45 l0 a1_1).f0) t232 _ A9.out).mono ?_
          rintro e w' ⟨rfl, ⟨nd, rfl⟩⟩
          refine ⟨_, rfl, ?_⟩
          refine hK.out _ _ ⟨(blk_cell BK229.out 0).trans rfl, (blk_cell BK229.out 1).trans rfl, (blk_cell BK229.out 2).trans rfl, (blk_cell BK229.out 3).trans rfl, (blk_cell BK230.out 0).trans rfl, (blk_cell BK230.out 1).trans rfl, (blk_cell BK230.out 2).trans rfl, (blk_cell BK230.out 3).trans rfl⟩ (fun hHeld => ?_)
          clear hK K
          refine norm_ (a' := ?_) ?_ ?_
          rotate_left
          ·show Act.put _ (some 24) _ = _
           simp only [Act.put, List.setIfInBounds_toArray, List.set_cons_zero, List.set_cons_succ, i64_w, i32_w]
           rfl
          refine pure_ (i := 7) (N := some 25) (v := ?_) (a' := ?_) #[true, true, true, true, true, true, true, true, false, false] rfl rfl (any_of HT_.out (by kernel_rfl)) (fun _ _ _ h => h) (Or.inl ⟨by rfl, ?_⟩) ?_ ?_
          rotate_left
          ·intro w'
           go_simp
           with_reducible rfl
          rotate_left
          ·simp only [Act.put, List.setIfInBounds_toArray, List.set_cons_zero, List.set_cons_succ, i64_w, i32_w]
           rfl
          refine pure_ (i := 8) (N := some 26) (v := ?_) (a' := ?_) #[true, true, true, true, true, true, true, true, true, false] rfl rfl (any_of HT_.out (by kernel_rfl)) (fun _ _ _ h => h) (Or.inl ⟨by rfl, ?_⟩) ?_ ?_
          rotate_left
          ·intro w'
           go_simp
           with_reducible rfl
          rotate_left
          ·simp only [Act.put, List.setIfInBounds_toArray, List.set_cons_zero, List.set_cons_succ, i64_w, i32_w]
           rfl
          refine pure_ (i := 9) (N := some 7) (v := ?_) (a' := ?_) #[true, true, true, true, true, true, true, true, true, true] rfl rfl (any_of HT_.out (by kernel_rfl)) (fun _ _ _ h => h) (Or.inl ⟨by rfl, ?_⟩) ?_ ?_
          rotate_left
          ·intro w'
           go_simp
           with_reducible rfl
          rotate_left
          ·simp only [Act.put, List.setIfInBounds_toArray, List.set_cons_zero, List.set_cons_succ, i64_w, i32_w]
           rfl
          refine done_ (done_of HT_.out (by kernel_rfl)) ?_
          have hnb49 := NB226_229.out
          have hnc49 := NB229_226.out
          have hnb50 := NB226_230.out
          have hnc50 := NB230_226.out
          have hcz51_0 : w48.cell? ⟨gb226, 0, none⟩ = some (.int .i64 a1_0) := (blk_cell BK226.out 0).trans rfl
          have hcz51_1 : w48.cell? ⟨gb226, 1, none⟩ = some (.int .i64 a1_1) := (blk_cell BK226.out 1).trans rfl
          have hcz51_2 : w48.cell? ⟨gb226, 2, none⟩ = some (.int .i64 a1_2) := (blk_cell BK226.out 2).trans rfl
          have hcz51_3 : w48.cell? ⟨gb226, 3, none⟩ = some (.int .i64 a1_3) := (blk_cell BK226.out 3).trans rfl
          have hfz51_0 := blk_frozen BK226.out 0
          have hfz51_1 := blk_frozen BK226.out 1
          have hfz51_2 := blk_frozen BK226.out 2
          have hfz51_3 := blk_frozen BK226.out 3
          try go_wp2
          go_ret
          exact ⟨ts33_, ts39_ HB.out GE226.out GE229.out GE230.out⟩
         rw [if_neg c33] at H
         exact absurd H (by simp)
        rw [if_neg c32] at H
        have c32b0 : (a1_2 == 2) = false := beq_eq_false_iff_ne.mpr c32
        have c32b1 : (a1_2 != 2) = true := bne_iff_ne.mpr c32
        by_cases c52 : a1_2 = 3
        ·rw [if_pos c52] at H
         have c52b0 : (a1_2 == 3) = true := beq_iff_eq.mpr c52
         have c52b1 : (a1_2 != 3) = false := bne_eq_false_iff_eq.mpr c52
         clear c52
         by_cases c53 : (((t231 ++ (⟨#[44, 32]⟩ : ByteArray)) ++ t232) ++ (⟨#[58, 32]⟩ : ByteArray)).size + 4 ≤ 9223372036854775807
         ·rw [if_pos c53] at H
          have c53b0 := eq_true c53
          have c53b1 : decide ((((t231 ++ (⟨#[44, 32]⟩ : ByteArray)) ++ t232) ++ (⟨#[58, 32]⟩ : ByteArray)).size + 4 ≤ 9223372036854775807) = true := decide_eq_true c53
          try have c53b2 : (9223372036854775807 < (((t231 ++ (⟨#[44, 32]⟩ : ByteArray)) ++ t232) ++ (⟨#[58, 32]⟩ : ByteArray)).size + 4) = False := eq_false (Nat.not_lt.2 c53)
          have c53b3 := c53b2
          try simp only [ByteArray.size_append, bsz1, bsz2, bsz3, bsz4, bsz5, bsz6] at c53b3
          obtain ⟨t233, A54, H⟩ := bsA_ H
          try dsimp only at H
          by_cases c55 : ((((t231 ++ (⟨#[44, 32]⟩ : ByteArray)) ++ t232) ++ (⟨#[58, 32]⟩ : ByteArray)) ++ (⟨#[101, 110, 100, 32]⟩ : ByteArray)).size + t233.size ≤ 9223372036854775807
          ·rw [if_pos c55] at H
           have c55b0 := eq_true c55
           have c55b1 : decide (((((t231 ++ (⟨#[44, 32]⟩ : ByteArray)) ++ t232) ++ (⟨#[58, 32]⟩ : ByteArray)) ++ (⟨#[101, 110, 100, 32]⟩ : ByteArray)).size + t233.size ≤ 9223372036854775807) = true := decide_eq_true c55
           try have c55b2 : (9223372036854775807 < ((((t231 ++ (⟨#[44, 32]⟩ : ByteArray)) ++ t232) ++ (⟨#[58, 32]⟩ : ByteArray)) ++ (⟨#[101, 110, 100, 32]⟩ : ByteArray)).size + t233.size) = False := eq_false (Nat.not_lt.2 c55)
           have c55b3 := c55b2
           try simp only [ByteArray.size_append, bsz1, bsz2, bsz3, bsz4, bsz5, bsz6] at c55b3
           by_cases c56 : (((((t231 ++ (⟨#[44, 32]⟩ : ByteArray)) ++ t232) ++ (⟨#[58, 32]⟩ : ByteArray)) ++ (⟨#[101, 110, 100, 32]⟩ : ByteArray)) ++ t233).size + 3 ≤ 9223372036854775807
           ·rw [if_pos c56] at H
            have c56b0 := eq_true c56
            have c56b1 : decide ((((((t231 ++ (⟨#[44, 32]⟩ : ByteArray)) ++ t232) ++ (⟨#[58, 32]⟩ : ByteArray)) ++ (⟨#[101, 110, 100, 32]⟩ : ByteArray)) ++ t233).size + 3 ≤ 9223372036854775807) = true := decide_eq_true c56
            try have c56b2 : (9223372036854775807 < (((((t231 ++ (⟨#[44, 32]⟩ : ByteArray)) ++ t232) ++ (⟨#[58, 32]⟩ : ByteArray)) ++ (⟨#[101, 110, 100, 32]⟩ : ByteArray)) ++ t233).size + 3) = False := eq_false (Nat.not_lt.2 c56)
            have c56b3 := c56b2
            try simp only [ByteArray.size_append, bsz1, bsz2, bsz3, bsz4, bsz5, bsz6] at c56b3
            obtain ⟨t234, A57, H⟩ := bsA_ H
            try dsimp only at H
            by_cases c58 : ((((((t231 ++ (⟨#[44, 32]⟩ : ByteArray)) ++ t232) ++ (⟨#[58, 32]⟩ : ByteArray)) ++ (⟨#[101, 110, 100, 32]⟩ : ByteArray)) ++ t233) ++ (⟨#[32, 47, 32]⟩ : ByteArray)).size + t234.size ≤ 9223372036854775807
            ·rw [if_pos c58] at H
             have c58b0 := eq_true c58
             have c58b1 : decide (((((((t231 ++ (⟨#[44, 32]⟩ : ByteArray)) ++ t232) ++ (⟨#[58, 32]⟩ : ByteArray)) ++ (⟨#[101, 110, 100, 32]⟩ : ByteArray)) ++ t233) ++ (⟨#[32, 47, 32]⟩ : ByteArray)).size + t234.size ≤ 9223372036854775807) = true := decide_eq_true c58
             try have c58b2 : (9223372036854775807 < ((((((t231 ++ (⟨#[44, 32]⟩ : ByteArray)) ++ t232) ++ (⟨#[58, 32]⟩ : ByteArray)) ++ (⟨#[101, 110, 100, 32]⟩ : ByteArray)) ++ t233) ++ (⟨#[32, 47, 32]⟩ : ByteArray)).size + t234.size) = False := eq_false (Nat.not_lt.2 c58)
             have c58b3 := c58b2
             try simp only [ByteArray.size_append, bsz1, bsz2, bsz3, bsz4, bsz5, bsz6] at c58b3
             obtain rfl := Option.some.inj H
             go_enter Tryd.func30, Tryd.ntmps30
             try go_wp2_with (first | ((with_reducible refine gate_dst (N := 3) rfl ?_); refine box_event ?hg (N := 3) ?hd (cs := #[.int .i64 a1_0, .int .i64 a1_1, .int .i64 a1_2, .int .i64 a1_3]) (t := 57) ?hr ?_; (case hd => rfl); (case hg => rfl); (case hr => exact ts19_); intro gb226 hg w59 hbox hb; have BK226 := Aside0.mk (hbox); have GW226 := Aside0.mk ((ts47_ HB.out : w.heap.size ≤ gb226)); have GE226 := Aside0.mk ((ts47_ HB.out : w.heap.size ≤ gb226)); replace HB := Aside0.mk (below_step (ts41_ HB.out) hb); clear hb hbox hg))
             have n0_ := Aside0.mk (blk_drew BK226.out)
             have n1_ := Aside0.mk (below_drew1 HB.out)
             clear BK226
             clear HB
             have BK226 := n0_
             have HB := n1_
             clear n0_ n1_
             have p227 : 0 ≤ (a1_0 : Int) := of_decide_eq_true ts30_
             have q227 : a1_0 < (l0.length : Int) := of_decide_eq_true ts30_
             obtain ⟨ad227, A227_1, c227_1, e227, hx227_0, hx227_1, hx227_2, hx227_3, hl227_1, hi227_1⟩ := at_T45 HR0.out a1_0 p227 q227
             have hw227_3 := hx227_3
             have hw227_2 := hx227_2
             have hw227_1 := hx227_1
             have hw227_0 := hx227_0
             cases e227
             replace hx227_0 := (HB.out.cell (World.block_lt_of_cell? w _ hx227_0)).trans hx227_0
             replace hx227_1 := (HB.out.cell (World.block_lt_of_cell? w _ hx227_1)).trans hx227_1
             replace hx227_2 := (HB.out.cell (World.block_lt_of_cell? w _ hx227_2)).trans hx227_2
             replace hx227_3 := (HB.out.cell (World.block_lt_of_cell? w _ hx227_3)).trans hx227_3
             have HR227_1 := Aside0.mk hi227_1
             have HC227_1 := Aside0.mk hl227_1
             clear hi227_1 hl227_1
             replace p227 := eq_true p227
             replace q227 := eq_true q227
             have p228 : 0 ≤ (a1_1 : Int) := of_decide_eq_true ts30_
             have q228 : a1_1 < (l0.length : Int) := of_decide_eq_true ts30_
             obtain ⟨ad228, A228_1, c228_1, e228, hx228_0, hx228_1, hx228_2, hx228_3, hl228_1, hi228_1⟩ := at_T45 HR0.out a1_1 p228 q228
             have hw228_3 := hx228_3
             have hw228_2 := hx228_2
             have hw228_1 := hx228_1
             have hw228_0 := hx228_0
             obtain rfl : ad227 = ad228 := (by injection e228)
             replace hx228_0 := (HB.out.cell (World.block_lt_of_cell? w _ hx228_0)).trans hx228_0
             replace hx228_1 := (HB.out.cell (World.block_lt_of_cell? w _ hx228_1)).trans hx228_1
             replace hx228_2 := (HB.out.cell (World.block_lt_of_cell? w _ hx228_2)).trans hx228_2
             replace hx228_3 := (HB.out.cell (World.block_lt_of_cell? w _ hx228_3)).trans hx228_3
             have HR228_1 := Aside0.mk hi228_1
             have HC228_1 := Aside0.mk hl228_1
             clear hi228_1 hl228_1
             replace p228 := eq_true p228
             replace q228 := eq_true q228
             refine start_ (n := 14) (S := fun w' => w'.cell? ⟨gb226, 0, none⟩ = some (.int .i64 a1_0) ∧ w'.cell? ⟨gb226, 1, none⟩ = some (.int .i64 a1_1) ∧ w'.cell? ⟨gb226, 2, none⟩ = some (.int .i64 a1_2) ∧ w'.cell? ⟨gb226, 3, none⟩ = some (.int .i64 a1_3) ∧ w'.cell? (ad227.add ((a1_0).toNat * 4)) = some (.string ((rd_T45 l0 a1_0).f0)) ∧ w'.cell? ⟨(ad227.add ((a1_0).toNat * 4)).block, (ad227.add ((a1_0).toNat * 4)).off + 1, none⟩ = some (.slice A227_1 ((rd_T45 l0 a1_0).f1.f0).length c227_1) ∧ w'.cell? ⟨(ad227.add ((a1_0).toNat * 4)).block, (ad227.add ((a1_0).toNat * 4)).off + 2, none⟩ = some (.int .i64 ((rd_T45 l0 a1_0).f1.f1)) ∧ w'.cell? ⟨(ad227.add ((a1_0).toNat * 4)).block, (ad227.add ((a1_0).toNat * 4)).off + 3, none⟩ = some (.int .i64 ((rd_T45 l0 a1_0).f1.f2)) ∧ w'.cell? (ad227.add ((a1_1).toNat * 4)) = some (.string ((rd_T45 l0 a1_1).f0)) ∧ w'.cell? ⟨(ad227.add ((a1_1).toNat * 4)).block, (ad227.add ((a1_1).toNat * 4)).off + 1, none⟩ = some (.slice A228_1 ((rd_T45 l0 a1_1).f1.f0).length c228_1) ∧ w'.cell? ⟨(ad227.add ((a1_1).toNat * 4)).block, (ad227.add ((a1_1).toNat * 4)).off + 2, none⟩ = some (.int .i64 ((rd_T45 l0 a1_1).f1.f1)) ∧ w'.cell? ⟨(ad227.add ((a1_1).toNat * 4)).block, (ad227.add ((a1_1).toNat * 4)).off + 3, none⟩ = some (.int .i64 ((rd_T45 l0 a1_1).f1.f2))) (ds := []) #[false, false, false, false, false, false, false, false, false, false, false, false, false, false] (by kernel_rfl) rfl rfl ⟨(blk_cell BK226.out 0).trans rfl, (blk_cell BK226.out 1).trans rfl, (blk_cell BK226.out 2).trans rfl, (blk_cell BK226.out 3).trans rfl, ((HB.out.cell (World.block_lt_of_cell? w _ hw227_0)).trans hw227_0), ((HB.out.cell (World.block_lt_of_cell? w _ hw227_1)).trans hw227_1), ((HB.out.cell (World.block_lt_of_cell? w _ hw227_2)).trans hw227_2), ((HB.out.cell (World.block_lt_of_cell? w _ hw227_3)).trans hw227_3), ((HB.out.cell (World.block_lt_of_cell? w _ hw228_0)).trans hw228_0), ((HB.out.cell (World.block_lt_of_cell? w _ hw228_1)).trans hw228_1), ((HB.out.cell (World.block_lt_of_cell? w _ hw228_2)).trans hw228_2), ((HB.out.cell (World.block_lt_of_cell? w _ hw228_3)).trans hw228_3)⟩ (fun hHeld => ?_); refine with_tabW cupelref35_part.tab1 cupelref35_part.bits1 (fun HT_ HW_ => ?_)
             generalize w59.drew = w60 at BK226 HB HR227_1 HR228_1 hx227_0 hx227_1 hx227_2 hx227_3 hx228_0 hx228_1 hx228_2 hx228_3 hHeld ⊢
             refine pure_ (i := 0) (N := some 8) (v := ?_) (a' := ?_) #[true, false, false, false, false, false, false, false, false, false, false, false, false, false] rfl rfl (any_of HT_.out (by kernel_rfl)) (fun _ _ _ h => h) (Or.inl ⟨by rfl, ?_⟩) ?_ ?_
             rotate_left
             ·intro w'
              go_simp
              with_reducible rfl
             rotate_left
             ·simp only [Act.put, List.setIfInBounds_toArray, List.set_cons_zero, List.set_cons_succ, i64_w, i32_w]
              rfl
             refine pure_ (i := 1) (N := some 9) (v := ?_) (a' := ?_) #[true, true, false, false, false, false, false, false, false, false, false, false, false, false] rfl rfl (any_of HT_.out (by kernel_rfl)) (fun _ _ _ h => h) (Or.inl ⟨by rfl, ?_⟩) ?_ ?_
             rotate_left
             ·intro w'
              go_simp
              with_reducible rfl
             rotate_left
             ·simp only [Act.put, List.setIfInBounds_toArray, List.set_cons_zero, List.set_cons_succ, i64_w, i32_w]
              rfl
             refine pure_ (i := 5) (N := some 13) (v := ?_) (a' := ?_) #[true, true, false, false, false, true, false, false, false, false, false, false, false, false] rfl rfl (any_of HT_.out (by kernel_rfl)) (fun _ _ _ h => h) (Or.inl ⟨by rfl, ?_⟩) ?_ ?_
             rotate_left
             ·intro w'
              go_simp
              with_reducible rfl
             rotate_left
             ·simp only [Act.put, List.setIfInBounds_toArray, List.set_cons_zero, List.set_cons_succ, i64_w, i32_w]
              rfl
             refine pure_ (i := 6) (N := some 14) (v := ?_) (a' := ?_) #[true, true, false, false, false, true, true, false, false, false, false, false, false, false] rfl rfl (any_of HT_.out (by kernel_rfl)) (fun _ _ _ h => h) (Or.inl ⟨by rfl, ?_⟩) ?_ ?_
             rotate_left
             ·intro w'
              go_simp
              with_reducible rfl
             rotate_left
             ·simp only [Act.put, List.setIfInBounds_toArray, List.set_cons_zero, List.set_cons_succ, i64_w, i32_w]
              rfl
             refine take_ (i := 2) (N := some 10) (v := ?_) (a' := ?_) #[true, true, true, false, false, true, true, false, false, false, false, false, false, false] rfl rfl (take_ofW HT_.out HW_.out (by kernel_rfl)) (fun _ _ _ h => h) (Or.inl ⟨by rfl, ?_⟩) hHeld ?_ ?_
             rotate_left
             ·rintro w' ⟨s0, s1, s2, s3, s4, s5, s6, s7, s8, s9, s10, s11⟩
              go_simp
              with_reducible rfl
             rotate_left
             ·simp only [Act.put, List.setIfInBounds_toArray, List.set_cons_zero, List.set_cons_succ, i64_w, i32_w]
              rfl
             refine pure_ (i := 3) (N := some 11) (v := ?_) (a' := ?_) #[true, true, true, true, false, true, true, false, false, false, false, false, false, false] rfl rfl (any_of HT_.out (by kernel_rfl)) (fun _ _ _ h => h) (Or.inl ⟨by rfl, ?_⟩) ?_ ?_
             rotate_left
             ·intro w'
              go_simp
              with_reducible rfl
             rotate_left
             ·simp only [Act.put, List.setIfInBounds_toArray, List.set_cons_zero, List.set_cons_succ, i64_w, i32_w]
              rfl
             refine take_ (i := 4) (N := some 12) (v := ?_) (a' := ?_) #[true, true, true, true, true, true, true, false, false, false, false, false, false, false] rfl rfl (take_ofW HT_.out HW_.out (by kernel_rfl)) (fun _ _ _ h => h) (Or.inl ⟨by rfl, ?_⟩) hHeld ?_ ?_
             rotate_left
             ·rintro w' ⟨s0, s1, s2, s3, s4, s5, s6, s7, s8, s9, s10, s11⟩
              go_simp
              with_reducible rfl
             rotate_left
             ·simp only [Act.put, List.setIfInBounds_toArray, List.set_cons_zero, List.set_cons_succ, i64_w, i32_w]
              rfl
             refine take_ (i := 7) (N := some 15) (v := ?_) (a' := ?_) #[true, true, true, true, true, true, true, true, false, false, false, false, false, false] rfl rfl (take_ofW HT_.out HW_.out (by kernel_rfl)) (fun _ _ _ h => h) (Or.inl ⟨by rfl, ?_⟩) hHeld ?_ ?_
             rotate_left
             ·rintro w' ⟨s0, s1, s2, s3, s4, s5, s6, s7, s8, s9, s10, s11⟩
              go_simp
              with_reducible rfl
             rotate_left
             ·simp only [Act.put, List.setIfInBounds_toArray, List.set_cons_zero, List.set_cons_succ, i64_w, i32_w]
              rfl
             refine pure_ (i := 8) (N := some 16) (v := ?_) (a' := ?_) #[true, true, true, true, true, true, true, true, true, false, false, false, false, false] rfl rfl (any_of HT_.out (by kernel_rfl)) (fun _ _ _ h => h) (Or.inl ⟨by rfl, ?_⟩) ?_ ?_
             rotate_left
             ·intro w'
              go_simp
              with_reducible rfl
             rotate_left
             ·simp only [Act.put, List.setIfInBounds_toArray, List.set_cons_zero, List.set_cons_succ, i64_w, i32_w]
              rfl
             refine take_ (i := 9) (N := some 17) (v := ?_) (a' := ?_) #[true, true, true, true, true, true, true, true, true, true, false, false, false, false] rfl rfl (take_ofW HT_.out HW_.out (by kernel_rfl)) (fun _ _ _ h => h) (Or.inl ⟨by rfl, ?_⟩) hHeld ?_ ?_
             rotate_left
             ·rintro w' ⟨s0, s1, s2, s3, s4, s5, s6, s7, s8, s9, s10, s11⟩
              go_simp
              with_reducible rfl
             rotate_left
             ·simp only [Act.put, List.setIfInBounds_toArray, List.set_cons_zero, List.set_cons_succ, i64_w, i32_w]
              rfl
             refine join_ (σ := Nat × Nat) 2 #[true, true, true, true, true, true, true, true, true, true, true, true, false, false] (fun s_ => [(5, .pointer (some ⟨s_.1, 0, none⟩)), (6, .pointer (some ⟨s_.2, 0, none⟩))]) (fun s_ w' => (w'.cell? ⟨gb226, 0, none⟩ = some (.int .i64 a1_0) ∧ w'.cell? ⟨gb226, 1, none⟩ = some (.int .i64 a1_1) ∧ w'.cell? ⟨gb226, 2, none⟩ = some (.int .i64 a1_2) ∧ w'.cell? ⟨gb226, 3, none⟩ = some (.int .i64 a1_3) ∧ w'.cell? (ad227.add ((a1_0).toNat * 4)) = some (.string ((rd_T45 l0 a1_0).f0)) ∧ w'.cell? ⟨(ad227.add ((a1_0).toNat * 4)).block, (ad227.add ((a1_0).toNat * 4)).off + 1, none⟩ = some (.slice A227_1 ((rd_T45 l0 a1_0).f1.f0).length c227_1) ∧ w'.cell? ⟨(ad227.add ((a1_0).toNat * 4)).block, (ad227.add ((a1_0).toNat * 4)).off + 2, none⟩ = some (.int .i64 ((rd_T45 l0 a1_0).f1.f1)) ∧ w'.cell? ⟨(ad227.add ((a1_0).toNat * 4)).block, (ad227.add ((a1_0).toNat * 4)).off + 3, none⟩ = some (.int .i64 ((rd_T45 l0 a1_0).f1.f2)) ∧ w'.cell? (ad227.add ((a1_1).toNat * 4)) = some (.string ((rd_T45 l0 a1_1).f0)) ∧ w'.cell? ⟨(ad227.add ((a1_1).toNat * 4)).block, (ad227.add ((a1_1).toNat * 4)).off + 1, none⟩ = some (.slice A228_1 ((rd_T45 l0 a1_1).f1.f0).length c228_1) ∧ w'.cell? ⟨(ad227.add ((a1_1).toNat * 4)).block, (ad227.add ((a1_1).toNat * 4)).off + 2, none⟩ = some (.int .i64 ((rd_T45 l0 a1_1).f1.f1)) ∧ w'.cell? ⟨(ad227.add ((a1_1).toNat * 4)).block, (ad227.add ((a1_1).toNat * 4)).off + 3, none⟩ = some (.int .i64 ((rd_T45 l0 a1_1).f1.f2))) ∧ (w'.heap[gb226]? = some (.cells #[.int .i64 a1_0, .int .i64 a1_1, .int .i64 a1_2, .int .i64 a1_3] 57 (0, 0))) ∧ (w'.heap[s_.1]? = some (.cells #[.string (⟨#[]⟩ : ByteArray), .slice none 0 0, .int .i64 0, .int .i64 0] 45 (0, 0))) ∧ (w'.heap[s_.2]? = some (.cells #[.string (⟨#[]⟩ : ByteArray), .slice none 0 0, .int .i64 0, .int .i64 0] 45 (0, 0))) ∧ (w.heap.size ≤ s_.1) ∧ (w.heap.size ≤ s_.1) ∧ (gb226 ≠ s_.1) ∧ (s_.1 ≠ gb226) ∧ (s_.2 ≠ s_.1) ∧ (s_.1 ≠ s_.2) ∧ (w.heap.size ≤ s_.2) ∧ (w.heap.size ≤ s_.2) ∧ (gb226 ≠ s_.2) ∧ (s_.2 ≠ gb226) ∧ (Below w.heap.size w w')) ?_ ?_
             rotate_left
             ·intro hCont
              refine two_ (i := 10) (j := 11) (Ni := some 5) (Nj := some 6) #[true, true, true, true, true, true, true, true, true, true, true, false, false, false] #[true, true, true, true, true, true, true, true, true, true, false, true, false, false] rfl rfl rfl rfl (two_of HT_.out (by kernel_rfl)) (by decide) (by decide) (fun K hK => ?_) (fun K hK => ?_)
              ·skip
               refine box_step ?hg (N := 5) ?hd (cs := #[.string (⟨#[]⟩ : ByteArray), .slice none 0 0, .int .i64 0, .int .i64 0]) (t := 45) ?hr ?_; (case hd => rfl); (case hg => rfl); (case hr => exact ts19_)
               intro gb229 hg w61 hbox hb
               have n0_ := Aside0.mk (blk_below (g := gb226) (o := .cells #[.int .i64 a1_0, .int .i64 a1_1, .int .i64 a1_2, .int .i64 a1_3] 57 (0, 0)) (ts18_ BK226.out) hb)
               have n1_ := Aside0.mk (below_step (ts22_ HB.out GE226.out) hb)
               have n2_ := Aside0.mk (hbox)
               have n3_ := Aside0.mk ((ts76_ HB.out GE226.out : w.heap.size ≤ gb229))
               have n4_ := Aside0.mk ((ts76_ HB.out GE226.out : w.heap.size ≤ gb229))
               have n5_ := Aside0.mk ((ts78_ BK226.out : gb226 ≠ gb229))
               have n6_ := Aside0.mk ((ts61_ BK226.out : gb229 ≠ gb226))
               clear BK226
               clear HB
               have BK226 := n0_
               have HB := n1_
               have BK229 := n2_
               have GW229 := n3_
               have GE229 := n4_
               have NB226_229 := n5_
               have NB229_226 := n6_
               clear n0_ n1_ n2_ n3_ n4_ n5_ n6_
               clear hb hbox hg
               refine hK.out _ _ ⟨(blk_cell BK226.out 0).trans rfl, (blk_cell BK226.out 1).trans rfl, (blk_cell BK226.out 2).trans rfl, (blk_cell BK226.out 3).trans rfl, ((HB.out.cell (World.block_lt_of_cell? w _ hw227_0)).trans hw227_0), ((HB.out.cell (World.block_lt_of_cell? w _ hw227_1)).trans hw227_1), ((HB.out.cell (World.block_lt_of_cell? w _ hw227_2)).trans hw227_2), ((HB.out.cell (World.block_lt_of_cell? w _ hw227_3)).trans hw227_3), ((HB.out.cell (World.block_lt_of_cell? w _ hw228_0)).trans hw228_0), ((HB.out.cell (World.block_lt_of_cell? w _ hw228_1)).trans hw228_1), ((HB.out.cell (World.block_lt_of_cell? w _ hw228_2)).trans hw228_2), ((HB.out.cell (World.block_lt_of_cell? w _ hw228_3)).trans hw228_3)⟩ (fun hHeld => ?_)
               clear hK K
               refine norm_ (a' := ?_) ?_ ?_
               rotate_left
               ·show Act.put _ (some 5) _ = _
                simp only [Act.put, List.setIfInBounds_toArray, List.set_cons_zero, List.set_cons_succ, i64_w, i32_w]
                rfl
               refine one_ (i := 11) (N := some 6) #[true, true, true, true, true, true, true, true, true, true, true, true, false, false] rfl rfl (one_of HT_.out (by kernel_rfl)) (by decide) (fun K hK => ?_)
               refine box_step ?hg (N := 6) ?hd (cs := #[.string (⟨#[]⟩ : ByteArray), .slice none 0 0, .int .i64 0, .int .i64 0]) (t := 45) ?hr ?_; (case hd => rfl); (case hg => rfl); (case hr => exact ts19_)
               intro gb230 hg w62 hbox hb
               have n0_ := Aside0.mk (blk_below (g := gb226) (o := .cells #[.int .i64 a1_0, .int .i64 a1_1, .int .i64 a1_2, .int .i64 a1_3] 57 (0, 0)) (ts18_ BK226.out) hb)
               have n1_ := Aside0.mk (blk_below (g := gb229) (o := .cells #[.string (⟨#[]⟩ : ByteArray), .slice none 0 0, .int .i64 0, .int .i64 0] 45 (0, 0)) (ts18_ BK229.out) hb)
               have n2_ := Aside0.mk (below_step (ts31_ HB.out GE226.out GE229.out) hb)
               have n3_ := Aside0.mk (hbox)
               have n4_ := Aside0.mk ((ts79_ HB.out GE226.out GE229.out : w.heap.size ≤ gb230))
               have n5_ := Aside0.mk ((ts79_ HB.out GE226.out GE229.out : w.heap.size ≤ gb230))
               have n6_ := Aside0.mk ((ts78_ BK226.out : gb226 ≠ gb230))
               have n7_ := Aside0.mk ((ts61_ BK226.out : gb230 ≠ gb226))
               have n8_ := Aside0.mk ((ts62_ BK229.out : gb229 ≠ gb230))
               have n9_ := Aside0.mk ((ts82_ BK229.out : gb230 ≠ gb229))
               clear BK226
               clear BK229
               clear HB
               have BK226 := n0_
               have BK229 := n1_
               have HB := n2_
               have BK230 := n3_
               have GW230 := n4_
               have GE230 := n5_
               have NB226_230 := n6_
               have NB230_226 := n7_
               have NB229_230 := n8_
               have NB230_229 := n9_
               clear n0_ n1_ n2_ n3_ n4_ n5_ n6_ n7_ n8_ n9_
               clear hb hbox hg
               refine hK.out _ _ ⟨(blk_cell BK226.out 0).trans rfl, (blk_cell BK226.out 1).trans rfl, (blk_cell BK226.out 2).trans rfl, (blk_cell BK226.out 3).trans rfl, ((HB.out.cell (World.block_lt_of_cell? w _ hw227_0)).trans hw227_0), ((HB.out.cell (World.block_lt_of_cell? w _ hw227_1)).trans hw227_1), ((HB.out.cell (World.block_lt_of_cell? w _ hw227_2)).trans hw227_2), ((HB.out.cell (World.block_lt_of_cell? w _ hw227_3)).trans hw227_3), ((HB.out.cell (World.block_lt_of_cell? w _ hw228_0)).trans hw228_0), ((HB.out.cell (World.block_lt_of_cell? w _ hw228_1)).trans hw228_1), ((HB.out.cell (World.block_lt_of_cell? w _ hw228_2)).trans hw228_2), ((HB.out.cell (World.block_lt_of_cell? w _ hw228_3)).trans hw228_3)⟩ (fun hHeld => ?_)
               clear hK K
               refine norm_ (a' := ?_) ?_ ?_
               rotate_left
               ·show Act.put _ (some 6) _ = _
                simp only [Act.put, List.setIfInBounds_toArray, List.set_cons_zero, List.set_cons_succ, i64_w, i32_w]
                rfl
               exact norm_ ts7_ (hCont (gb229, gb230) _ ⟨hHeld, (ts18_ BK226.out), (ts18_ BK229.out), (ts18_ BK230.out), GW229.out, GE229.out, NB226_229.out, NB229_226.out, NB230_229.out, NB229_230.out, GW230.out, GE230.out, NB226_230.out, NB230_226.out, (ts39_ HB.out GE226.out GE229.out GE230.out)⟩)
              skip
              refine box_step ?hg (N := 6) ?hd (cs := #[.string (⟨#[]⟩ : ByteArray), .slice none 0 0, .int .i64 0, .int .i64 0]) (t := 45) ?hr ?_; (case hd => rfl); (case hg => rfl); (case hr => exact ts19_)
              intro gb230 hg w61 hbox hb
              have n0_ := Aside0.mk (blk_below (g := gb226) (o := .cells #[.int .i64 a1_0, .int .i64 a1_1, .int .i64 a1_2, .int .i64 a1_3] 57 (0, 0)) (ts18_ BK226.out) hb)
              have n1_ := Aside0.mk (below_step (ts22_ HB.out GE226.out) hb)
              have n2_ := Aside0.mk (hbox)
              have n3_ := Aside0.mk ((ts76_ HB.out GE226.out : w.heap.size ≤ gb230))
              have n4_ := Aside0.mk ((ts76_ HB.out GE226.out : w.heap.size ≤ gb230))
              have n5_ := Aside0.mk ((ts78_ BK226.out : gb226 ≠ gb230))
              have n6_ := Aside0.mk ((ts61_ BK226.out : gb230 ≠ gb226))
              clear BK226
              clear HB
              have BK226 := n0_
              have HB := n1_
              have BK230 := n2_
              have GW230 := n3_
              have GE230 := n4_
              have NB226_230 := n5_
              have NB230_226 := n6_
              clear n0_ n1_ n2_ n3_ n4_ n5_ n6_
              clear hb hbox hg
              refine hK.out _ _ ⟨(blk_cell BK226.out 0).trans rfl, (blk_cell BK226.out 1).trans rfl, (blk_cell BK226.out 2).trans rfl, (blk_cell BK226.out 3).trans rfl, ((HB.out.cell (World.block_lt_of_cell? w _ hw227_0)).trans hw227_0), ((HB.out.cell (World.block_lt_of_cell? w _ hw227_1)).trans hw227_1), ((HB.out.cell (World.block_lt_of_cell? w _ hw227_2)).trans hw227_2), ((HB.out.cell (World.block_lt_of_cell? w _ hw227_3)).trans hw227_3), ((HB.out.cell (World.block_lt_of_cell? w _ hw228_0)).trans hw228_0), ((HB.out.cell (World.block_lt_of_cell? w _ hw228_1)).trans hw228_1), ((HB.out.cell (World.block_lt_of_cell? w _ hw228_2)).trans hw228_2), ((HB.out.cell (World.block_lt_of_cell? w _ hw228_3)).trans hw228_3)⟩ (fun hHeld => ?_)
              clear hK K
              refine norm_ (a' := ?_) ?_ ?_
              rotate_left
              ·show Act.put _ (some 6) _ = _
               simp only [Act.put, List.setIfInBounds_toArray, List.set_cons_zero, List.set_cons_succ, i64_w, i32_w]
               rfl
              refine one_ (i := 10) (N := some 5) #[true, true, true, true, true, true, true, true, true, true, true, true, false, false] rfl rfl (one_of HT_.out (by kernel_rfl)) (by decide) (fun K hK => ?_)
              refine box_step ?hg (N := 5) ?hd (cs := #[.string (⟨#[]⟩ : ByteArray), .slice none 0 0, .int .i64 0, .int .i64 0]) (t := 45) ?hr ?_; (case hd => rfl); (case hg => rfl); (case hr => exact ts19_)
              intro gb229 hg w62 hbox hb
              have n0_ := Aside0.mk (blk_below (g := gb226) (o := .cells #[.int .i64 a1_0, .int .i64 a1_1, .int .i64 a1_2, .int .i64 a1_3] 57 (0, 0)) (ts18_ BK226.out) hb)
              have n1_ := Aside0.mk (blk_below (g := gb230) (o := .cells #[.string (⟨#[]⟩ : ByteArray), .slice none 0 0, .int .i64 0, .int .i64 0] 45 (0, 0)) (ts18_ BK230.out) hb)
              have n2_ := Aside0.mk (below_step (ts31_ HB.out GE226.out GE230.out) hb)
              have n3_ := Aside0.mk (hbox)
              have n4_ := Aside0.mk ((ts79_ HB.out GE226.out GE230.out : w.heap.size ≤ gb229))
              have n5_ := Aside0.mk ((ts79_ HB.out GE226.out GE230.out : w.heap.size ≤ gb229))
              have n6_ := Aside0.mk ((ts78_ BK226.out : gb226 ≠ gb229))
              have n7_ := Aside0.mk ((ts61_ BK226.out : gb229 ≠ gb226))
              have n8_ := Aside0.mk ((ts75_ BK230.out : gb230 ≠ gb229))
              have n9_ := Aside0.mk ((ts65_ BK230.out : gb229 ≠ gb230))
              clear BK226
              clear BK230
              clear HB
              have BK226 := n0_
              have BK230 := n1_
              have HB := n2_
              have BK229 := n3_
              have GW229 := n4_
              have GE229 := n5_
              have NB226_229 := n6_
              have NB229_226 := n7_
              have NB230_229 := n8_
              have NB229_230 := n9_
              clear n0_ n1_ n2_ n3_ n4_ n5_ n6_ n7_ n8_ n9_
              clear hb hbox hg
              refine hK.out _ _ ⟨(blk_cell BK226.out 0).trans rfl, (blk_cell BK226.out 1).trans rfl, (blk_cell BK226.out 2).trans rfl, (blk_cell BK226.out 3).trans rfl, ((HB.out.cell (World.block_lt_of_cell? w _ hw227_0)).trans hw227_0), ((HB.out.cell (World.block_lt_of_cell? w _ hw227_1)).trans hw227_1), ((HB.out.cell (World.block_lt_of_cell? w _ hw227_2)).trans hw227_2), ((HB.out.cell (World.block_lt_of_cell? w _ hw227_3)).trans hw227_3), ((HB.out.cell (World.block_lt_of_cell? w _ hw228_0)).trans hw228_0), ((HB.out.cell (World.block_lt_of_cell? w _ hw228_1)).trans hw228_1), ((HB.out.cell (World.block_lt_of_cell? w _ hw228_2)).trans hw228_2), ((HB.out.cell (World.block_lt_of_cell? w _ hw228_3)).trans hw228_3)⟩ (fun hHeld => ?_)
              clear hK K
              refine norm_ (a' := ?_) ?_ ?_
              rotate_left
              ·show Act.put _ (some 5) _ = _
               simp only [Act.put, List.setIfInBounds_toArray, List.set_cons_zero, List.set_cons_succ, i64_w, i32_w]
               rfl
              exact norm_ ts7_ (hCont (gb229, gb230) _ ⟨hHeld, (ts18_ BK226.out), (ts18_ BK229.out), (ts18_ BK230.out), GW229.out, GE229.out, NB226_229.out, NB229_226.out, NB230_229.out, NB229_230.out, GW230.out, GE230.out, NB226_230.out, NB230_226.out, (ts39_ HB.out GE226.out GE230.out GE229.out)⟩)
             rintro ⟨gb229, gb230⟩ w63 ⟨hS_, h0_, h1_, h2_, h3_, h4_, h5_, h6_, h7_, h8_, h9_, h10_, h11_, h12_, h13_⟩
             have n0_ : Aside0 (w63.heap[gb226]? = some (.cells #[.int .i64 a1_0, .int .i64 a1_1, .int .i64 a1_2, .int .i64 a1_3] 57 (0, 0))) := ⟨h0_⟩
             have n1_ : Aside0 (w63.heap[gb229]? = some (.cells #[.string (⟨#[]⟩ : ByteArray), .slice none 0 0, .int .i64 0, .int .i64 0] 45 (0, 0))) := ⟨h1_⟩
             have n2_ : Aside0 (w63.heap[gb230]? = some (.cells #[.string (⟨#[]⟩ : ByteArray), .slice none 0 0, .int .i64 0, .int .i64 0] 45 (0, 0))) := ⟨h2_⟩
             have n3_ : Aside0 (w.heap.size ≤ gb229) := ⟨h3_⟩
             have n4_ : Aside0 (w.heap.size ≤ gb229) := ⟨h4_⟩
             have n5_ : Aside0 (gb226 ≠ gb229) := ⟨h5_⟩
             have n6_ : Aside0 (gb229 ≠ gb226) := ⟨h6_⟩
             have n7_ : Aside0 (gb230 ≠ gb229) := ⟨h7_⟩
             have n8_ : Aside0 (gb229 ≠ gb230) := ⟨h8_⟩
             have n9_ : Aside0 (w.heap.size ≤ gb230) := ⟨h9_⟩
             have n10_ : Aside0 (w.heap.size ≤ gb230) := ⟨h10_⟩
             have n11_ : Aside0 (gb226 ≠ gb230) := ⟨h11_⟩
             have n12_ : Aside0 (gb230 ≠ gb226) := ⟨h12_⟩
             have n13_ : Aside0 (Below w.heap.size w w63) := ⟨h13_⟩
             clear BK226
             clear HB
             clear h0_ h1_ h2_ h3_ h4_ h5_ h6_ h7_ h8_ h9_ h10_ h11_ h12_ h13_
             have BK226 := n0_
             have BK229 := n1_
             have BK230 := n2_
             have GW229 := n3_
             have GE229 := n4_
             have NB226_229 := n5_
             have NB229_226 := n6_
             have NB230_229 := n7_
             have NB229_230 := n8_
             have GW230 := n9_
             have GE230 := n10_
             have NB226_230 := n11_
             have NB230_226 := n12_
             have HB := n13_
             clear n0_ n1_ n2_ n3_ n4_ n5_ n6_ n7_ n8_ n9_ n10_ n11_ n12_ n13_
             have hHeld : w63.cell? ⟨gb226, 0, none⟩ = some (.int .i64 a1_0) ∧ w63.cell? ⟨gb226, 1, none⟩ = some (.int .i64 a1_1) ∧ w63.cell? ⟨gb226, 2, none⟩ = some (.int .i64 a1_2) ∧ w63.cell? ⟨gb226, 3, none⟩ = some (.int .i64 a1_3) ∧ w63.cell? (ad227.add ((a1_0).toNat * 4)) = some (.string ((rd_T45 l0 a1_0).f0)) ∧ w63.cell? ⟨(ad227.add ((a1_0).toNat * 4)).block, (ad227.add ((a1_0).toNat * 4)).off + 1, none⟩ = some (.slice A227_1 ((rd_T45 l0 a1_0).f1.f0).length c227_1) ∧ w63.cell? ⟨(ad227.add ((a1_0).toNat * 4)).block, (ad227.add ((a1_0).toNat * 4)).off + 2, none⟩ = some (.int .i64 ((rd_T45 l0 a1_0).f1.f1)) ∧ w63.cell? ⟨(ad227.add ((a1_0).toNat * 4)).block, (ad227.add ((a1_0).toNat * 4)).off + 3, none⟩ = some (.int .i64 ((rd_T45 l0 a1_0).f1.f2)) ∧ w63.cell? (ad227.add ((a1_1).toNat * 4)) = some (.string ((rd_T45 l0 a1_1).f0)) ∧ w63.cell? ⟨(ad227.add ((a1_1).toNat * 4)).block, (ad227.add ((a1_1).toNat * 4)).off + 1, none⟩ = some (.slice A228_1 ((rd_T45 l0 a1_1).f1.f0).length c228_1) ∧ w63.cell? ⟨(ad227.add ((a1_1).toNat * 4)).block, (ad227.add ((a1_1).toNat * 4)).off + 2, none⟩ = some (.int .i64 ((rd_T45 l0 a1_1).f1.f1)) ∧ w63.cell? ⟨(ad227.add ((a1_1).toNat * 4)).block, (ad227.add ((a1_1).toNat * 4)).off + 3, none⟩ = some (.int .i64 ((rd_T45 l0 a1_1).f1.f2)) := hS_
             refine norm_ (a' := ?_) ?_ ?_
             rotate_left
             ·simp only [putAll, Act.put, List.setIfInBounds_toArray, List.set_cons_zero, List.set_cons_succ]
              rfl
             refine one_ (i := 12) (N := none) #[true, true, true, true, true, true, true, true, true, true, true, true, true, false] rfl rfl (one_of HT_.out (by kernel_rfl)) (by decide) (fun K hK => ?_)
             have hs64 : w63.cell? ⟨gb229, 0, none⟩ = some (.string (⟨#[]⟩ : ByteArray)) := (blk_cell BK229.out 0).trans rfl
             have hfs64 := blk_frozen BK229.out 0
             have hns64_0 := NB226_229.out
             have hns64_2 := NB230_229.out
             have hms64_0 := NB229_226.out
             have hms64_2 := NB229_230.out
             have hs65 : w63.cell? ⟨gb229, 1, none⟩ = some (.slice none 0 0) := (blk_cell BK229.out 1).trans rfl
             have hfs65 := blk_frozen BK229.out 1
             have hns65_0 := NB226_229.out
             have hns65_2 := NB230_229.out
             have hms65_0 := NB229_226.out
             have hms65_2 := NB229_230.out
             have hs66 : w63.cell? ⟨gb229, 2, none⟩ = some (.int .i64 0) := (blk_cell BK229.out 2).trans rfl
             have hfs66 := blk_frozen BK229.out 2
             have hns66_0 := NB226_229.out
             have hns66_2 := NB230_229.out
             have hms66_0 := NB229_226.out
             have hms66_2 := NB229_230.out
             have hs67 : w63.cell? ⟨gb229, 3, none⟩ = some (.int .i64 0) := (blk_cell BK229.out 3).trans rfl
             have hfs67 := blk_frozen BK229.out 3
             have hns67_0 := NB226_229.out
             have hns67_2 := NB230_229.out
             have hms67_0 := NB229_226.out
             have hms67_2 := NB229_230.out
             refine skip_ (w1 := ?_) (by rfl) rfl ?_ ?_
             rotate_left
             ·go_simp
              rfl
             refine hK.out _ _ ⟨((cell_far (p := ⟨gb229, _, none⟩) NB226_229.out _).trans (((cell_far (p := ⟨gb229, _, none⟩) NB226_229.out _).trans (((cell_far (p := ⟨gb229, _, none⟩) NB226_229.out _).trans (((cell_far (p := ⟨gb229, _, none⟩) NB226_229.out _).trans (hHeld.1)))))))), ((cell_far (p := ⟨gb229, _, none⟩) NB226_229.out _).trans (((cell_far (p := ⟨gb229, _, none⟩) NB226_229.out _).trans (((cell_far (p := ⟨gb229, _, none⟩) NB226_229.out _).trans (((cell_far (p := ⟨gb229, _, none⟩) NB226_229.out _).trans (hHeld.2.1)))))))), ((cell_far (p := ⟨gb229, _, none⟩) NB226_229.out _).trans (((cell_far (p := ⟨gb229, _, none⟩) NB226_229.out _).trans (((cell_far (p := ⟨gb229, _, none⟩) NB226_229.out _).trans (((cell_far (p := ⟨gb229, _, none⟩) NB226_229.out _).trans (hHeld.2.2.1)))))))), ((cell_far (p := ⟨gb229, _, none⟩) NB226_229.out _).trans (((cell_far (p := ⟨gb229, _, none⟩) NB226_229.out _).trans (((cell_far (p := ⟨gb229, _, none⟩) NB226_229.out _).trans (((cell_far (p := ⟨gb229, _, none⟩) NB226_229.out _).trans (hHeld.2.2.2.1)))))))), ((cell_far (p := ⟨gb229, _, none⟩) (ts80_ GW229.out) _).trans (((cell_far (p := ⟨gb229, _, none⟩) (ts80_ GW229.out) _).trans (((cell_far (p := ⟨gb229, _, none⟩) (ts80_ GW229.out) _).trans (((cell_far (p := ⟨gb229, _, none⟩) (ts80_ GW229.out) _).trans (hHeld.2.2.2.2.1)))))))), ((cell_far (p := ⟨gb229, _, none⟩) (ts51_ GW229.out) _).trans (((cell_far (p := ⟨gb229, _, none⟩) (ts51_ GW229.out) _).trans (((cell_far (p := ⟨gb229, _, none⟩) (ts51_ GW229.out) _).trans (((cell_far (p := ⟨gb229, _, none⟩) (ts51_ GW229.out) _).trans (hHeld.2.2.2.2.2.1)))))))), ((cell_far (p := ⟨gb229, _, none⟩) (ts56_ GW229.out) _).trans (((cell_far (p := ⟨gb229, _, none⟩) (ts56_ GW229.out) _).trans (((cell_far (p := ⟨gb229, _, none⟩) (ts56_ GW229.out) _).trans (((cell_far (p := ⟨gb229, _, none⟩) (ts56_ GW229.out) _).trans (hHeld.2.2.2.2.2.2.1)))))))), ((cell_far (p := ⟨gb229, _, none⟩) (ts67_ GW229.out) _).trans (((cell_far (p := ⟨gb229, _, none⟩) (ts67_ GW229.out) _).trans (((cell_far (p := ⟨gb229, _, none⟩) (ts67_ GW229.out) _).trans (((cell_far (p := ⟨gb229, _, none⟩) (ts67_ GW229.out) _).trans (hHeld.2.2.2.2.2.2.2.1)))))))), ((cell_far (p := ⟨gb229, _, none⟩) (ts63_ GW229.out) _).trans (((cell_far (p := ⟨gb229, _, none⟩) (ts63_ GW229.out) _).trans (((cell_far (p := ⟨gb229, _, none⟩) (ts63_ GW229.out) _).trans (((cell_far (p := ⟨gb229, _, none⟩) (ts63_ GW229.out) _).trans (hHeld.2.2.2.2.2.2.2.2.1)))))))), ((cell_far (p := ⟨gb229, _, none⟩) (ts70_ GW229.out) _).trans (((cell_far (p := ⟨gb229, _, none⟩) (ts70_ GW229.out) _).trans (((cell_far (p := ⟨gb229, _, none⟩) (ts70_ GW229.out) _).trans (((cell_far (p := ⟨gb229, _, none⟩) (ts70_ GW229.out) _).trans (hHeld.2.2.2.2.2.2.2.2.2.1)))))))), ((cell_far (p := ⟨gb229, _, none⟩) (ts74_ GW229.out) _).trans (((cell_far (p := ⟨gb229, _, none⟩) (ts74_ GW229.out) _).trans (((cell_far (p := ⟨gb229, _, none⟩) (ts74_ GW229.out) _).trans (((cell_far (p := ⟨gb229, _, none⟩) (ts74_ GW229.out) _).trans (hHeld.2.2.2.2.2.2.2.2.2.2.1)))))))), ((cell_far (p := ⟨gb229, _, none⟩) (ts46_ GW229.out) _).trans (((cell_far (p := ⟨gb229, _, none⟩) (ts46_ GW229.out) _).trans (((cell_far (p := ⟨gb229, _, none⟩) (ts46_ GW229.out) _).trans (((cell_far (p := ⟨gb229, _, none⟩) (ts46_ GW229.out) _).trans (hHeld.2.2.2.2.2.2.2.2.2.2.2))))))))⟩ (fun hHeld => ?_)
             clear hK K
             refine one_ (i := 13) (N := none) #[true, true, true, true, true, true, true, true, true, true, true, true, true, true] rfl rfl (one_of HT_.out (by kernel_rfl)) (by decide) (fun K hK => ?_)
             have hs68 : w63.cell? ⟨gb230, 0, none⟩ = some (.string (⟨#[]⟩ : ByteArray)) := (blk_cell BK230.out 0).trans rfl
             have hfs68 := blk_frozen BK230.out 0
             have hns68_0 := NB226_230.out
             have hns68_1 := NB229_230.out
             have hms68_0 := NB230_226.out
             have hms68_1 := NB230_229.out
             have hs69 : w63.cell? ⟨gb230, 1, none⟩ = some (.slice none 0 0) := (blk_cell BK230.out 1).trans rfl
             have hfs69 := blk_frozen BK230.out 1
             have hns69_0 := NB226_230.out
             have hns69_1 := NB229_230.out
             have hms69_0 := NB230_226.out
             have hms69_1 := NB230_229.out
             have hs70 : w63.cell? ⟨gb230, 2, none⟩ = some (.int .i64 0) := (blk_cell BK230.out 2).trans rfl
             have hfs70 := blk_frozen BK230.out 2
             have hns70_0 := NB226_230.out
             have hns70_1 := NB229_230.out
             have hms70_0 := NB230_226.out
             have hms70_1 := NB230_229.out
             have hs71 : w63.cell? ⟨gb230, 3, none⟩ = some (.int .i64 0) := (blk_cell BK230.out 3).trans rfl
             have hfs71 := blk_frozen BK230.out 3
             have hns71_0 := NB226_230.out
             have hns71_1 := NB229_230.out
             have hms71_0 := NB230_226.out
             have hms71_1 := NB230_229.out
             refine skip_ (w1 := ?_) (by rfl) rfl ?_ ?_
             rotate_left
             ·go_simp
              rfl
             refine hK.out _ _ ⟨((cell_far (p := ⟨gb230, _, none⟩) NB226_230.out _).trans (((cell_far (p := ⟨gb230, _, none⟩) NB226_230.out _).trans (((cell_far (p := ⟨gb230, _, none⟩) NB226_230.out _).trans (((cell_far (p := ⟨gb230, _, none⟩) NB226_230.out _).trans (hHeld.1)))))))), ((cell_far (p := ⟨gb230, _, none⟩) NB226_230.out _).trans (((cell_far (p := ⟨gb230, _, none⟩) NB226_230.out _).trans (((cell_far (p := ⟨gb230, _, none⟩) NB226_230.out _).trans (((cell_far (p := ⟨gb230, _, none⟩) NB226_230.out _).trans (hHeld.2.1)))))))), ((cell_far (p := ⟨gb230, _, none⟩) NB226_230.out _).trans (((cell_far (p := ⟨gb230, _, none⟩) NB226_230.out _).trans (((cell_far (p := ⟨gb230, _, none⟩) NB226_230.out _).trans (((cell_far (p := ⟨gb230, _, none⟩) NB226_230.out _).trans (hHeld.2.2.1)))))))), ((cell_far (p := ⟨gb230, _, none⟩) NB226_230.out _).trans (((cell_far (p := ⟨gb230, _, none⟩) NB226_230.out _).trans (((cell_far (p := ⟨gb230, _, none⟩) NB226_230.out _).trans (((cell_far (p := ⟨gb230, _, none⟩) NB226_230.out _).trans (hHeld.2.2.2.1)))))))), ((cell_far (p := ⟨gb230, _, none⟩) (ts80_ GW230.out) _).trans (((cell_far (p := ⟨gb230, _, none⟩) (ts80_ GW230.out) _).trans (((cell_far (p := ⟨gb230, _, none⟩) (ts80_ GW230.out) _).trans (((cell_far (p := ⟨gb230, _, none⟩) (ts80_ GW230.out) _).trans (hHeld.2.2.2.2.1)))))))), ((cell_far (p := ⟨gb230, _, none⟩) (ts51_ GW230.out) _).trans (((cell_far (p := ⟨gb230, _, none⟩) (ts51_ GW230.out) _).trans (((cell_far (p := ⟨gb230, _, none⟩) (ts51_ GW230.out) _).trans (((cell_far (p := ⟨gb230, _, none⟩) (ts51_ GW230.out) _).trans (hHeld.2.2.2.2.2.1)))))))), ((cell_far (p := ⟨gb230, _, none⟩) (ts56_ GW230.out) _).trans (((cell_far (p := ⟨gb230, _, none⟩) (ts56_ GW230.out) _).trans (((cell_far (p := ⟨gb230, _, none⟩) (ts56_ GW230.out) _).trans (((cell_far (p := ⟨gb230, _, none⟩) (ts56_ GW230.out) _).trans (hHeld.2.2.2.2.2.2.1)))))))), ((cell_far (p := ⟨gb230, _, none⟩) (ts67_ GW230.out) _).trans (((cell_far (p := ⟨gb230, _, none⟩) (ts67_ GW230.out) _).trans (((cell_far (p := ⟨gb230, _, none⟩) (ts67_ GW230.out) _).trans (((cell_far (p := ⟨gb230, _, none⟩) (ts67_ GW230.out) _).trans (hHeld.2.2.2.2.2.2.2.1)))))))), ((cell_far (p := ⟨gb230, _, none⟩) (ts63_ GW230.out) _).trans (((cell_far (p := ⟨gb230, _, none⟩) (ts63_ GW230.out) _).trans (((cell_far (p := ⟨gb230, _, none⟩) (ts63_ GW230.out) _).trans (((cell_far (p := ⟨gb230, _, none⟩) (ts63_ GW230.out) _).trans (hHeld.2.2.2.2.2.2.2.2.1)))))))), ((cell_far (p := ⟨gb230, _, none⟩) (ts70_ GW230.out) _).trans (((cell_far (p := ⟨gb230, _, none⟩) (ts70_ GW230.out) _).trans (((cell_far (p := ⟨gb230, _, none⟩) (ts70_ GW230.out) _).trans (((cell_far (p := ⟨gb230, _, none⟩) (ts70_ GW230.out) _).trans (hHeld.2.2.2.2.2.2.2.2.2.1)))))))), ((cell_far (p := ⟨gb230, _, none⟩) (ts74_ GW230.out) _).trans (((cell_far (p := ⟨gb230, _, none⟩) (ts74_ GW230.out) _).trans (((cell_far (p := ⟨gb230, _, none⟩) (ts74_ GW230.out) _).trans (((cell_far (p := ⟨gb230, _, none⟩) (ts74_ GW230.out) _).trans (hHeld.2.2.2.2.2.2.2.2.2.2.1)))))))), ((cell_far (p := ⟨gb230, _, none⟩) (ts46_ GW230.out) _).trans (((cell_far (p := ⟨gb230, _, none⟩) (ts46_ GW230.out) _).trans (((cell_far (p := ⟨gb230, _, none⟩) (ts46_ GW230.out) _).trans (((cell_far (p := ⟨gb230, _, none⟩) (ts46_ GW230.out) _).trans (hHeld.2.2.2.2.2.2.2.2.2.2.2))))))))⟩ (fun hHeld => ?_)
             clear hK K
             refine done_ (done_of HT_.out (by kernel_rfl)) ?_
             try go_wp2
             have n0_ : Aside0 (((((((((w63.setCell ⟨gb229, 0, none⟩ (.string ((rd_T45 l0 a1_0).f0))).setCell ⟨gb229, 1, none⟩ (.slice A227_1 ((rd_T45 l0 a1_0).f1.f0).length c227_1)).setCell ⟨gb229, 2, none⟩ (.int .i64 ((rd_T45 l0 a1_0).f1.f1))).setCell ⟨gb229, 3, none⟩ (.int .i64 ((rd_T45 l0 a1_0).f1.f2))).setCell ⟨gb230, 0, none⟩ (.string ((rd_T45 l0 a1_1).f0))).setCell ⟨gb230, 1, none⟩ (.slice A228_1 ((rd_T45 l0 a1_1).f1.f0).length c228_1)).setCell ⟨gb230, 2, none⟩ (.int .i64 ((rd_T45 l0 a1_1).f1.f1))).setCell ⟨gb230, 3, none⟩ (.int .i64 ((rd_T45 l0 a1_1).f1.f2))).heap[gb226]? = some (.cells #[.int .i64 a1_0, .int .i64 a1_1, .int .i64 a1_2, .int .i64 a1_3] 57 (0, 0))) := ⟨ts11_ NB226_230.out NB226_229.out BK226.out⟩
             have n1_ : Aside0 (((((((((w63.setCell ⟨gb229, 0, none⟩ (.string ((rd_T45 l0 a1_0).f0))).setCell ⟨gb229, 1, none⟩ (.slice A227_1 ((rd_T45 l0 a1_0).f1.f0).length c227_1)).setCell ⟨gb229, 2, none⟩ (.int .i64 ((rd_T45 l0 a1_0).f1.f1))).setCell ⟨gb229, 3, none⟩ (.int .i64 ((rd_T45 l0 a1_0).f1.f2))).setCell ⟨gb230, 0, none⟩ (.string ((rd_T45 l0 a1_1).f0))).setCell ⟨gb230, 1, none⟩ (.slice A228_1 ((rd_T45 l0 a1_1).f1.f0).length c228_1)).setCell ⟨gb230, 2, none⟩ (.int .i64 ((rd_T45 l0 a1_1).f1.f1))).setCell ⟨gb230, 3, none⟩ (.int .i64 ((rd_T45 l0 a1_1).f1.f2))).heap[gb229]? = some (.cells #[.string ((rd_T45 l0 a1_0).f0), .slice A227_1 ((rd_T45 l0 a1_0).f1.f0).length c227_1, .int .i64 ((rd_T45 l0 a1_0).f1.f1), .int .i64 ((rd_T45 l0 a1_0).f1.f2)] 45 (0, 0))) := ⟨ts26_ NB229_230.out BK229.out⟩
             have n2_ : Aside0 (((((((((w63.setCell ⟨gb229, 0, none⟩ (.string ((rd_T45 l0 a1_0).f0))).setCell ⟨gb229, 1, none⟩ (.slice A227_1 ((rd_T45 l0 a1_0).f1.f0).length c227_1)).setCell ⟨gb229, 2, none⟩ (.int .i64 ((rd_T45 l0 a1_0).f1.f1))).setCell ⟨gb229, 3, none⟩ (.int .i64 ((rd_T45 l0 a1_0).f1.f2))).setCell ⟨gb230, 0, none⟩ (.string ((rd_T45 l0 a1_1).f0))).setCell ⟨gb230, 1, none⟩ (.slice A228_1 ((rd_T45 l0 a1_1).f1.f0).length c228_1)).setCell ⟨gb230, 2, none⟩ (.int .i64 ((rd_T45 l0 a1_1).f1.f1))).setCell ⟨gb230, 3, none⟩ (.int .i64 ((rd_T45 l0 a1_1).f1.f2))).heap[gb230]? = some (.cells #[.string ((rd_T45 l0 a1_1).f0), .slice A228_1 ((rd_T45 l0 a1_1).f1.f0).length c228_1, .int .i64 ((rd_T45 l0 a1_1).f1.f1), .int .i64 ((rd_T45 l0 a1_1).f1.f2)] 45 (0, 0))) := ⟨ts5_ NB230_229.out BK230.out⟩
             have n3_ : Aside0 (Below w.heap.size w ((((((((w63.setCell ⟨gb229, 0, none⟩ (.string ((rd_T45 l0 a1_0).f0))).setCell ⟨gb229, 1, none⟩ (.slice A227_1 ((rd_T45 l0 a1_0).f1.f0).length c227_1)).setCell ⟨gb229, 2, none⟩ (.int .i64 ((rd_T45 l0 a1_0).f1.f1))).setCell ⟨gb229, 3, none⟩ (.int .i64 ((rd_T45 l0 a1_0).f1.f2))).setCell ⟨gb230, 0, none⟩ (.string ((rd_T45 l0 a1_1).f0))).setCell ⟨gb230, 1, none⟩ (.slice A228_1 ((rd_T45 l0 a1_1).f1.f0).length c228_1)).setCell ⟨gb230, 2, none⟩ (.int .i64 ((rd_T45 l0 a1_1).f1.f1))).setCell ⟨gb230, 3, none⟩ (.int .i64 ((rd_T45 l0 a1_1).f1.f2)))) := ⟨ts39_ HB.out GE226.out GE229.out GE230.out⟩
             (try clear BK226)
             (try clear BK229)
             (try clear BK230)
             (try clear HB)
             generalize ((((((((w63.setCell ⟨gb229, 0, none⟩ (.string ((rd_T45 l0 a1_0).f0))).setCell ⟨gb229, 1, none⟩ (.slice A227_1 ((rd_T45 l0 a1_0).f1.f0).length c227_1)).setCell ⟨gb229, 2, none⟩ (.int .i64 ((rd_T45 l0 a1_0).f1.f1))).setCell ⟨gb229, 3, none⟩ (.int .i64 ((rd_T45 l0 a1_0).f1.f2))).setCell ⟨gb230, 0, none⟩ (.string ((rd_T45 l0 a1_1).f0))).setCell ⟨gb230, 1, none⟩ (.slice A228_1 ((rd_T45 l0 a1_1).f1.f0).length c228_1)).setCell ⟨gb230, 2, none⟩ (.int .i64 ((rd_T45 l0 a1_1).f1.f1))).setCell ⟨gb230, 3, none⟩ (.int .i64 ((rd_T45 l0 a1_1).f1.f2))) = w72 at n0_ n1_ n2_ n3_ ⊢
             have BK226 := n0_
             have BK229 := n1_
             have BK230 := n2_
             have HB := n3_
             clear n0_ n1_ n2_ n3_
             have n0_ := Aside0.mk (blk_drew BK226.out)
             have n1_ := Aside0.mk (blk_drew BK229.out)
             have n2_ := Aside0.mk (blk_drew BK230.out)
             have n3_ := Aside0.mk (below_drew1 HB.out)
             clear BK226
             clear BK229
             clear BK230
             clear HB
             have BK226 := n0_
             have BK229 := n1_
             have BK230 := n2_
             have HB := n3_
             clear n0_ n1_ n2_ n3_
             refine start_ (n := 10) (S := fun w' => w'.cell? ⟨gb229, 0, none⟩ = some (.string ((rd_T45 l0 a1_0).f0)) ∧ w'.cell? ⟨gb229, 1, none⟩ = some (.slice A227_1 ((rd_T45 l0 a1_0).f1.f0).length c227_1) ∧ w'.cell? ⟨gb229, 2, none⟩ = some (.int .i64 ((rd_T45 l0 a1_0).f1.f1)) ∧ w'.cell? ⟨gb229, 3, none⟩ = some (.int .i64 ((rd_T45 l0 a1_0).f1.f2)) ∧ w'.cell? ⟨gb230, 0, none⟩ = some (.string ((rd_T45 l0 a1_1).f0)) ∧ w'.cell? ⟨gb230, 1, none⟩ = some (.slice A228_1 ((rd_T45 l0 a1_1).f1.f0).length c228_1) ∧ w'.cell? ⟨gb230, 2, none⟩ = some (.int .i64 ((rd_T45 l0 a1_1).f1.f1)) ∧ w'.cell? ⟨gb230, 3, none⟩ = some (.int .i64 ((rd_T45 l0 a1_1).f1.f2))) (ds := []) #[false, false, false, false, false, false, false, false, false, false] (by kernel_rfl) rfl rfl ⟨(blk_cell BK229.out 0).trans rfl, (blk_cell BK229.out 1).trans rfl, (blk_cell BK229.out 2).trans rfl, (blk_cell BK229.out 3).trans rfl, (blk_cell BK230.out 0).trans rfl, (blk_cell BK230.out 1).trans rfl, (blk_cell BK230.out 2).trans rfl, (blk_cell BK230.out 3).trans rfl⟩ (fun hHeld => ?_); refine with_tabW cupelref35_part.tab2 cupelref35_part.bits2 (fun HT_ HW_ => ?_)
             generalize w72.drew = w73 at BK226 BK229 BK230 HB hHeld ⊢
             refine pure_ (i := 0) (N := some 18) (v := ?_) (a' := ?_) #[true, false, false, false, false, false, false, false, false, false] rfl rfl (any_of HT_.out (by kernel_rfl)) (fun _ _ _ h => h) (Or.inl ⟨by rfl, ?_⟩) ?_ ?_
             rotate_left
             ·intro w'
              go_simp
              with_reducible rfl
             rotate_left
             ·simp only [Act.put, List.setIfInBounds_toArray, List.set_cons_zero, List.set_cons_succ, i64_w, i32_w]
              rfl
             refine pure_ (i := 4) (N := some 22) (v := ?_) (a' := ?_) #[true, false, false, false, true, false, false, false, false, false] rfl rfl (any_of HT_.out (by kernel_rfl)) (fun _ _ _ h => h) (Or.inl ⟨by rfl, ?_⟩) ?_ ?_
             rotate_left
             ·intro w'
              go_simp
              with_reducible rfl
             rotate_left
             ·simp only [Act.put, List.setIfInBounds_toArray, List.set_cons_zero, List.set_cons_succ, i64_w, i32_w]
              rfl
             refine take_ (i := 1) (N := some 19) (v := ?_) (a' := ?_) #[true, true, false, false, true, false, false, false, false, false] rfl rfl (take_ofW HT_.out HW_.out (by kernel_rfl)) (fun _ _ _ h => h) (Or.inl ⟨by rfl, ?_⟩) hHeld ?_ ?_
             rotate_left
             ·rintro w' ⟨s0, s1, s2, s3, s4, s5, s6, s7⟩
              go_simp
              with_reducible rfl
             rotate_left
             ·simp only [Act.put, List.setIfInBounds_toArray, List.set_cons_zero, List.set_cons_succ, i64_w, i32_w]
              rfl
             refine take_ (i := 5) (N := some 23) (v := ?_) (a' := ?_) #[true, true, false, false, true, true, false, false, false, false] rfl rfl (take_ofW HT_.out HW_.out (by kernel_rfl)) (fun _ _ _ h => h) (Or.inl ⟨by rfl, ?_⟩) hHeld ?_ ?_
             rotate_left
             ·rintro w' ⟨s0, s1, s2, s3, s4, s5, s6, s7⟩
              go_simp
              with_reducible rfl
             rotate_left
             ·simp only [Act.put, List.setIfInBounds_toArray, List.set_cons_zero, List.set_cons_succ, i64_w, i32_w]
              rfl
             refine one_ (i := 2) (N := some 20) #[true, true, true, false, true, true, false, false, false, false] rfl rfl (one_of HT_.out (by kernel_rfl)) (by decide) (fun K hK => ?_)
             refine goes_ Tryd.func17 (by kernel_rfl) rfl #[.string ((rd_T45 l0 a1_0).f0)] (by rfl) rfl rfl ts10_ ?_
             with_reducible refine (cupelref35_Bare.calls k ((rd_T45 l0 a1_0).f0) t231 _ A7.out).mono ?_
             rintro e w' ⟨rfl, ⟨nd, rfl⟩⟩
             refine ⟨_, rfl, ?_⟩
             refine hK.out _ _ ⟨(blk_cell BK229.out 0).trans rfl, (blk_cell BK229.out 1).trans rfl, (blk_cell BK229.out 2).trans rfl, (blk_cell BK229.out 3).trans rfl, (blk_cell BK230.out 0).trans rfl, (blk_cell BK230.out 1).trans rfl, (blk_cell BK230.out 2).trans rfl, (blk_cell BK230.out 3).trans rfl⟩ (fun hHeld => ?_)
             clear hK K
             refine norm_ (a' := ?_) ?_ ?_
             rotate_left
             ·show Act.put _ (some 20) _ = _
              simp only [Act.put, List.setIfInBounds_toArray, List.set_cons_zero, List.set_cons_succ, i64_w, i32_w]
              rfl
             refine pure_ (i := 3) (N := some 21) (v := ?_) (a' := ?_) #[true, true, true, true, true, true, false, false, false, false] rfl rfl (any_of HT_.out (by kernel_rfl)) (fun _ _ _ h => h) (Or.inl ⟨by rfl, ?_⟩) ?_ ?_
             rotate_left
             ·intro w'
              go_simp
              with_reducible rfl
             rotate_left
             ·simp only [Act.put, List.setIfInBounds_toArray, List.set_cons_zero, List.set_cons_succ, i64_w, i32_w]
              rfl
             refine one_ (i := 6) (N := some 24) #[true, true, true, true, true, true, true, false, false, false] rfl rfl (one_of HT_.out (by kernel_rfl)) (by decide) (fun K hK => ?_)
             refine goes_ Tryd.func17 (by kernel_rfl) rfl #[.string ((rd_T45 l0 a1_1).f0)] (by rfl) rfl rfl ts10_ ?_
             with_reducible refine (cupelref35_Bare.calls k ((rd_T45 l0 a1_1).f0) t232 _ A9.out).mono ?_
             rintro e w' ⟨rfl, ⟨nd, rfl⟩⟩
             refine ⟨_, rfl, ?_⟩
             refine hK.out _ _ ⟨(blk_cell BK229.out 0).trans rfl, (blk_cell BK229.out 1).trans rfl, (blk_cell BK229.out 2).trans rfl, (blk_cell BK229.out 3).trans rfl, (blk_cell BK230.out 0).trans rfl, (blk_cell BK230.out 1).trans rfl, (blk_cell BK230.out 2).trans rfl, (blk_cell BK230.out 3).trans rfl⟩ (fun hHeld => ?_)
             clear hK K
             refine norm_ (a' := ?_) ?_ ?_
             rotate_left
             ·show Act.put _ (some 24) _ = _
              simp only [Act.put, List.setIfInBounds_toArray, List.set_cons_zero, List.set_cons_succ, i64_w, i32_w]
              rfl
             refine pure_ (i := 7) (N := some 25) (v := ?_) (a' := ?_) #[true, true, true, true, true, true, true, true, false, false] rfl rfl (any_of HT_.out (by kernel_rfl)) (fun _ _ _ h => h) (Or.inl ⟨by rfl, ?_⟩) ?_ ?_
             rotate_left
             ·intro w'
              go_simp
              with_reducible rfl
             rotate_left
             ·simp only [Act.put, List.setIfInBounds_toArray, List.set_cons_zero, List.set_cons_succ, i64_w, i32_w]
              rfl
             refine pure_ (i := 8) (N := some 26) (v := ?_) (a' := ?_) #[true, true, true, true, true, true, true, true, true, false] rfl rfl (any_of HT_.out (by kernel_rfl)) (fun _ _ _ h => h) (Or.inl ⟨by rfl, ?_⟩) ?_ ?_
             rotate_left
             ·intro w'
              go_simp
              with_reducible rfl
             rotate_left
             ·simp only [Act.put, List.setIfInBounds_toArray, List.set_cons_zero, List.set_cons_succ, i64_w, i32_w]
              rfl
             refine pure_ (i := 9) (N := some 7) (v := ?_) (a' := ?_) #[true, true, true, true, true, true, true, true, true, true] rfl rfl (any_of HT_.out (by kernel_rfl)) (fun _ _ _ h => h) (Or.inl ⟨by rfl, ?_⟩) ?_ ?_
             rotate_left
             ·intro w'
              go_simp
              with_reducible rfl
             rotate_left
             ·simp only [Act.put, List.setIfInBounds_toArray, List.set_cons_zero, List.set_cons_succ, i64_w, i32_w]
              rfl
             refine done_ (done_of HT_.out (by kernel_rfl)) ?_
             have hnb74 := NB226_229.out
             have hnc74 := NB229_226.out
             have hnb75 := NB226_230.out
             have hnc75 := NB230_226.out
             have hcz76_0 : w73.cell? ⟨gb226, 0, none⟩ = some (.int .i64 a1_0) := (blk_cell BK226.out 0).trans rfl
             have hcz76_1 : w73.cell? ⟨gb226, 1, none⟩ = some (.int .i64 a1_1) := (blk_cell BK226.out 1).trans rfl
             have hcz76_2 : w73.cell? ⟨gb226, 2, none⟩ = some (.int .i64 a1_2) := (blk_cell BK226.out 2).trans rfl
             have hcz76_3 : w73.cell? ⟨gb226, 3, none⟩ = some (.int .i64 a1_3) := (blk_cell BK226.out 3).trans rfl
             have hfz76_0 := blk_frozen BK226.out 0
             have hfz76_1 := blk_frozen BK226.out 1
             have hfz76_2 := blk_frozen BK226.out 2
             have hfz76_3 := blk_frozen BK226.out 3
             try go_wp2
             (try (rw [drewN_self w73]; generalize hq_ : World.drewN w73 _ = w73; have n0_ : Aside0 (w73.heap[gb226]? = some (.cells #[.int .i64 a1_0, .int .i64 a1_1, .int .i64 a1_2, .int .i64 a1_3] 57 (0, 0))) := ⟨by rw [← hq_]; exact (ts18_ BK226.out)⟩; have n1_ : Aside0 (w73.heap[gb229]? = some (.cells #[.string ((rd_T45 l0 a1_0).f0), .slice A227_1 ((rd_T45 l0 a1_0).f1.f0).length c227_1, .int .i64 ((rd_T45 l0 a1_0).f1.f1), .int .i64 ((rd_T45 l0 a1_0).f1.f2)] 45 (0, 0))) := ⟨by rw [← hq_]; exact (ts18_ BK229.out)⟩; have n2_ : Aside0 (w73.heap[gb230]? = some (.cells #[.string ((rd_T45 l0 a1_1).f0), .slice A228_1 ((rd_T45 l0 a1_1).f1.f0).length c228_1, .int .i64 ((rd_T45 l0 a1_1).f1.f1), .int .i64 ((rd_T45 l0 a1_1).f1.f2)] 45 (0, 0))) := ⟨by rw [← hq_]; exact (ts18_ BK230.out)⟩; have n3_ : Aside0 (Below w.heap.size w w73) := ⟨by rw [← hq_]; exact (ts39_ HB.out GE226.out GE229.out GE230.out)⟩; clear BK226 BK229 BK230 HB hq_; have BK226 := n0_; have BK229 := n1_; have BK230 := n2_; have HB := n3_; clear n0_ n1_ n2_ n3_))
             have n0_ := Aside0.mk (blk_drew BK226.out)
             have n1_ := Aside0.mk (blk_drew BK229.out)
             have n2_ := Aside0.mk (blk_drew BK230.out)
             have n3_ := Aside0.mk (below_drew1 HB.out)
             clear BK226
             clear BK229
             clear BK230
             clear HB
             have BK226 := n0_
             have BK229 := n1_
             have BK230 := n2_
             have HB := n3_
             clear n0_ n1_ n2_ n3_
             refine start_ (n := 11) (S := fun w' => w'.cell? ⟨gb229, 0, none⟩ = some (.string ((rd_T45 l0 a1_0).f0)) ∧ w'.cell? ⟨gb229, 1, none⟩ = some (.slice A227_1 ((rd_T45 l0 a1_0).f1.f0).length c227_1) ∧ w'.cell? ⟨gb229, 2, none⟩ = some (.int .i64 ((rd_T45 l0 a1_0).f1.f1)) ∧ w'.cell? ⟨gb229, 3, none⟩ = some (.int .i64 ((rd_T45 l0 a1_0).f1.f2)) ∧ w'.cell? ⟨gb230, 0, none⟩ = some (.string ((rd_T45 l0 a1_1).f0)) ∧ w'.cell? ⟨gb230, 1, none⟩ = some (.slice A228_1 ((rd_T45 l0 a1_1).f1.f0).length c228_1) ∧ w'.cell? ⟨gb230, 2, none⟩ = some (.int .i64 ((rd_T45 l0 a1_1).f1.f1)) ∧ w'.cell? ⟨gb230, 3, none⟩ = some (.int .i64 ((rd_T45 l0 a1_1).f1.f2))) (ds := []) #[false, false, false, false, false, false, false, false, false, false, false] (by kernel_rfl) rfl rfl ⟨(blk_cell BK229.out 0).trans rfl, (blk_cell BK229.out 1).trans rfl, (blk_cell BK229.out 2).trans rfl, (blk_cell BK229.out 3).trans rfl, (blk_cell BK230.out 0).trans rfl, (blk_cell BK230.out 1).trans rfl, (blk_cell BK230.out 2).trans rfl, (blk_cell BK230.out 3).trans rfl⟩ (fun hHeld => ?_); refine with_tabW cupelref35_part.tab11 cupelref35_part.bits11 (fun HT_ HW_ => ?_)
             generalize w73.drew = w77 at BK226 BK229 BK230 HB hHeld ⊢
             refine pure_ (i := 0) (N := some 43) (v := ?_) (a' := ?_) #[true, false, false, false, false, false, false, false, false, false, false] rfl rfl (any_of HT_.out (by kernel_rfl)) (fun _ _ _ h => h) (Or.inl ⟨by rfl, ?_⟩) ?_ ?_
             rotate_left
             ·intro w'
              go_simp
              with_reducible rfl
             rotate_left
             ·simp only [Act.put, List.setIfInBounds_toArray, List.set_cons_zero, List.set_cons_succ, i64_w, i32_w]
              rfl
             refine pure_ (i := 1) (N := some 44) (v := ?_) (a' := ?_) #[true, true, false, false, false, false, false, false, false, false, false] rfl rfl (any_of HT_.out (by kernel_rfl)) (fun _ _ _ h => h) (Or.inl ⟨by rfl, ?_⟩) ?_ ?_
             rotate_left
             ·intro w'
              go_simp
              with_reducible rfl
             rotate_left
             ·simp only [Act.put, List.setIfInBounds_toArray, List.set_cons_zero, List.set_cons_succ, i64_w, i32_w]
              rfl
             refine pure_ (i := 6) (N := some 49) (v := ?_) (a' := ?_) #[true, true, false, false, false, false, true, false, false, false, false] rfl rfl (any_of HT_.out (by kernel_rfl)) (fun _ _ _ h => h) (Or.inl ⟨by rfl, ?_⟩) ?_ ?_
             rotate_left
             ·intro w'
              go_simp
              with_reducible rfl
             rotate_left
             ·simp only [Act.put, List.setIfInBounds_toArray, List.set_cons_zero, List.set_cons_succ, i64_w, i32_w]
              rfl
             refine take_ (i := 2) (N := some 45) (v := ?_) (a' := ?_) #[true, true, true, false, false, false, true, false, false, false, false] rfl rfl (take_ofW HT_.out HW_.out (by kernel_rfl)) (fun _ _ _ h => h) (Or.inl ⟨by rfl, ?_⟩) hHeld ?_ ?_
             rotate_left
             ·rintro w' ⟨s0, s1, s2, s3, s4, s5, s6, s7⟩
              go_simp
              with_reducible rfl
             rotate_left
             ·simp only [Act.put, List.setIfInBounds_toArray, List.set_cons_zero, List.set_cons_succ, i64_w, i32_w]
              rfl
             refine take_ (i := 7) (N := some 50) (v := ?_) (a' := ?_) #[true, true, true, false, false, false, true, true, false, false, false] rfl rfl (take_ofW HT_.out HW_.out (by kernel_rfl)) (fun _ _ _ h => h) (Or.inl ⟨by rfl, ?_⟩) hHeld ?_ ?_
             rotate_left
             ·rintro w' ⟨s0, s1, s2, s3, s4, s5, s6, s7⟩
              go_simp
              with_reducible rfl
             rotate_left
             ·simp only [Act.put, List.setIfInBounds_toArray, List.set_cons_zero, List.set_cons_succ, i64_w, i32_w]
              rfl
             refine one_ (i := 3) (N := some 46) #[true, true, true, true, false, false, true, true, false, false, false] rfl rfl (one_of HT_.out (by kernel_rfl)) (by decide) (fun K hK => ?_)
             refine goes_ Tryd.func49 (by kernel_rfl) rfl #[.agg #[.slice A227_1 ((rd_T45 l0 a1_0).f1.f0).length c227_1, .int .i64 ((rd_T45 l0 a1_0).f1.f1), .int .i64 ((rd_T45 l0 a1_0).f1.f2)]] (by rfl) rfl rfl ts10_ ?_
             with_reducible refine (cupelref35_end.calls k _ _ ((rd_T45 l0 a1_0).f1.f0) ((rd_T45 l0 a1_0).f1.f1) ((rd_T45 l0 a1_0).f1.f2) t233 _ ?side1 ?side2 A54.out).mono ?_
             (case side1 => exact ts43_ HR227_1.out HB.out)
             (case side2 => exact HC227_1.out)
             rintro e w78 ⟨rfl, hb⟩
             refine ⟨_, rfl, ?_⟩
             have n0_ := Aside0.mk (blk_below (g := gb226) (o := .cells #[.int .i64 a1_0, .int .i64 a1_1, .int .i64 a1_2, .int .i64 a1_3] 57 (0, 0)) (ts18_ BK226.out) hb)
             have n1_ := Aside0.mk (blk_below (g := gb229) (o := .cells #[.string ((rd_T45 l0 a1_0).f0), .slice A227_1 ((rd_T45 l0 a1_0).f1.f0).length c227_1, .int .i64 ((rd_T45 l0 a1_0).f1.f1), .int .i64 ((rd_T45 l0 a1_0).f1.f2)] 45 (0, 0)) (ts18_ BK229.out) hb)
             have n2_ := Aside0.mk (blk_below (g := gb230) (o := .cells #[.string ((rd_T45 l0 a1_1).f0), .slice A228_1 ((rd_T45 l0 a1_1).f1.f0).length c228_1, .int .i64 ((rd_T45 l0 a1_1).f1.f1), .int .i64 ((rd_T45 l0 a1_1).f1.f2)] 45 (0, 0)) (ts18_ BK230.out) hb)
             have n3_ := Aside0.mk (below_step (ts39_ HB.out GE226.out GE229.out GE230.out) hb)
             clear BK226
             clear BK229
             clear BK230
             clear HB
             have BK226 := n0_
             have BK229 := n1_
             have BK230 := n2_
             have HB := n3_
             clear n0_ n1_ n2_ n3_
             (try clear hb)
             (try clear hb2)
             (try clear hk)
             (try clear hi)
             refine hK.out _ _ ⟨(blk_cell BK229.out 0).trans rfl, (blk_cell BK229.out 1).trans rfl, (blk_cell BK229.out 2).trans rfl, (blk_cell BK229.out 3).trans rfl, (blk_cell BK230.out 0).trans rfl, (blk_cell BK230.out 1).trans rfl, (blk_cell BK230.out 2).trans rfl, (blk_cell BK230.out 3).trans rfl⟩ (fun hHeld => ?_)
             clear hK K
             refine norm_ (a' := ?_) ?_ ?_
             rotate_left
             ·show Act.put _ (some 46) _ = _
              simp only [Act.put, List.setIfInBounds_toArray, List.set_cons_zero, List.set_cons_succ, i64_w, i32_w]
              rfl
             refine pure_ (i := 4) (N := some 47) (v := ?_) (a' := ?_) #[true, true, true, true, true, false, true, true, false, false, false] rfl rfl (any_of HT_.out (by kernel_rfl)) (fun _ _ _ h => h) (Or.inl ⟨by rfl, ?_⟩) ?_ ?_
             rotate_left
             ·intro w'
              go_simp
              with_reducible rfl
             rotate_left
             ·simp only [Act.put, List.setIfInBounds_toArray, List.set_cons_zero, List.set_cons_succ, i64_w, i32_w]
              rfl
             refine pure_ (i := 5) (N := some 48) (v := ?_) (a' := ?_) #[true, true, true, true, true, true, true, true, false, false, false] rfl rfl (any_of HT_.out (by kernel_rfl)) (fun _ _ _ h => h) (Or.inl ⟨by rfl, ?_⟩) ?_ ?_
             rotate_left
             ·intro w'
              go_simp
              with_reducible rfl
             rotate_left
             ·simp only [Act.put, List.setIfInBounds_toArray, List.set_cons_zero, List.set_cons_succ, i64_w, i32_w]
              rfl
             refine one_ (i := 8) (N := some 51) #[true, true, true, true, true, true, true, true, true, false, false] rfl rfl (one_of HT_.out (by kernel_rfl)) (by decide) (fun K hK => ?_)
             refine goes_ Tryd.func49 (by kernel_rfl) rfl #[.agg #[.slice A228_1 ((rd_T45 l0 a1_1).f1.f0).length c228_1, .int .i64 ((rd_T45 l0 a1_1).f1.f1), .int .i64 ((rd_T45 l0 a1_1).f1.f2)]] (by rfl) rfl rfl ts10_ ?_
             with_reducible refine (cupelref35_end.calls k _ _ ((rd_T45 l0 a1_1).f1.f0) ((rd_T45 l0 a1_1).f1.f1) ((rd_T45 l0 a1_1).f1.f2) t234 _ ?side1 ?side2 A57.out).mono ?_
             (case side1 => exact ts43_ HR228_1.out HB.out)
             (case side2 => exact HC228_1.out)
             rintro e w79 ⟨rfl, hb⟩
             refine ⟨_, rfl, ?_⟩
             have n0_ := Aside0.mk (blk_below (g := gb226) (o := .cells #[.int .i64 a1_0, .int .i64 a1_1, .int .i64 a1_2, .int .i64 a1_3] 57 (0, 0)) (ts18_ BK226.out) hb)
             have n1_ := Aside0.mk (blk_below (g := gb229) (o := .cells #[.string ((rd_T45 l0 a1_0).f0), .slice A227_1 ((rd_T45 l0 a1_0).f1.f0).length c227_1, .int .i64 ((rd_T45 l0 a1_0).f1.f1), .int .i64 ((rd_T45 l0 a1_0).f1.f2)] 45 (0, 0)) (ts18_ BK229.out) hb)
             have n2_ := Aside0.mk (blk_below (g := gb230) (o := .cells #[.string ((rd_T45 l0 a1_1).f0), .slice A228_1 ((rd_T45 l0 a1_1).f1.f0).length c228_1, .int .i64 ((rd_T45 l0 a1_1).f1.f1), .int .i64 ((rd_T45 l0 a1_1).f1.f2)] 45 (0, 0)) (ts18_ BK230.out) hb)
             have n3_ := Aside0.mk (below_step (ts39_ HB.out GE226.out GE229.out GE230.out) hb)
             clear BK226
             clear BK229
             clear BK230
             clear HB
             have BK226 := n0_
             have BK229 := n1_
             have BK230 := n2_
             have HB := n3_
             clear n0_ n1_ n2_ n3_
             (try clear hb)
             (try clear hb2)
             (try clear hk)
             (try clear hi)
             refine hK.out _ _ ⟨(blk_cell BK229.out 0).trans rfl, (blk_cell BK229.out 1).trans rfl, (blk_cell BK229.out 2).trans rfl, (blk_cell BK229.out 3).trans rfl, (blk_cell BK230.out 0).trans rfl, (blk_cell BK230.out 1).trans rfl, (blk_cell BK230.out 2).trans rfl, (blk_cell BK230.out 3).trans rfl⟩ (fun hHeld => ?_)
             clear hK K
             refine norm_ (a' := ?_) ?_ ?_
             rotate_left
             ·show Act.put _ (some 51) _ = _
              simp only [Act.put, List.setIfInBounds_toArray, List.set_cons_zero, List.set_cons_succ, i64_w, i32_w]
              rfl
             refine pure_ (i := 9) (N := some 52) (v := ?_) (a' := ?_) #[true, true, true, true, true, true, true, true, true, true, false] rfl rfl (any_of HT_.out (by kernel_rfl)) (fun _ _ _ h => h) (Or.inl ⟨by rfl, ?_⟩) ?_ ?_
             rotate_left
             ·intro w'
              go_simp
              with_reducible rfl
             rotate_left
             ·simp only [Act.put, List.setIfInBounds_toArray, List.set_cons_zero, List.set_cons_succ, i64_w, i32_w]
              rfl
             refine pure_ (i := 10) (N := some 4) (v := ?_) (a' := ?_) #[true, true, true, true, true, true, true, true, true, true, true] rfl rfl (any_of HT_.out (by kernel_rfl)) (fun _ _ _ h => h) (Or.inl ⟨by rfl, ?_⟩) ?_ ?_
             rotate_left
             ·intro w'
              go_simp
              with_reducible rfl
             rotate_left
             ·simp only [Act.put, List.setIfInBounds_toArray, List.set_cons_zero, List.set_cons_succ, i64_w, i32_w]
              rfl
             refine done_ (done_of HT_.out (by kernel_rfl)) ?_
             try go_wp2
             go_ret
             exact ⟨ts33_, ts39_ HB.out GE226.out GE229.out GE230.out⟩
            rw [if_neg c58] at H
            exact absurd H (by simp)
           rw [if_neg c56] at H
           exact absurd H (by simp)
          rw [if_neg c55] at H
          exact absurd H (by simp)
         rw [if_neg c53] at H
         exact absurd H (by simp)
        rw [if_neg c52] at H
        have c52b0 : (a1_2 == 3) = false := beq_eq_false_iff_ne.mpr c52
        have c52b1 : (a1_2 != 3) = true := bne_iff_ne.mpr c52
        by_cases c80 : (((t231 ++ (⟨#[44, 32]⟩ : ByteArray)) ++ t232) ++ (⟨#[58, 32]⟩ : ByteArray)).size + 5 ≤ 9223372036854775807
        ·rw [if_pos c80] at H
         have c80b0 := eq_true c80
         have c80b1 : decide ((((t231 ++ (⟨#[44, 32]⟩ : ByteArray)) ++ t232) ++ (⟨#[58, 32]⟩ : ByteArray)).size + 5 ≤ 9223372036854775807) = true := decide_eq_true c80
         try have c80b2 : (9223372036854775807 < (((t231 ++ (⟨#[44, 32]⟩ : ByteArray)) ++ t232) ++ (⟨#[58, 32]⟩ : ByteArray)).size + 5) = False := eq_false (Nat.not_lt.2 c80)
         have c80b3 := c80b2
         try simp only [ByteArray.size_append, bsz1, bsz2, bsz3, bsz4, bsz5, bsz6] at c80b3
         obtain ⟨t235, A81, H⟩ := bsA_ H
         try dsimp only at H
         by_cases c82 : ((((t231 ++ (⟨#[44, 32]⟩ : ByteArray)) ++ t232) ++ (⟨#[58, 32]⟩ : ByteArray)) ++ (⟨#[99, 111, 100, 101, 32]⟩ : ByteArray)).size + t235.size ≤ 9223372036854775807
         ·rw [if_pos c82] at H
          have c82b0 := eq_true c82
          have c82b1 : decide (((((t231 ++ (⟨#[44, 32]⟩ : ByteArray)) ++ t232) ++ (⟨#[58, 32]⟩ : ByteArray)) ++ (⟨#[99, 111, 100, 101, 32]⟩ : ByteArray)).size + t235.size ≤ 9223372036854775807) = true := decide_eq_true c82
          try have c82b2 : (9223372036854775807 < ((((t231 ++ (⟨#[44, 32]⟩ : ByteArray)) ++ t232) ++ (⟨#[58, 32]⟩ : ByteArray)) ++ (⟨#[99, 111, 100, 101, 32]⟩ : ByteArray)).size + t235.size) = False := eq_false (Nat.not_lt.2 c82)
          have c82b3 := c82b2
          try simp only [ByteArray.size_append, bsz1, bsz2, bsz3, bsz4, bsz5, bsz6] at c82b3
          by_cases c83 : (((((t231 ++ (⟨#[44, 32]⟩ : ByteArray)) ++ t232) ++ (⟨#[58, 32]⟩ : ByteArray)) ++ (⟨#[99, 111, 100, 101, 32]⟩ : ByteArray)) ++ t235).size + 3 ≤ 9223372036854775807
          ·rw [if_pos c83] at H
           have c83b0 := eq_true c83
           have c83b1 : decide ((((((t231 ++ (⟨#[44, 32]⟩ : ByteArray)) ++ t232) ++ (⟨#[58, 32]⟩ : ByteArray)) ++ (⟨#[99, 111, 100, 101, 32]⟩ : ByteArray)) ++ t235).size + 3 ≤ 9223372036854775807) = true := decide_eq_true c83
           try have c83b2 : (9223372036854775807 < (((((t231 ++ (⟨#[44, 32]⟩ : ByteArray)) ++ t232) ++ (⟨#[58, 32]⟩ : ByteArray)) ++ (⟨#[99, 111, 100, 101, 32]⟩ : ByteArray)) ++ t235).size + 3) = False := eq_false (Nat.not_lt.2 c83)
           have c83b3 := c83b2
           try simp only [ByteArray.size_append, bsz1, bsz2, bsz3, bsz4, bsz5, bsz6] at c83b3
           obtain ⟨t236, A84, H⟩ := bsA_ H
           try dsimp only at H
           by_cases c85 : ((((((t231 ++ (⟨#[44, 32]⟩ : ByteArray)) ++ t232) ++ (⟨#[58, 32]⟩ : ByteArray)) ++ (⟨#[99, 111, 100, 101, 32]⟩ : ByteArray)) ++ t235) ++ (⟨#[32, 47, 32]⟩ : ByteArray)).size + t236.size ≤ 9223372036854775807
           ·rw [if_pos c85] at H
            have c85b0 := eq_true c85
            have c85b1 : decide (((((((t231 ++ (⟨#[44, 32]⟩ : ByteArray)) ++ t232) ++ (⟨#[58, 32]⟩ : ByteArray)) ++ (⟨#[99, 111, 100, 101, 32]⟩ : ByteArray)) ++ t235) ++ (⟨#[32, 47, 32]⟩ : ByteArray)).size + t236.size ≤ 9223372036854775807) = true := decide_eq_true c85
            try have c85b2 : (9223372036854775807 < ((((((t231 ++ (⟨#[44, 32]⟩ : ByteArray)) ++ t232) ++ (⟨#[58, 32]⟩ : ByteArray)) ++ (⟨#[99, 111, 100, 101, 32]⟩ : ByteArray)) ++ t235) ++ (⟨#[32, 47, 32]⟩ : ByteArray)).size + t236.size) = False := eq_false (Nat.not_lt.2 c85)
            have c85b3 := c85b2
            try simp only [ByteArray.size_append, bsz1, bsz2, bsz3, bsz4, bsz5, bsz6] at c85b3
            obtain rfl := Option.some.inj H
            go_enter Tryd.func30, Tryd.ntmps30
            try go_wp2_with (first | ((with_reducible refine gate_dst (N := 3) rfl ?_); refine box_event ?hg (N := 3) ?hd (cs := #[.int .i64 a1_0, .int .i64 a1_1, .int .i64 a1_2, .int .i64 a1_3]) (t := 57) ?hr ?_; (case hd => rfl); (case hg => rfl); (case hr => exact ts19_); intro gb226 hg w86 hbox hb; have BK226 := Aside0.mk (hbox); have GW226 := Aside0.mk ((ts47_ HB.out : w.heap.size ≤ gb226)); have GE226 := Aside0.mk ((ts47_ HB.out : w.heap.size ≤ gb226)); replace HB := Aside0.mk (below_step (ts41_ HB.out) hb); clear hb hbox hg))
            have n0_ := Aside0.mk (blk_drew BK226.out)
            have n1_ := Aside0.mk (below_drew1 HB.out)
            clear BK226
            clear HB
            have BK226 := n0_
            have HB := n1_
            clear n0_ n1_
            have p227 : 0 ≤ (a1_0 : Int) := of_decide_eq_true ts30_
            have q227 : a1_0 < (l0.length : Int) := of_decide_eq_true ts30_
            obtain ⟨ad227, A227_1, c227_1, e227, hx227_0, hx227_1, hx227_2, hx227_3, hl227_1, hi227_1⟩ := at_T45 HR0.out a1_0 p227 q227
            have hw227_3 := hx227_3
            have hw227_2 := hx227_2
            have hw227_1 := hx227_1
            have hw227_0 := hx227_0
            cases e227
            replace hx227_0 := (HB.out.cell (World.block_lt_of_cell? w _ hx227_0)).trans hx227_0
            replace hx227_1 := (HB.out.cell (World.block_lt_of_cell? w _ hx227_1)).trans hx227_1
            replace hx227_2 := (HB.out.cell (World.block_lt_of_cell? w _ hx227_2)).trans hx227_2
            replace hx227_3 := (HB.out.cell (World.block_lt_of_cell? w _ hx227_3)).trans hx227_3
            have HR227_1 := Aside0.mk hi227_1
            have HC227_1 := Aside0.mk hl227_1
            clear hi227_1 hl227_1
            replace p227 := eq_true p227
            replace q227 := eq_true q227
            have p228 : 0 ≤ (a1_1 : Int) := of_decide_eq_true ts30_
            have q228 : a1_1 < (l0.length : Int) := of_decide_eq_true ts30_
            obtain ⟨ad228, A228_1, c228_1, e228, hx228_0, hx228_1, hx228_2, hx228_3, hl228_1, hi228_1⟩ := at_T45 HR0.out a1_1 p228 q228
            have hw228_3 := hx228_3
            have hw228_2 := hx228_2
            have hw228_1 := hx228_1
            have hw228_0 := hx228_0
            obtain rfl : ad227 = ad228 := (by injection e228)
            replace hx228_0 := (HB.out.cell (World.block_lt_of_cell? w _ hx228_0)).trans hx228_0
            replace hx228_1 := (HB.out.cell (World.block_lt_of_cell? w _ hx228_1)).trans hx228_1
            replace hx228_2 := (HB.out.cell (World.block_lt_of_cell? w _ hx228_2)).trans hx228_2
            replace hx228_3 := (HB.out.cell (World.block_lt_of_cell? w _ hx228_3)).trans hx228_3
            have HR228_1 := Aside0.mk hi228_1
            have HC228_1 := Aside0.mk hl228_1
            clear hi228_1 hl228_1
            replace p228 := eq_true p228
            replace q228 := eq_true q228
            refine start_ (n := 14) (S := fun w' => w'.cell? ⟨gb226, 0, none⟩ = some (.int .i64 a1_0) ∧ w'.cell? ⟨gb226, 1, none⟩ = some (.int .i64 a1_1) ∧ w'.cell? ⟨gb226, 2, none⟩ = some (.int .i64 a1_2) ∧ w'.cell? ⟨gb226, 3, none⟩ = some (.int .i64 a1_3) ∧ w'.cell? (ad227.add ((a1_0).toNat * 4)) = some (.string ((rd_T45 l0 a1_0).f0)) ∧ w'.cell? ⟨(ad227.add ((a1_0).toNat * 4)).block, (ad227.add ((a1_0).toNat * 4)).off + 1, none⟩ = some (.slice A227_1 ((rd_T45 l0 a1_0).f1.f0).length c227_1) ∧ w'.cell? ⟨(ad227.add ((a1_0).toNat * 4)).block, (ad227.add ((a1_0).toNat * 4)).off + 2, none⟩ = some (.int .i64 ((rd_T45 l0 a1_0).f1.f1)) ∧ w'.cell? ⟨(ad227.add ((a1_0).toNat * 4)).block, (ad227.add ((a1_0).toNat * 4)).off + 3, none⟩ = some (.int .i64 ((rd_T45 l0 a1_0).f1.f2)) ∧ w'.cell? (ad227.add ((a1_1).toNat * 4)) = some (.string ((rd_T45 l0 a1_1).f0)) ∧ w'.cell? ⟨(ad227.add ((a1_1).toNat * 4)).block, (ad227.add ((a1_1).toNat * 4)).off + 1, none⟩ = some (.slice A228_1 ((rd_T45 l0 a1_1).f1.f0).length c228_1) ∧ w'.cell? ⟨(ad227.add ((a1_1).toNat * 4)).block, (ad227.add ((a1_1).toNat * 4)).off + 2, none⟩ = some (.int .i64 ((rd_T45 l0 a1_1).f1.f1)) ∧ w'.cell? ⟨(ad227.add ((a1_1).toNat * 4)).block, (ad227.add ((a1_1).toNat * 4)).off + 3, none⟩ = some (.int .i64 ((rd_T45 l0 a1_1).f1.f2))) (ds := []) #[false, false, false, false, false, false, false, false, false, false, false, false, false, false] (by kernel_rfl) rfl rfl ⟨(blk_cell BK226.out 0).trans rfl, (blk_cell BK226.out 1).trans rfl, (blk_cell BK226.out 2).trans rfl, (blk_cell BK226.out 3).trans rfl, ((HB.out.cell (World.block_lt_of_cell? w _ hw227_0)).trans hw227_0), ((HB.out.cell (World.block_lt_of_cell? w _ hw227_1)).trans hw227_1), ((HB.out.cell (World.block_lt_of_cell? w _ hw227_2)).trans hw227_2), ((HB.out.cell (World.block_lt_of_cell? w _ hw227_3)).trans hw227_3), ((HB.out.cell (World.block_lt_of_cell? w _ hw228_0)).trans hw228_0), ((HB.out.cell (World.block_lt_of_cell? w _ hw228_1)).trans hw228_1), ((HB.out.cell (World.block_lt_of_cell? w _ hw228_2)).trans hw228_2), ((HB.out.cell (World.block_lt_of_cell? w _ hw228_3)).trans hw228_3)⟩ (fun hHeld => ?_); refine with_tabW cupelref35_part.tab1 cupelref35_part.bits1 (fun HT_ HW_ => ?_)
            generalize w86.drew = w87 at BK226 HB HR227_1 HR228_1 hx227_0 hx227_1 hx227_2 hx227_3 hx228_0 hx228_1 hx228_2 hx228_3 hHeld ⊢
            refine pure_ (i := 0) (N := some 8) (v := ?_) (a' := ?_) #[true, false, false, false, false, false, false, false, false, false, false, false, false, false] rfl rfl (any_of HT_.out (by kernel_rfl)) (fun _ _ _ h => h) (Or.inl ⟨by rfl, ?_⟩) ?_ ?_
            rotate_left
            ·intro w'
             go_simp
             with_reducible rfl
            rotate_left
            ·simp only [Act.put, List.setIfInBounds_toArray, List.set_cons_zero, List.set_cons_succ, i64_w, i32_w]
             rfl
            refine pure_ (i := 1) (N := some 9) (v := ?_) (a' := ?_) #[true, true, false, false, false, false, false, false, false, false, false, false, false, false] rfl rfl (any_of HT_.out (by kernel_rfl)) (fun _ _ _ h => h) (Or.inl ⟨by rfl, ?_⟩) ?_ ?_
            rotate_left
            ·intro w'
             go_simp
             with_reducible rfl
            rotate_left
            ·simp only [Act.put, List.setIfInBounds_toArray, List.set_cons_zero, List.set_cons_succ, i64_w, i32_w]
             rfl
            refine pure_ (i := 5) (N := some 13) (v := ?_) (a' := ?_) #[true, true, false, false, false, true, false, false, false, false, false, false, false, false] rfl rfl (any_of HT_.out (by kernel_rfl)) (fun _ _ _ h => h) (Or.inl ⟨by rfl, ?_⟩) ?_ ?_
            rotate_left
            ·intro w'
             go_simp
             with_reducible rfl
            rotate_left
            ·simp only [Act.put, List.setIfInBounds_toArray, List.set_cons_zero, List.set_cons_succ, i64_w, i32_w]
             rfl
            refine pure_ (i := 6) (N := some 14) (v := ?_) (a' := ?_) #[true, true, false, false, false, true, true, false, false, false, false, false, false, false] rfl rfl (any_of HT_.out (by kernel_rfl)) (fun _ _ _ h => h) (Or.inl ⟨by rfl, ?_⟩) ?_ ?_
            rotate_left
            ·intro w'
             go_simp
             with_reducible rfl
            rotate_left
            ·simp only [Act.put, List.setIfInBounds_toArray, List.set_cons_zero, List.set_cons_succ, i64_w, i32_w]
             rfl
            refine take_ (i := 2) (N := some 10) (v := ?_) (a' := ?_) #[true, true, true, false, false, true, true, false, false, false, false, false, false, false] rfl rfl (take_ofW HT_.out HW_.out (by kernel_rfl)) (fun _ _ _ h => h) (Or.inl ⟨by rfl, ?_⟩) hHeld ?_ ?_
            rotate_left
            ·rintro w' ⟨s0, s1, s2, s3, s4, s5, s6, s7, s8, s9, s10, s11⟩
             go_simp
             with_reducible rfl
            rotate_left
            ·simp only [Act.put, List.setIfInBounds_toArray, List.set_cons_zero, List.set_cons_succ, i64_w, i32_w]
             rfl
            refine pure_ (i := 3) (N := some 11) (v := ?_) (a' := ?_) #[true, true, true, true, false, true, true, false, false, false, false, false, false, false] rfl rfl (any_of HT_.out (by kernel_rfl)) (fun _ _ _ h => h) (Or.inl ⟨by rfl, ?_⟩) ?_ ?_
            rotate_left
            ·intro w'
             go_simp
             with_reducible rfl
            rotate_left
            ·simp only [Act.put, List.setIfInBounds_toArray, List.set_cons_zero, List.set_cons_succ, i64_w, i32_w]
             rfl
            refine take_ (i := 4) (N := some 12) (v := ?_) (a' := ?_) #[true, true, true, true, true, true, true, false, false, false, false, false, false, false] rfl rfl (take_ofW HT_.out HW_.out (by kernel_rfl)) (fun _ _ _ h => h) (Or.inl ⟨by rfl, ?_⟩) hHeld ?_ ?_
            rotate_left
            ·rintro w' ⟨s0, s1, s2, s3, s4, s5, s6, s7, s8, s9, s10, s11⟩
             go_simp
             with_reducible rfl
            rotate_left
            ·simp only [Act.put, List.setIfInBounds_toArray, List.set_cons_zero, List.set_cons_succ, i64_w, i32_w]
             rfl
            refine take_ (i := 7) (N := some 15) (v := ?_) (a' := ?_) #[true, true, true, true, true, true, true, true, false, false, false, false, false, false] rfl rfl (take_ofW HT_.out HW_.out (by kernel_rfl)) (fun _ _ _ h => h) (Or.inl ⟨by rfl, ?_⟩) hHeld ?_ ?_
            rotate_left
            ·rintro w' ⟨s0, s1, s2, s3, s4, s5, s6, s7, s8, s9, s10, s11⟩
             go_simp
             with_reducible rfl
            rotate_left
            ·simp only [Act.put, List.setIfInBounds_toArray, List.set_cons_zero, List.set_cons_succ, i64_w, i32_w]
             rfl
            refine pure_ (i := 8) (N := some 16) (v := ?_) (a' := ?_) #[true, true, true, true, true, true, true, true, true, false, false, false, false, false] rfl rfl (any_of HT_.out (by kernel_rfl)) (fun _ _ _ h => h) (Or.inl ⟨by rfl, ?_⟩) ?_ ?_
            rotate_left
            ·intro w'
             go_simp
             with_reducible rfl
            rotate_left
            ·simp only [Act.put, List.setIfInBounds_toArray, List.set_cons_zero, List.set_cons_succ, i64_w, i32_w]
             rfl
            refine take_ (i := 9) (N := some 17) (v := ?_) (a' := ?_) #[true, true, true, true, true, true, true, true, true, true, false, false, false, false] rfl rfl (take_ofW HT_.out HW_.out (by kernel_rfl)) (fun _ _ _ h => h) (Or.inl ⟨by rfl, ?_⟩) hHeld ?_ ?_
            rotate_left
            ·rintro w' ⟨s0, s1, s2, s3, s4, s5, s6, s7, s8, s9, s10, s11⟩
             go_simp
             with_reducible rfl
            rotate_left
            ·simp only [Act.put, List.setIfInBounds_toArray, List.set_cons_zero, List.set_cons_succ, i64_w, i32_w]
             rfl
            refine join_ (σ := Nat × Nat) 2 #[true, true, true, true, true, true, true, true, true, true, true, true, false, false] (fun s_ => [(5, .pointer (some ⟨s_.1, 0, none⟩)), (6, .pointer (some ⟨s_.2, 0, none⟩))]) (fun s_ w' => (w'.cell? ⟨gb226, 0, none⟩ = some (.int .i64 a1_0) ∧ w'.cell? ⟨gb226, 1, none⟩ = some (.int .i64 a1_1) ∧ w'.cell? ⟨gb226, 2, none⟩ = some (.int .i64 a1_2) ∧ w'.cell? ⟨gb226, 3, none⟩ = some (.int .i64 a1_3) ∧ w'.cell? (ad227.add ((a1_0).toNat * 4)) = some (.string ((rd_T45 l0 a1_0).f0)) ∧ w'.cell? ⟨(ad227.add ((a1_0).toNat * 4)).block, (ad227.add ((a1_0).toNat * 4)).off + 1, none⟩ = some (.slice A227_1 ((rd_T45 l0 a1_0).f1.f0).length c227_1) ∧ w'.cell? ⟨(ad227.add ((a1_0).toNat * 4)).block, (ad227.add ((a1_0).toNat * 4)).off + 2, none⟩ = some (.int .i64 ((rd_T45 l0 a1_0).f1.f1)) ∧ w'.cell? ⟨(ad227.add ((a1_0).toNat * 4)).block, (ad227.add ((a1_0).toNat * 4)).off + 3, none⟩ = some (.int .i64 ((rd_T45 l0 a1_0).f1.f2)) ∧ w'.cell? (ad227.add ((a1_1).toNat * 4)) = some (.string ((rd_T45 l0 a1_1).f0)) ∧ w'.cell? ⟨(ad227.add ((a1_1).toNat * 4)).block, (ad227.add ((a1_1).toNat * 4)).off + 1, none⟩ = some (.slice A228_1 ((rd_T45 l0 a1_1).f1.f0).length c228_1) ∧ w'.cell? ⟨(ad227.add ((a1_1).toNat * 4)).block, (ad227.add ((a1_1).toNat * 4)).off + 2, none⟩ = some (.int .i64 ((rd_T45 l0 a1_1).f1.f1)) ∧ w'.cell? ⟨(ad227.add ((a1_1).toNat * 4)).block, (ad227.add ((a1_1).toNat * 4)).off + 3, none⟩ = some (.int .i64 ((rd_T45 l0 a1_1).f1.f2))) ∧ (w'.heap[gb226]? = some (.cells #[.int .i64 a1_0, .int .i64 a1_1, .int .i64 a1_2, .int .i64 a1_3] 57 (0, 0))) ∧ (w'.heap[s_.1]? = some (.cells #[.string (⟨#[]⟩ : ByteArray), .slice none 0 0, .int .i64 0, .int .i64 0] 45 (0, 0))) ∧ (w'.heap[s_.2]? = some (.cells #[.string (⟨#[]⟩ : ByteArray), .slice none 0 0, .int .i64 0, .int .i64 0] 45 (0, 0))) ∧ (w.heap.size ≤ s_.1) ∧ (w.heap.size ≤ s_.1) ∧ (gb226 ≠ s_.1) ∧ (s_.1 ≠ gb226) ∧ (s_.2 ≠ s_.1) ∧ (s_.1 ≠ s_.2) ∧ (w.heap.size ≤ s_.2) ∧ (w.heap.size ≤ s_.2) ∧ (gb226 ≠ s_.2) ∧ (s_.2 ≠ gb226) ∧ (Below w.heap.size w w')) ?_ ?_
            rotate_left
            ·intro hCont
             refine two_ (i := 10) (j := 11) (Ni := some 5) (Nj := some 6) #[true, true, true, true, true, true, true, true, true, true, true, false, false, false] #[true, true, true, true, true, true, true, true, true, true, false, true, false, false] rfl rfl rfl rfl (two_of HT_.out (by kernel_rfl)) (by decide) (by decide) (fun K hK => ?_) (fun K hK => ?_)
             ·skip
              refine box_step ?hg (N := 5) ?hd (cs := #[.string (⟨#[]⟩ : ByteArray), .slice none 0 0, .int .i64 0, .int .i64 0]) (t := 45) ?hr ?_; (case hd => rfl); (case hg => rfl); (case hr => exact ts19_)
              intro gb229 hg w88 hbox hb
              have n0_ := Aside0.mk (blk_below (g := gb226) (o := .cells #[.int .i64 a1_0, .int .i64 a1_1, .int .i64 a1_2, .int .i64 a1_3] 57 (0, 0)) (ts18_ BK226.out) hb)
              have n1_ := Aside0.mk (below_step (ts22_ HB.out GE226.out) hb)
              have n2_ := Aside0.mk (hbox)
              have n3_ := Aside0.mk ((ts76_ HB.out GE226.out : w.heap.size ≤ gb229))
              have n4_ := Aside0.mk ((ts76_ HB.out GE226.out : w.heap.size ≤ gb229))
              have n5_ := Aside0.mk ((ts78_ BK226.out : gb226 ≠ gb229))
              have n6_ := Aside0.mk ((ts61_ BK226.out : gb229 ≠ gb226))
              clear BK226
              clear HB
              have BK226 := n0_
              have HB := n1_
              have BK229 := n2_
              have GW229 := n3_
              have GE229 := n4_
              have NB226_229 := n5_
              have NB229_226 := n6_
              clear n0_ n1_ n2_ n3_ n4_ n5_ n6_
              clear hb hbox hg
              refine hK.out _ _ ⟨(blk_cell BK226.out 0).trans rfl, (blk_cell BK226.out 1).trans rfl, (blk_cell BK226.out 2).trans rfl, (blk_cell BK226.out 3).trans rfl, ((HB.out.cell (World.block_lt_of_cell? w _ hw227_0)).trans hw227_0), ((HB.out.cell (World.block_lt_of_cell? w _ hw227_1)).trans hw227_1), ((HB.out.cell (World.block_lt_of_cell? w _ hw227_2)).trans hw227_2), ((HB.out.cell (World.block_lt_of_cell? w _ hw227_3)).trans hw227_3), ((HB.out.cell (World.block_lt_of_cell? w _ hw228_0)).trans hw228_0), ((HB.out.cell (World.block_lt_of_cell? w _ hw228_1)).trans hw228_1), ((HB.out.cell (World.block_lt_of_cell? w _ hw228_2)).trans hw228_2), ((HB.out.cell (World.block_lt_of_cell? w _ hw228_3)).trans hw228_3)⟩ (fun hHeld => ?_)
              clear hK K
              refine norm_ (a' := ?_) ?_ ?_
              rotate_left
              ·show Act.put _ (some 5) _ = _
               simp only [Act.put, List.setIfInBounds_toArray, List.set_cons_zero, List.set_cons_succ, i64_w, i32_w]
               rfl
              refine one_ (i := 11) (N := some 6) #[true, true, true, true, true, true, true, true, true, true, true, true, false, false] rfl rfl (one_of HT_.out (by kernel_rfl)) (by decide) (fun K hK => ?_)
              refine box_step ?hg (N := 6) ?hd (cs := #[.string (⟨#[]⟩ : ByteArray), .slice none 0 0, .int .i64 0, .int .i64 0]) (t := 45) ?hr ?_; (case hd => rfl); (case hg => rfl); (case hr => exact ts19_)
              intro gb230 hg w89 hbox hb
              have n0_ := Aside0.mk (blk_below (g := gb226) (o := .cells #[.int .i64 a1_0, .int .i64 a1_1, .int .i64 a1_2, .int .i64 a1_3] 57 (0, 0)) (ts18_ BK226.out) hb)
              have n1_ := Aside0.mk (blk_below (g := gb229) (o := .cells #[.string (⟨#[]⟩ : ByteArray), .slice none 0 0, .int .i64 0, .int .i64 0] 45 (0, 0)) (ts18_ BK229.out) hb)
              have n2_ := Aside0.mk (below_step (ts31_ HB.out GE226.out GE229.out) hb)
              have n3_ := Aside0.mk (hbox)
              have n4_ := Aside0.mk ((ts79_ HB.out GE226.out GE229.out : w.heap.size ≤ gb230))
              have n5_ := Aside0.mk ((ts79_ HB.out GE226.out GE229.out : w.heap.size ≤ gb230))
              have n6_ := Aside0.mk ((ts78_ BK226.out : gb226 ≠ gb230))
              have n7_ := Aside0.mk ((ts61_ BK226.out : gb230 ≠ gb226))
              have n8_ := Aside0.mk ((ts62_ BK229.out : gb229 ≠ gb230))
              have n9_ := Aside0.mk ((ts82_ BK229.out : gb230 ≠ gb229))
              clear BK226
              clear BK229
              clear HB
              have BK226 := n0_
              have BK229 := n1_
              have HB := n2_
              have BK230 := n3_
              have GW230 := n4_
              have GE230 := n5_
              have NB226_230 := n6_
              have NB230_226 := n7_
              have NB229_230 := n8_
              have NB230_229 := n9_
              clear n0_ n1_ n2_ n3_ n4_ n5_ n6_ n7_ n8_ n9_
              clear hb hbox hg
              refine hK.out _ _ ⟨(blk_cell BK226.out 0).trans rfl, (blk_cell BK226.out 1).trans rfl, (blk_cell BK226.out 2).trans rfl, (blk_cell BK226.out 3).trans rfl, ((HB.out.cell (World.block_lt_of_cell? w _ hw227_0)).trans hw227_0), ((HB.out.cell (World.block_lt_of_cell? w _ hw227_1)).trans hw227_1), ((HB.out.cell (World.block_lt_of_cell? w _ hw227_2)).trans hw227_2), ((HB.out.cell (World.block_lt_of_cell? w _ hw227_3)).trans hw227_3), ((HB.out.cell (World.block_lt_of_cell? w _ hw228_0)).trans hw228_0), ((HB.out.cell (World.block_lt_of_cell? w _ hw228_1)).trans hw228_1), ((HB.out.cell (World.block_lt_of_cell? w _ hw228_2)).trans hw228_2), ((HB.out.cell (World.block_lt_of_cell? w _ hw228_3)).trans hw228_3)⟩ (fun hHeld => ?_)
              clear hK K
              refine norm_ (a' := ?_) ?_ ?_
              rotate_left
              ·show Act.put _ (some 6) _ = _
               simp only [Act.put, List.setIfInBounds_toArray, List.set_cons_zero, List.set_cons_succ, i64_w, i32_w]
               rfl
              exact norm_ ts7_ (hCont (gb229, gb230) _ ⟨hHeld, (ts18_ BK226.out), (ts18_ BK229.out), (ts18_ BK230.out), GW229.out, GE229.out, NB226_229.out, NB229_226.out, NB230_229.out, NB229_230.out, GW230.out, GE230.out, NB226_230.out, NB230_226.out, (ts39_ HB.out GE226.out GE229.out GE230.out)⟩)
             skip
             refine box_step ?hg (N := 6) ?hd (cs := #[.string (⟨#[]⟩ : ByteArray), .slice none 0 0, .int .i64 0, .int .i64 0]) (t := 45) ?hr ?_; (case hd => rfl); (case hg => rfl); (case hr => exact ts19_)
             intro gb230 hg w88 hbox hb
             have n0_ := Aside0.mk (blk_below (g := gb226) (o := .cells #[.int .i64 a1_0, .int .i64 a1_1, .int .i64 a1_2, .int .i64 a1_3] 57 (0, 0)) (ts18_ BK226.out) hb)
             have n1_ := Aside0.mk (below_step (ts22_ HB.out GE226.out) hb)
             have n2_ := Aside0.mk (hbox)
             have n3_ := Aside0.mk ((ts76_ HB.out GE226.out : w.heap.size ≤ gb230))
             have n4_ := Aside0.mk ((ts76_ HB.out GE226.out : w.heap.size ≤ gb230))
             have n5_ := Aside0.mk ((ts78_ BK226.out : gb226 ≠ gb230))
             have n6_ := Aside0.mk ((ts61_ BK226.out : gb230 ≠ gb226))
             clear BK226
             clear HB
             have BK226 := n0_
             have HB := n1_
             have BK230 := n2_
             have GW230 := n3_
             have GE230 := n4_
             have NB226_230 := n5_
             have NB230_226 := n6_
             clear n0_ n1_ n2_ n3_ n4_ n5_ n6_
             clear hb hbox hg
             refine hK.out _ _ ⟨(blk_cell BK226.out 0).trans rfl, (blk_cell BK226.out 1).trans rfl, (blk_cell BK226.out 2).trans rfl, (blk_cell BK226.out 3).trans rfl, ((HB.out.cell (World.block_lt_of_cell? w _ hw227_0)).trans hw227_0), ((HB.out.cell (World.block_lt_of_cell? w _ hw227_1)).trans hw227_1), ((HB.out.cell (World.block_lt_of_cell? w _ hw227_2)).trans hw227_2), ((HB.out.cell (World.block_lt_of_cell? w _ hw227_3)).trans hw227_3), ((HB.out.cell (World.block_lt_of_cell? w _ hw228_0)).trans hw228_0), ((HB.out.cell (World.block_lt_of_cell? w _ hw228_1)).trans hw228_1), ((HB.out.cell (World.block_lt_of_cell? w _ hw228_2)).trans hw228_2), ((HB.out.cell (World.block_lt_of_cell? w _ hw228_3)).trans hw228_3)⟩ (fun hHeld => ?_)
             clear hK K
             refine norm_ (a' := ?_) ?_ ?_
             rotate_left
             ·show Act.put _ (some 6) _ = _
              simp only [Act.put, List.setIfInBounds_toArray, List.set_cons_zero, List.set_cons_succ, i64_w, i32_w]
              rfl
             refine one_ (i := 10) (N := some 5) #[true, true, true, true, true, true, true, true, true, true, true, true, false, false] rfl rfl (one_of HT_.out (by kernel_rfl)) (by decide) (fun K hK => ?_)
             refine box_step ?hg (N := 5) ?hd (cs := #[.string (⟨#[]⟩ : ByteArray), .slice none 0 0, .int .i64 0, .int .i64 0]) (t := 45) ?hr ?_; (case hd => rfl); (case hg => rfl); (case hr => exact ts19_)
             intro gb229 hg w89 hbox hb
             have n0_ := Aside0.mk (blk_below (g := gb226) (o := .cells #[.int .i64 a1_0, .int .i64 a1_1, .int .i64 a1_2, .int .i64 a1_3] 57 (0, 0)) (ts18_ BK226.out) hb)
             have n1_ := Aside0.mk (blk_below (g := gb230) (o := .cells #[.string (⟨#[]⟩ : ByteArray), .slice none 0 0, .int .i64 0, .int .i64 0] 45 (0, 0)) (ts18_ BK230.out) hb)
             have n2_ := Aside0.mk (below_step (ts31_ HB.out GE226.out GE230.out) hb)
             have n3_ := Aside0.mk (hbox)
             have n4_ := Aside0.mk ((ts79_ HB.out GE226.out GE230.out : w.heap.size ≤ gb229))
             have n5_ := Aside0.mk ((ts79_ HB.out GE226.out GE230.out : w.heap.size ≤ gb229))
             have n6_ := Aside0.mk ((ts78_ BK226.out : gb226 ≠ gb229))
             have n7_ := Aside0.mk ((ts61_ BK226.out : gb229 ≠ gb226))
             have n8_ := Aside0.mk ((ts75_ BK230.out : gb230 ≠ gb229))
             have n9_ := Aside0.mk ((ts65_ BK230.out : gb229 ≠ gb230))
             clear BK226
             clear BK230
             clear HB
             have BK226 := n0_
             have BK230 := n1_
             have HB := n2_
             have BK229 := n3_
             have GW229 := n4_
             have GE229 := n5_
             have NB226_229 := n6_
             have NB229_226 := n7_
             have NB230_229 := n8_
             have NB229_230 := n9_
             clear n0_ n1_ n2_ n3_ n4_ n5_ n6_ n7_ n8_ n9_
             clear hb hbox hg
             refine hK.out _ _ ⟨(blk_cell BK226.out 0).trans rfl, (blk_cell BK226.out 1).trans rfl, (blk_cell BK226.out 2).trans rfl, (blk_cell BK226.out 3).trans rfl, ((HB.out.cell (World.block_lt_of_cell? w _ hw227_0)).trans hw227_0), ((HB.out.cell (World.block_lt_of_cell? w _ hw227_1)).trans hw227_1), ((HB.out.cell (World.block_lt_of_cell? w _ hw227_2)).trans hw227_2), ((HB.out.cell (World.block_lt_of_cell? w _ hw227_3)).trans hw227_3), ((HB.out.cell (World.block_lt_of_cell? w _ hw228_0)).trans hw228_0), ((HB.out.cell (World.block_lt_of_cell? w _ hw228_1)).trans hw228_1), ((HB.out.cell (World.block_lt_of_cell? w _ hw228_2)).trans hw228_2), ((HB.out.cell (World.block_lt_of_cell? w _ hw228_3)).trans hw228_3)⟩ (fun hHeld => ?_)
             clear hK K
             refine norm_ (a' := ?_) ?_ ?_
             rotate_left
             ·show Act.put _ (some 5) _ = _
              simp only [Act.put, List.setIfInBounds_toArray, List.set_cons_zero, List.set_cons_succ, i64_w, i32_w]
              rfl
             exact norm_ ts7_ (hCont (gb229, gb230) _ ⟨hHeld, (ts18_ BK226.out), (ts18_ BK229.out), (ts18_ BK230.out), GW229.out, GE229.out, NB226_229.out, NB229_226.out, NB230_229.out, NB229_230.out, GW230.out, GE230.out, NB226_230.out, NB230_226.out, (ts39_ HB.out GE226.out GE230.out GE229.out)⟩)
            rintro ⟨gb229, gb230⟩ w90 ⟨hS_, h0_, h1_, h2_, h3_, h4_, h5_, h6_, h7_, h8_, h9_, h10_, h11_, h12_, h13_⟩
            have n0_ : Aside0 (w90.heap[gb226]? = some (.cells #[.int .i64 a1_0, .int .i64 a1_1, .int .i64 a1_2, .int .i64 a1_3] 57 (0, 0))) := ⟨h0_⟩
            have n1_ : Aside0 (w90.heap[gb229]? = some (.cells #[.string (⟨#[]⟩ : ByteArray), .slice none 0 0, .int .i64 0, .int .i64 0] 45 (0, 0))) := ⟨h1_⟩
            have n2_ : Aside0 (w90.heap[gb230]? = some (.cells #[.string (⟨#[]⟩ : ByteArray), .slice none 0 0, .int .i64 0, .int .i64 0] 45 (0, 0))) := ⟨h2_⟩
            have n3_ : Aside0 (w.heap.size ≤ gb229) := ⟨h3_⟩
            have n4_ : Aside0 (w.heap.size ≤ gb229) := ⟨h4_⟩
            have n5_ : Aside0 (gb226 ≠ gb229) := ⟨h5_⟩
            have n6_ : Aside0 (gb229 ≠ gb226) := ⟨h6_⟩
            have n7_ : Aside0 (gb230 ≠ gb229) := ⟨h7_⟩
            have n8_ : Aside0 (gb229 ≠ gb230) := ⟨h8_⟩
            have n9_ : Aside0 (w.heap.size ≤ gb230) := ⟨h9_⟩
            have n10_ : Aside0 (w.heap.size ≤ gb230) := ⟨h10_⟩
            have n11_ : Aside0 (gb226 ≠ gb230) := ⟨h11_⟩
            have n12_ : Aside0 (gb230 ≠ gb226) := ⟨h12_⟩
            have n13_ : Aside0 (Below w.heap.size w w90) := ⟨h13_⟩
            clear BK226
            clear HB
            clear h0_ h1_ h2_ h3_ h4_ h5_ h6_ h7_ h8_ h9_ h10_ h11_ h12_ h13_
            have BK226 := n0_
            have BK229 := n1_
            have BK230 := n2_
            have GW229 := n3_
            have GE229 := n4_
            have NB226_229 := n5_
            have NB229_226 := n6_
            have NB230_229 := n7_
            have NB229_230 := n8_
            have GW230 := n9_
            have GE230 := n10_
            have NB226_230 := n11_
            have NB230_226 := n12_
            have HB := n13_
            clear n0_ n1_ n2_ n3_ n4_ n5_ n6_ n7_ n8_ n9_ n10_ n11_ n12_ n13_
            have hHeld : w90.cell? ⟨gb226, 0, none⟩ = some (.int .i64 a1_0) ∧ w90.cell? ⟨gb226, 1, none⟩ = some (.int .i64 a1_1) ∧ w90.cell? ⟨gb226, 2, none⟩ = some (.int .i64 a1_2) ∧ w90.cell? ⟨gb226, 3, none⟩ = some (.int .i64 a1_3) ∧ w90.cell? (ad227.add ((a1_0).toNat * 4)) = some (.string ((rd_T45 l0 a1_0).f0)) ∧ w90.cell? ⟨(ad227.add ((a1_0).toNat * 4)).block, (ad227.add ((a1_0).toNat * 4)).off + 1, none⟩ = some (.slice A227_1 ((rd_T45 l0 a1_0).f1.f0).length c227_1) ∧ w90.cell? ⟨(ad227.add ((a1_0).toNat * 4)).block, (ad227.add ((a1_0).toNat * 4)).off + 2, none⟩ = some (.int .i64 ((rd_T45 l0 a1_0).f1.f1)) ∧ w90.cell? ⟨(ad227.add ((a1_0).toNat * 4)).block, (ad227.add ((a1_0).toNat * 4)).off + 3, none⟩ = some (.int .i64 ((rd_T45 l0 a1_0).f1.f2)) ∧ w90.cell? (ad227.add ((a1_1).toNat * 4)) = some (.string ((rd_T45 l0 a1_1).f0)) ∧ w90.cell? ⟨(ad227.add ((a1_1).toNat * 4)).block, (ad227.add ((a1_1).toNat * 4)).off + 1, none⟩ = some (.slice A228_1 ((rd_T45 l0 a1_1).f1.f0).length c228_1) ∧ w90.cell? ⟨(ad227.add ((a1_1).toNat * 4)).block, (ad227.add ((a1_1).toNat * 4)).off + 2, none⟩ = some (.int .i64 ((rd_T45 l0 a1_1).f1.f1)) ∧ w90.cell? ⟨(ad227.add ((a1_1).toNat * 4)).block, (ad227.add ((a1_1).toNat * 4)).off + 3, none⟩ = some (.int .i64 ((rd_T45 l0 a1_1).f1.f2)) := hS_
            refine norm_ (a' := ?_) ?_ ?_
            rotate_left
            ·simp only [putAll, Act.put, List.setIfInBounds_toArray, List.set_cons_zero, List.set_cons_succ]
             rfl
            refine one_ (i := 12) (N := none) #[true, true, true, true, true, true, true, true, true, true, true, true, true, false] rfl rfl (one_of HT_.out (by kernel_rfl)) (by decide) (fun K hK => ?_)
            have hs91 : w90.cell? ⟨gb229, 0, none⟩ = some (.string (⟨#[]⟩ : ByteArray)) := (blk_cell BK229.out 0).trans rfl
            have hfs91 := blk_frozen BK229.out 0
            have hns91_0 := NB226_229.out
            have hns91_2 := NB230_229.out
            have hms91_0 := NB229_226.out
            have hms91_2 := NB229_230.out
            have hs92 : w90.cell? ⟨gb229, 1, none⟩ = some (.slice none 0 0) := (blk_cell BK229.out 1).trans rfl
            have hfs92 := blk_frozen BK229.out 1
            have hns92_0 := NB226_229.out
            have hns92_2 := NB230_229.out
            have hms92_0 := NB229_226.out
            have hms92_2 := NB229_230.out
            have hs93 : w90.cell? ⟨gb229, 2, none⟩ = some (.int .i64 0) := (blk_cell BK229.out 2).trans rfl
            have hfs93 := blk_frozen BK229.out 2
            have hns93_0 := NB226_229.out
            have hns93_2 := NB230_229.out
            have hms93_0 := NB229_226.out
            have hms93_2 := NB229_230.out
            have hs94 : w90.cell? ⟨gb229, 3, none⟩ = some (.int .i64 0) := (blk_cell BK229.out 3).trans rfl
            have hfs94 := blk_frozen BK229.out 3
            have hns94_0 := NB226_229.out
            have hns94_2 := NB230_229.out
            have hms94_0 := NB229_226.out
            have hms94_2 := NB229_230.out
            refine skip_ (w1 := ?_) (by rfl) rfl ?_ ?_
            rotate_left
            ·go_simp
             rfl
            refine hK.out _ _ ⟨((cell_far (p := ⟨gb229, _, none⟩) NB226_229.out _).trans (((cell_far (p := ⟨gb229, _, none⟩) NB226_229.out _).trans (((cell_far (p := ⟨gb229, _, none⟩) NB226_229.out _).trans (((cell_far (p := ⟨gb229, _, none⟩) NB226_229.out _).trans (hHeld.1)))))))), ((cell_far (p := ⟨gb229, _, none⟩) NB226_229.out _).trans (((cell_far (p := ⟨gb229, _, none⟩) NB226_229.out _).trans (((cell_far (p := ⟨gb229, _, none⟩) NB226_229.out _).trans (((cell_far (p := ⟨gb229, _, none⟩) NB226_229.out _).trans (hHeld.2.1)))))))), ((cell_far (p := ⟨gb229, _, none⟩) NB226_229.out _).trans (((cell_far (p := ⟨gb229, _, none⟩) NB226_229.out _).trans (((cell_far (p := ⟨gb229, _, none⟩) NB226_229.out _).trans (((cell_far (p := ⟨gb229, _, none⟩) NB226_229.out _).trans (hHeld.2.2.1)))))))), ((cell_far (p := ⟨gb229, _, none⟩) NB226_229.out _).trans (((cell_far (p := ⟨gb229, _, none⟩) NB226_229.out _).trans (((cell_far (p := ⟨gb229, _, none⟩) NB226_229.out _).trans (((cell_far (p := ⟨gb229, _, none⟩) NB226_229.out _).trans (hHeld.2.2.2.1)))))))), ((cell_far (p := ⟨gb229, _, none⟩) (ts80_ GW229.out) _).trans (((cell_far (p := ⟨gb229, _, none⟩) (ts80_ GW229.out) _).trans (((cell_far (p := ⟨gb229, _, none⟩) (ts80_ GW229.out) _).trans (((cell_far (p := ⟨gb229, _, none⟩) (ts80_ GW229.out) _).trans (hHeld.2.2.2.2.1)))))))), ((cell_far (p := ⟨gb229, _, none⟩) (ts51_ GW229.out) _).trans (((cell_far (p := ⟨gb229, _, none⟩) (ts51_ GW229.out) _).trans (((cell_far (p := ⟨gb229, _, none⟩) (ts51_ GW229.out) _).trans (((cell_far (p := ⟨gb229, _, none⟩) (ts51_ GW229.out) _).trans (hHeld.2.2.2.2.2.1)))))))), ((cell_far (p := ⟨gb229, _, none⟩) (ts56_ GW229.out) _).trans (((cell_far (p := ⟨gb229, _, none⟩) (ts56_ GW229.out) _).trans (((cell_far (p := ⟨gb229, _, none⟩) (ts56_ GW229.out) _).trans (((cell_far (p := ⟨gb229, _, none⟩) (ts56_ GW229.out) _).trans (hHeld.2.2.2.2.2.2.1)))))))), ((cell_far (p := ⟨gb229, _, none⟩) (ts67_ GW229.out) _).trans (((cell_far (p := ⟨gb229, _, none⟩) (ts67_ GW229.out) _).trans (((cell_far (p := ⟨gb229, _, none⟩) (ts67_ GW229.out) _).trans (((cell_far (p := ⟨gb229, _, none⟩) (ts67_ GW229.out) _).trans (hHeld.2.2.2.2.2.2.2.1)))))))), ((cell_far (p := ⟨gb229, _, none⟩) (ts63_ GW229.out) _).trans (((cell_far (p := ⟨gb229, _, none⟩) (ts63_ GW229.out) _).trans (((cell_far (p := ⟨gb229, _, none⟩) (ts63_ GW229.out) _).trans (((cell_far (p := ⟨gb229, _, none⟩) (ts63_ GW229.out) _).trans (hHeld.2.2.2.2.2.2.2.2.1)))))))), ((cell_far (p := ⟨gb229, _, none⟩) (ts70_ GW229.out) _).trans (((cell_far (p := ⟨gb229, _, none⟩) (ts70_ GW229.out) _).trans (((cell_far (p := ⟨gb229, _, none⟩) (ts70_ GW229.out) _).trans (((cell_far (p := ⟨gb229, _, none⟩) (ts70_ GW229.out) _).trans (hHeld.2.2.2.2.2.2.2.2.2.1)))))))), ((cell_far (p := ⟨gb229, _, none⟩) (ts74_ GW229.out) _).trans (((cell_far (p := ⟨gb229, _, none⟩) (ts74_ GW229.out) _).trans (((cell_far (p := ⟨gb229, _, none⟩) (ts74_ GW229.out) _).trans (((cell_far (p := ⟨gb229, _, none⟩) (ts74_ GW229.out) _).trans (hHeld.2.2.2.2.2.2.2.2.2.2.1)))))))), ((cell_far (p := ⟨gb229, _, none⟩) (ts46_ GW229.out) _).trans (((cell_far (p := ⟨gb229, _, none⟩) (ts46_ GW229.out) _).trans (((cell_far (p := ⟨gb229, _, none⟩) (ts46_ GW229.out) _).trans (((cell_far (p := ⟨gb229, _, none⟩) (ts46_ GW229.out) _).trans (hHeld.2.2.2.2.2.2.2.2.2.2.2))))))))⟩ (fun hHeld => ?_)
            clear hK K
            refine one_ (i := 13) (N := none) #[true, true, true, true, true, true, true, true, true, true, true, true, true, true] rfl rfl (one_of HT_.out (by kernel_rfl)) (by decide) (fun K hK => ?_)
            have hs95 : w90.cell? ⟨gb230, 0, none⟩ = some (.string (⟨#[]⟩ : ByteArray)) := (blk_cell BK230.out 0).trans rfl
            have hfs95 := blk_frozen BK230.out 0
            have hns95_0 := NB226_230.out
            have hns95_1 := NB229_230.out
            have hms95_0 := NB230_226.out
            have hms95_1 := NB230_229.out
            have hs96 : w90.cell? ⟨gb230, 1, none⟩ = some (.slice none 0 0) := (blk_cell BK230.out 1).trans rfl
            have hfs96 := blk_frozen BK230.out 1
            have hns96_0 := NB226_230.out
            have hns96_1 := NB229_230.out
            have hms96_0 := NB230_226.out
            have hms96_1 := NB230_229.out
            have hs97 : w90.cell? ⟨gb230, 2, none⟩ = some (.int .i64 0) := (blk_cell BK230.out 2).trans rfl
            have hfs97 := blk_frozen BK230.out 2
            have hns97_0 := NB226_230.out
            have hns97_1 := NB229_230.out
            have hms97_0 := NB230_226.out
            have hms97_1 := NB230_229.out
            have hs98 : w90.cell? ⟨gb230, 3, none⟩ = some (.int .i64 0) := (blk_cell BK230.out 3).trans rfl
            have hfs98 := blk_frozen BK230.out 3
            have hns98_0 := NB226_230.out
            have hns98_1 := NB229_230.out
            have hms98_0 := NB230_226.out
            have hms98_1 := NB230_229.out
            refine skip_ (w1 := ?_) (by rfl) rfl ?_ ?_
            rotate_left
            ·go_simp
             rfl
            refine hK.out _ _ ⟨((cell_far (p := ⟨gb230, _, none⟩) NB226_230.out _).trans (((cell_far (p := ⟨gb230, _, none⟩) NB226_230.out _).trans (((cell_far (p := ⟨gb230, _, none⟩) NB226_230.out _).trans (((cell_far (p := ⟨gb230, _, none⟩) NB226_230.out _).trans (hHeld.1)))))))), ((cell_far (p := ⟨gb230, _, none⟩) NB226_230.out _).trans (((cell_far (p := ⟨gb230, _, none⟩) NB226_230.out _).trans (((cell_far (p := ⟨gb230, _, none⟩) NB226_230.out _).trans (((cell_far (p := ⟨gb230, _, none⟩) NB226_230.out _).trans (hHeld.2.1)))))))), ((cell_far (p := ⟨gb230, _, none⟩) NB226_230.out _).trans (((cell_far (p := ⟨gb230, _, none⟩) NB226_230.out _).trans (((cell_far (p := ⟨gb230, _, none⟩) NB226_230.out _).trans (((cell_far (p := ⟨gb230, _, none⟩) NB226_230.out _).trans (hHeld.2.2.1)))))))), ((cell_far (p := ⟨gb230, _, none⟩) NB226_230.out _).trans (((cell_far (p := ⟨gb230, _, none⟩) NB226_230.out _).trans (((cell_far (p := ⟨gb230, _, none⟩) NB226_230.out _).trans (((cell_far (p := ⟨gb230, _, none⟩) NB226_230.out _).trans (hHeld.2.2.2.1)))))))), ((cell_far (p := ⟨gb230, _, none⟩) (ts80_ GW230.out) _).trans (((cell_far (p := ⟨gb230, _, none⟩) (ts80_ GW230.out) _).trans (((cell_far (p := ⟨gb230, _, none⟩) (ts80_ GW230.out) _).trans (((cell_far (p := ⟨gb230, _, none⟩) (ts80_ GW230.out) _).trans (hHeld.2.2.2.2.1)))))))), ((cell_far (p := ⟨gb230, _, none⟩) (ts51_ GW230.out) _).trans (((cell_far (p := ⟨gb230, _, none⟩) (ts51_ GW230.out) _).trans (((cell_far (p := ⟨gb230, _, none⟩) (ts51_ GW230.out) _).trans (((cell_far (p := ⟨gb230, _, none⟩) (ts51_ GW230.out) _).trans (hHeld.2.2.2.2.2.1)))))))), ((cell_far (p := ⟨gb230, _, none⟩) (ts56_ GW230.out) _).trans (((cell_far (p := ⟨gb230, _, none⟩) (ts56_ GW230.out) _).trans (((cell_far (p := ⟨gb230, _, none⟩) (ts56_ GW230.out) _).trans (((cell_far (p := ⟨gb230, _, none⟩) (ts56_ GW230.out) _).trans (hHeld.2.2.2.2.2.2.1)))))))), ((cell_far (p := ⟨gb230, _, none⟩) (ts67_ GW230.out) _).trans (((cell_far (p := ⟨gb230, _, none⟩) (ts67_ GW230.out) _).trans (((cell_far (p := ⟨gb230, _, none⟩) (ts67_ GW230.out) _).trans (((cell_far (p := ⟨gb230, _, none⟩) (ts67_ GW230.out) _).trans (hHeld.2.2.2.2.2.2.2.1)))))))), ((cell_far (p := ⟨gb230, _, none⟩) (ts63_ GW230.out) _).trans (((cell_far (p := ⟨gb230, _, none⟩) (ts63_ GW230.out) _).trans (((cell_far (p := ⟨gb230, _, none⟩) (ts63_ GW230.out) _).trans (((cell_far (p := ⟨gb230, _, none⟩) (ts63_ GW230.out) _).trans (hHeld.2.2.2.2.2.2.2.2.1)))))))), ((cell_far (p := ⟨gb230, _, none⟩) (ts70_ GW230.out) _).trans (((cell_far (p := ⟨gb230, _, none⟩) (ts70_ GW230.out) _).trans (((cell_far (p := ⟨gb230, _, none⟩) (ts70_ GW230.out) _).trans (((cell_far (p := ⟨gb230, _, none⟩) (ts70_ GW230.out) _).trans (hHeld.2.2.2.2.2.2.2.2.2.1)))))))), ((cell_far (p := ⟨gb230, _, none⟩) (ts74_ GW230.out) _).trans (((cell_far (p := ⟨gb230, _, none⟩) (ts74_ GW230.out) _).trans (((cell_far (p := ⟨gb230, _, none⟩) (ts74_ GW230.out) _).trans (((cell_far (p := ⟨gb230, _, none⟩) (ts74_ GW230.out) _).trans (hHeld.2.2.2.2.2.2.2.2.2.2.1)))))))), ((cell_far (p := ⟨gb230, _, none⟩) (ts46_ GW230.out) _).trans (((cell_far (p := ⟨gb230, _, none⟩) (ts46_ GW230.out) _).trans (((cell_far (p := ⟨gb230, _, none⟩) (ts46_ GW230.out) _).trans (((cell_far (p := ⟨gb230, _, none⟩) (ts46_ GW230.out) _).trans (hHeld.2.2.2.2.2.2.2.2.2.2.2))))))))⟩ (fun hHeld => ?_)
            clear hK K
            refine done_ (done_of HT_.out (by kernel_rfl)) ?_
            try go_wp2
            have n0_ : Aside0 (((((((((w90.setCell ⟨gb229, 0, none⟩ (.string ((rd_T45 l0 a1_0).f0))).setCell ⟨gb229, 1, none⟩ (.slice A227_1 ((rd_T45 l0 a1_0).f1.f0).length c227_1)).setCell ⟨gb229, 2, none⟩ (.int .i64 ((rd_T45 l0 a1_0).f1.f1))).setCell ⟨gb229, 3, none⟩ (.int .i64 ((rd_T45 l0 a1_0).f1.f2))).setCell ⟨gb230, 0, none⟩ (.string ((rd_T45 l0 a1_1).f0))).setCell ⟨gb230, 1, none⟩ (.slice A228_1 ((rd_T45 l0 a1_1).f1.f0).length c228_1)).setCell ⟨gb230, 2, none⟩ (.int .i64 ((rd_T45 l0 a1_1).f1.f1))).setCell ⟨gb230, 3, none⟩ (.int .i64 ((rd_T45 l0 a1_1).f1.f2))).heap[gb226]? = some (.cells #[.int .i64 a1_0, .int .i64 a1_1, .int .i64 a1_2, .int .i64 a1_3] 57 (0, 0))) := ⟨ts11_ NB226_230.out NB226_229.out BK226.out⟩
            have n1_ : Aside0 (((((((((w90.setCell ⟨gb229, 0, none⟩ (.string ((rd_T45 l0 a1_0).f0))).setCell ⟨gb229, 1, none⟩ (.slice A227_1 ((rd_T45 l0 a1_0).f1.f0).length c227_1)).setCell ⟨gb229, 2, none⟩ (.int .i64 ((rd_T45 l0 a1_0).f1.f1))).setCell ⟨gb229, 3, none⟩ (.int .i64 ((rd_T45 l0 a1_0).f1.f2))).setCell ⟨gb230, 0, none⟩ (.string ((rd_T45 l0 a1_1).f0))).setCell ⟨gb230, 1, none⟩ (.slice A228_1 ((rd_T45 l0 a1_1).f1.f0).length c228_1)).setCell ⟨gb230, 2, none⟩ (.int .i64 ((rd_T45 l0 a1_1).f1.f1))).setCell ⟨gb230, 3, none⟩ (.int .i64 ((rd_T45 l0 a1_1).f1.f2))).heap[gb229]? = some (.cells #[.string ((rd_T45 l0 a1_0).f0), .slice A227_1 ((rd_T45 l0 a1_0).f1.f0).length c227_1, .int .i64 ((rd_T45 l0 a1_0).f1.f1), .int .i64 ((rd_T45 l0 a1_0).f1.f2)] 45 (0, 0))) := ⟨ts26_ NB229_230.out BK229.out⟩
            have n2_ : Aside0 (((((((((w90.setCell ⟨gb229, 0, none⟩ (.string ((rd_T45 l0 a1_0).f0))).setCell ⟨gb229, 1, none⟩ (.slice A227_1 ((rd_T45 l0 a1_0).f1.f0).length c227_1)).setCell ⟨gb229, 2, none⟩ (.int .i64 ((rd_T45 l0 a1_0).f1.f1))).setCell ⟨gb229, 3, none⟩ (.int .i64 ((rd_T45 l0 a1_0).f1.f2))).setCell ⟨gb230, 0, none⟩ (.string ((rd_T45 l0 a1_1).f0))).setCell ⟨gb230, 1, none⟩ (.slice A228_1 ((rd_T45 l0 a1_1).f1.f0).length c228_1)).setCell ⟨gb230, 2, none⟩ (.int .i64 ((rd_T45 l0 a1_1).f1.f1))).setCell ⟨gb230, 3, none⟩ (.int .i64 ((rd_T45 l0 a1_1).f1.f2))).heap[gb230]? = some (.cells #[.string ((rd_T45 l0 a1_1).f0), .slice A228_1 ((rd_T45 l0 a1_1).f1.f0).length c228_1, .int .i64 ((rd_T45 l0 a1_1).f1.f1), .int .i64 ((rd_T45 l0 a1_1).f1.f2)] 45 (0, 0))) := ⟨ts5_ NB230_229.out BK230.out⟩
            have n3_ : Aside0 (Below w.heap.size w ((((((((w90.setCell ⟨gb229, 0, none⟩ (.string ((rd_T45 l0 a1_0).f0))).setCell ⟨gb229, 1, none⟩ (.slice A227_1 ((rd_T45 l0 a1_0).f1.f0).length c227_1)).setCell ⟨gb229, 2, none⟩ (.int .i64 ((rd_T45 l0 a1_0).f1.f1))).setCell ⟨gb229, 3, none⟩ (.int .i64 ((rd_T45 l0 a1_0).f1.f2))).setCell ⟨gb230, 0, none⟩ (.string ((rd_T45 l0 a1_1).f0))).setCell ⟨gb230, 1, none⟩ (.slice A228_1 ((rd_T45 l0 a1_1).f1.f0).length c228_1)).setCell ⟨gb230, 2, none⟩ (.int .i64 ((rd_T45 l0 a1_1).f1.f1))).setCell ⟨gb230, 3, none⟩ (.int .i64 ((rd_T45 l0 a1_1).f1.f2)))) := ⟨ts39_ HB.out GE226.out GE229.out GE230.out⟩
            (try clear BK226)
            (try clear BK229)
            (try clear BK230)
            (try clear HB)
            generalize ((((((((w90.setCell ⟨gb229, 0, none⟩ (.string ((rd_T45 l0 a1_0).f0))).setCell ⟨gb229, 1, none⟩ (.slice A227_1 ((rd_T45 l0 a1_0).f1.f0).length c227_1)).setCell ⟨gb229, 2, none⟩ (.int .i64 ((rd_T45 l0 a1_0).f1.f1))).setCell ⟨gb229, 3, none⟩ (.int .i64 ((rd_T45 l0 a1_0).f1.f2))).setCell ⟨gb230, 0, none⟩ (.string ((rd_T45 l0 a1_1).f0))).setCell ⟨gb230, 1, none⟩ (.slice A228_1 ((rd_T45 l0 a1_1).f1.f0).length c228_1)).setCell ⟨gb230, 2, none⟩ (.int .i64 ((rd_T45 l0 a1_1).f1.f1))).setCell ⟨gb230, 3, none⟩ (.int .i64 ((rd_T45 l0 a1_1).f1.f2))) = w99 at n0_ n1_ n2_ n3_ ⊢
            have BK226 := n0_
            have BK229 := n1_
            have BK230 := n2_
            have HB := n3_
            clear n0_ n1_ n2_ n3_
            have n0_ := Aside0.mk (blk_drew BK226.out)
            have n1_ := Aside0.mk (blk_drew BK229.out)
            have n2_ := Aside0.mk (blk_drew BK230.out)
            have n3_ := Aside0.mk (below_drew1 HB.out)
            clear BK226
            clear BK229
            clear BK230
            clear HB
            have BK226 := n0_
            have BK229 := n1_
            have BK230 := n2_
            have HB := n3_
            clear n0_ n1_ n2_ n3_
            refine start_ (n := 10) (S := fun w' => w'.cell? ⟨gb229, 0, none⟩ = some (.string ((rd_T45 l0 a1_0).f0)) ∧ w'.cell? ⟨gb229, 1, none⟩ = some (.slice A227_1 ((rd_T45 l0 a1_0).f1.f0).length c227_1) ∧ w'.cell? ⟨gb229, 2, none⟩ = some (.int .i64 ((rd_T45 l0 a1_0).f1.f1)) ∧ w'.cell? ⟨gb229, 3, none⟩ = some (.int .i64 ((rd_T45 l0 a1_0).f1.f2)) ∧ w'.cell? ⟨gb230, 0, none⟩ = some (.string ((rd_T45 l0 a1_1).f0)) ∧ w'.cell? ⟨gb230, 1, none⟩ = some (.slice A228_1 ((rd_T45 l0 a1_1).f1.f0).length c228_1) ∧ w'.cell? ⟨gb230, 2, none⟩ = some (.int .i64 ((rd_T45 l0 a1_1).f1.f1)) ∧ w'.cell? ⟨gb230, 3, none⟩ = some (.int .i64 ((rd_T45 l0 a1_1).f1.f2))) (ds := []) #[false, false, false, false, false, false, false, false, false, false] (by kernel_rfl) rfl rfl ⟨(blk_cell BK229.out 0).trans rfl, (blk_cell BK229.out 1).trans rfl, (blk_cell BK229.out 2).trans rfl, (blk_cell BK229.out 3).trans rfl, (blk_cell BK230.out 0).trans rfl, (blk_cell BK230.out 1).trans rfl, (blk_cell BK230.out 2).trans rfl, (blk_cell BK230.out 3).trans rfl⟩ (fun hHeld => ?_); refine with_tabW cupelref35_part.tab2 cupelref35_part.bits2 (fun HT_ HW_ => ?_)
            generalize w99.drew = w100 at BK226 BK229 BK230 HB hHeld ⊢
            refine pure_ (i := 0) (N := some 18) (v := ?_) (a' := ?_) #[true, false, false, false, false, false, false, false, false, false] rfl rfl (any_of HT_.out (by kernel_rfl)) (fun _ _ _ h => h) (Or.inl ⟨by rfl, ?_⟩) ?_ ?_
            rotate_left
            ·intro w'
             go_simp
             with_reducible rfl
            rotate_left
            ·simp only [Act.put, List.setIfInBounds_toArray, List.set_cons_zero, List.set_cons_succ, i64_w, i32_w]
             rfl
            refine pure_ (i := 4) (N := some 22) (v := ?_) (a' := ?_) #[true, false, false, false, true, false, false, false, false, false] rfl rfl (any_of HT_.out (by kernel_rfl)) (fun _ _ _ h => h) (Or.inl ⟨by rfl, ?_⟩) ?_ ?_
            rotate_left
            ·intro w'
             go_simp
             with_reducible rfl
            rotate_left
            ·simp only [Act.put, List.setIfInBounds_toArray, List.set_cons_zero, List.set_cons_succ, i64_w, i32_w]
             rfl
            refine take_ (i := 1) (N := some 19) (v := ?_) (a' := ?_) #[true, true, false, false, true, false, false, false, false, false] rfl rfl (take_ofW HT_.out HW_.out (by kernel_rfl)) (fun _ _ _ h => h) (Or.inl ⟨by rfl, ?_⟩) hHeld ?_ ?_
            rotate_left
            ·rintro w' ⟨s0, s1, s2, s3, s4, s5, s6, s7⟩
             go_simp
             with_reducible rfl
            rotate_left
            ·simp only [Act.put, List.setIfInBounds_toArray, List.set_cons_zero, List.set_cons_succ, i64_w, i32_w]
             rfl
            refine take_ (i := 5) (N := some 23) (v := ?_) (a' := ?_) #[true, true, false, false, true, true, false, false, false, false] rfl rfl (take_ofW HT_.out HW_.out (by kernel_rfl)) (fun _ _ _ h => h) (Or.inl ⟨by rfl, ?_⟩) hHeld ?_ ?_
            rotate_left
            ·rintro w' ⟨s0, s1, s2, s3, s4, s5, s6, s7⟩
             go_simp
             with_reducible rfl
            rotate_left
            ·simp only [Act.put, List.setIfInBounds_toArray, List.set_cons_zero, List.set_cons_succ, i64_w, i32_w]
             rfl
            refine one_ (i := 2) (N := some 20) #[true, true, true, false, true, true, false, false, false, false] rfl rfl (one_of HT_.out (by kernel_rfl)) (by decide) (fun K hK => ?_)
            refine goes_ Tryd.func17 (by kernel_rfl) rfl #[.string ((rd_T45 l0 a1_0).f0)] (by rfl) rfl rfl ts10_ ?_
            with_reducible refine (cupelref35_Bare.calls k ((rd_T45 l0 a1_0).f0) t231 _ A7.out).mono ?_
            rintro e w' ⟨rfl, ⟨nd, rfl⟩⟩
            refine ⟨_, rfl, ?_⟩
            refine hK.out _ _ ⟨(blk_cell BK229.out 0).trans rfl, (blk_cell BK229.out 1).trans rfl, (blk_cell BK229.out 2).trans rfl, (blk_cell BK229.out 3).trans rfl, (blk_cell BK230.out 0).trans rfl, (blk_cell BK230.out 1).trans rfl, (blk_cell BK230.out 2).trans rfl, (blk_cell BK230.out 3).trans rfl⟩ (fun hHeld => ?_)
            clear hK K
            refine norm_ (a' := ?_) ?_ ?_
            rotate_left
            ·show Act.put _ (some 20) _ = _
             simp only [Act.put, List.setIfInBounds_toArray, List.set_cons_zero, List.set_cons_succ, i64_w, i32_w]
             rfl
            refine pure_ (i := 3) (N := some 21) (v := ?_) (a' := ?_) #[true, true, true, true, true, true, false, false, false, false] rfl rfl (any_of HT_.out (by kernel_rfl)) (fun _ _ _ h => h) (Or.inl ⟨by rfl, ?_⟩) ?_ ?_
            rotate_left
            ·intro w'
             go_simp
             with_reducible rfl
            rotate_left
            ·simp only [Act.put, List.setIfInBounds_toArray, List.set_cons_zero, List.set_cons_succ, i64_w, i32_w]
             rfl
            refine one_ (i := 6) (N := some 24) #[true, true, true, true, true, true, true, false, false, false] rfl rfl (one_of HT_.out (by kernel_rfl)) (by decide) (fun K hK => ?_)
            refine goes_ Tryd.func17 (by kernel_rfl) rfl #[.string ((rd_T45 l0 a1_1).f0)] (by rfl) rfl rfl ts10_ ?_
            with_reducible refine (cupelref35_Bare.calls k ((rd_T45 l0 a1_1).f0) t232 _ A9.out).mono ?_
            rintro e w' ⟨rfl, ⟨nd, rfl⟩⟩
            refine ⟨_, rfl, ?_⟩
            refine hK.out _ _ ⟨(blk_cell BK229.out 0).trans rfl, (blk_cell BK229.out 1).trans rfl, (blk_cell BK229.out 2).trans rfl, (blk_cell BK229.out 3).trans rfl, (blk_cell BK230.out 0).trans rfl, (blk_cell BK230.out 1).trans rfl, (blk_cell BK230.out 2).trans rfl, (blk_cell BK230.out 3).trans rfl⟩ (fun hHeld => ?_)
            clear hK K
            refine norm_ (a' := ?_) ?_ ?_
            rotate_left
            ·show Act.put _ (some 24) _ = _
             simp only [Act.put, List.setIfInBounds_toArray, List.set_cons_zero, List.set_cons_succ, i64_w, i32_w]
             rfl
            refine pure_ (i := 7) (N := some 25) (v := ?_) (a' := ?_) #[true, true, true, true, true, true, true, true, false, false] rfl rfl (any_of HT_.out (by kernel_rfl)) (fun _ _ _ h => h) (Or.inl ⟨by rfl, ?_⟩) ?_ ?_
            rotate_left
            ·intro w'
             go_simp
             with_reducible rfl
            rotate_left
            ·simp only [Act.put, List.setIfInBounds_toArray, List.set_cons_zero, List.set_cons_succ, i64_w, i32_w]
             rfl
            refine pure_ (i := 8) (N := some 26) (v := ?_) (a' := ?_) #[true, true, true, true, true, true, true, true, true, false] rfl rfl (any_of HT_.out (by kernel_rfl)) (fun _ _ _ h => h) (Or.inl ⟨by rfl, ?_⟩) ?_ ?_
            rotate_left
            ·intro w'
             go_simp
             with_reducible rfl
            rotate_left
            ·simp only [Act.put, List.setIfInBounds_toArray, List.set_cons_zero, List.set_cons_succ, i64_w, i32_w]
             rfl
            refine pure_ (i := 9) (N := some 7) (v := ?_) (a' := ?_) #[true, true, true, true, true, true, true, true, true, true] rfl rfl (any_of HT_.out (by kernel_rfl)) (fun _ _ _ h => h) (Or.inl ⟨by rfl, ?_⟩) ?_ ?_
            rotate_left
            ·intro w'
             go_simp
             with_reducible rfl
            rotate_left
            ·simp only [Act.put, List.setIfInBounds_toArray, List.set_cons_zero, List.set_cons_succ, i64_w, i32_w]
             rfl
            refine done_ (done_of HT_.out (by kernel_rfl)) ?_
            have hnb101 := NB226_229.out
            have hnc101 := NB229_226.out
            have hnb102 := NB226_230.out
            have hnc102 := NB230_226.out
            have hcz103_0 : w100.cell? ⟨gb226, 0, none⟩ = some (.int .i64 a1_0) := (blk_cell BK226.out 0).trans rfl
            have hcz103_1 : w100.cell? ⟨gb226, 1, none⟩ = some (.int .i64 a1_1) := (blk_cell BK226.out 1).trans rfl
            have hcz103_2 : w100.cell? ⟨gb226, 2, none⟩ = some (.int .i64 a1_2) := (blk_cell BK226.out 2).trans rfl
            have hcz103_3 : w100.cell? ⟨gb226, 3, none⟩ = some (.int .i64 a1_3) := (blk_cell BK226.out 3).trans rfl
            have hfz103_0 := blk_frozen BK226.out 0
            have hfz103_1 := blk_frozen BK226.out 1
            have hfz103_2 := blk_frozen BK226.out 2
            have hfz103_3 := blk_frozen BK226.out 3
            try go_wp2
            (try (rw [drewN_self w100]; generalize hq_ : World.drewN w100 _ = w100; have n0_ : Aside0 (w100.heap[gb226]? = some (.cells #[.int .i64 a1_0, .int .i64 a1_1, .int .i64 a1_2, .int .i64 a1_3] 57 (0, 0))) := ⟨by rw [← hq_]; exact (ts18_ BK226.out)⟩; have n1_ : Aside0 (w100.heap[gb229]? = some (.cells #[.string ((rd_T45 l0 a1_0).f0), .slice A227_1 ((rd_T45 l0 a1_0).f1.f0).length c227_1, .int .i64 ((rd_T45 l0 a1_0).f1.f1), .int .i64 ((rd_T45 l0 a1_0).f1.f2)] 45 (0, 0))) := ⟨by rw [← hq_]; exact (ts18_ BK229.out)⟩; have n2_ : Aside0 (w100.heap[gb230]? = some (.cells #[.string ((rd_T45 l0 a1_1).f0), .slice A228_1 ((rd_T45 l0 a1_1).f1.f0).length c228_1, .int .i64 ((rd_T45 l0 a1_1).f1.f1), .int .i64 ((rd_T45 l0 a1_1).f1.f2)] 45 (0, 0))) := ⟨by rw [← hq_]; exact (ts18_ BK230.out)⟩; have n3_ : Aside0 (Below w.heap.size w w100) := ⟨by rw [← hq_]; exact (ts39_ HB.out GE226.out GE229.out GE230.out)⟩; clear BK226 BK229 BK230 HB hq_; have BK226 := n0_; have BK229 := n1_; have BK230 := n2_; have HB := n3_; clear n0_ n1_ n2_ n3_))
            have n0_ := Aside0.mk (blk_drew BK226.out)
            have n1_ := Aside0.mk (blk_drew BK229.out)
            have n2_ := Aside0.mk (blk_drew BK230.out)
            have n3_ := Aside0.mk (below_drew1 HB.out)
            clear BK226
            clear BK229
            clear BK230
            clear HB
            have BK226 := n0_
            have BK229 := n1_
            have BK230 := n2_
            have HB := n3_
            clear n0_ n1_ n2_ n3_
            refine start_ (n := 11) (S := fun w' => w'.cell? ⟨gb229, 0, none⟩ = some (.string ((rd_T45 l0 a1_0).f0)) ∧ w'.cell? ⟨gb229, 1, none⟩ = some (.slice A227_1 ((rd_T45 l0 a1_0).f1.f0).length c227_1) ∧ w'.cell? ⟨gb229, 2, none⟩ = some (.int .i64 ((rd_T45 l0 a1_0).f1.f1)) ∧ w'.cell? ⟨gb229, 3, none⟩ = some (.int .i64 ((rd_T45 l0 a1_0).f1.f2)) ∧ w'.cell? ⟨gb230, 0, none⟩ = some (.string ((rd_T45 l0 a1_1).f0)) ∧ w'.cell? ⟨gb230, 1, none⟩ = some (.slice A228_1 ((rd_T45 l0 a1_1).f1.f0).length c228_1) ∧ w'.cell? ⟨gb230, 2, none⟩ = some (.int .i64 ((rd_T45 l0 a1_1).f1.f1)) ∧ w'.cell? ⟨gb230, 3, none⟩ = some (.int .i64 ((rd_T45 l0 a1_1).f1.f2))) (ds := []) #[false, false, false, false, false, false, false, false, false, false, false] (by kernel_rfl) rfl rfl ⟨(blk_cell BK229.out 0).trans rfl, (blk_cell BK229.out 1).trans rfl, (blk_cell BK229.out 2).trans rfl, (blk_cell BK229.out 3).trans rfl, (blk_cell BK230.out 0).trans rfl, (blk_cell BK230.out 1).trans rfl, (blk_cell BK230.out 2).trans rfl, (blk_cell BK230.out 3).trans rfl⟩ (fun hHeld => ?_); refine with_tabW cupelref35_part.tab11 cupelref35_part.bits11 (fun HT_ HW_ => ?_)
            generalize w100.drew = w104 at BK226 BK229 BK230 HB hHeld ⊢
            refine pure_ (i := 0) (N := some 43) (v := ?_) (a' := ?_) #[true, false, false, false, false, false, false, false, false, false, false] rfl rfl (any_of HT_.out (by kernel_rfl)) (fun _ _ _ h => h) (Or.inl ⟨by rfl, ?_⟩) ?_ ?_
            rotate_left
            ·intro w'
             go_simp
             with_reducible rfl
            rotate_left
            ·simp only [Act.put, List.setIfInBounds_toArray, List.set_cons_zero, List.set_cons_succ, i64_w, i32_w]
             rfl
            refine pure_ (i := 1) (N := some 44) (v := ?_) (a' := ?_) #[true, true, false, false, false, false, false, false, false, false, false] rfl rfl (any_of HT_.out (by kernel_rfl)) (fun _ _ _ h => h) (Or.inl ⟨by rfl, ?_⟩) ?_ ?_
            rotate_left
            ·intro w'
             go_simp
             with_reducible rfl
            rotate_left
            ·simp only [Act.put, List.setIfInBounds_toArray, List.set_cons_zero, List.set_cons_succ, i64_w, i32_w]
             rfl
            refine pure_ (i := 6) (N := some 49) (v := ?_) (a' := ?_) #[true, true, false, false, false, false, true, false, false, false, false] rfl rfl (any_of HT_.out (by kernel_rfl)) (fun _ _ _ h => h) (Or.inl ⟨by rfl, ?_⟩) ?_ ?_
            rotate_left
            ·intro w'
             go_simp
             with_reducible rfl
            rotate_left
            ·simp only [Act.put, List.setIfInBounds_toArray, List.set_cons_zero, List.set_cons_succ, i64_w, i32_w]
             rfl
            refine take_ (i := 2) (N := some 45) (v := ?_) (a' := ?_) #[true, true, true, false, false, false, true, false, false, false, false] rfl rfl (take_ofW HT_.out HW_.out (by kernel_rfl)) (fun _ _ _ h => h) (Or.inl ⟨by rfl, ?_⟩) hHeld ?_ ?_
            rotate_left
            ·rintro w' ⟨s0, s1, s2, s3, s4, s5, s6, s7⟩
             go_simp
             with_reducible rfl
            rotate_left
            ·simp only [Act.put, List.setIfInBounds_toArray, List.set_cons_zero, List.set_cons_succ, i64_w, i32_w]
             rfl
            refine take_ (i := 7) (N := some 50) (v := ?_) (a' := ?_) #[true, true, true, false, false, false, true, true, false, false, false] rfl rfl (take_ofW HT_.out HW_.out (by kernel_rfl)) (fun _ _ _ h => h) (Or.inl ⟨by rfl, ?_⟩) hHeld ?_ ?_
            rotate_left
            ·rintro w' ⟨s0, s1, s2, s3, s4, s5, s6, s7⟩
             go_simp
             with_reducible rfl
            rotate_left
            ·simp only [Act.put, List.setIfInBounds_toArray, List.set_cons_zero, List.set_cons_succ, i64_w, i32_w]
             rfl
            refine one_ (i := 3) (N := some 46) #[true, true, true, true, false, false, true, true, false, false, false] rfl rfl (one_of HT_.out (by kernel_rfl)) (by decide) (fun K hK => ?_)
            refine goes_ Tryd.func49 (by kernel_rfl) rfl #[.agg #[.slice A227_1 ((rd_T45 l0 a1_0).f1.f0).length c227_1, .int .i64 ((rd_T45 l0 a1_0).f1.f1), .int .i64 ((rd_T45 l0 a1_0).f1.f2)]] (by rfl) rfl rfl ts10_ ?_
            with_reducible refine (cupelref35_end.calls k _ _ ((rd_T45 l0 a1_0).f1.f0) ((rd_T45 l0 a1_0).f1.f1) ((rd_T45 l0 a1_0).f1.f2) t235 _ ?side1 ?side2 A81.out).mono ?_
            (case side1 => exact ts43_ HR227_1.out HB.out)
            (case side2 => exact HC227_1.out)
            rintro e w105 ⟨rfl, hb⟩
            refine ⟨_, rfl, ?_⟩
            have n0_ := Aside0.mk (blk_below (g := gb226) (o := .cells #[.int .i64 a1_0, .int .i64 a1_1, .int .i64 a1_2, .int .i64 a1_3] 57 (0, 0)) (ts18_ BK226.out) hb)
            have n1_ := Aside0.mk (blk_below (g := gb229) (o := .cells #[.string ((rd_T45 l0 a1_0).f0), .slice A227_1 ((rd_T45 l0 a1_0).f1.f0).length c227_1, .int .i64 ((rd_T45 l0 a1_0).f1.f1), .int .i64 ((rd_T45 l0 a1_0).f1.f2)] 45 (0, 0)) (ts18_ BK229.out) hb)
            have n2_ := Aside0.mk (blk_below (g := gb230) (o := .cells #[.string ((rd_T45 l0 a1_1).f0), .slice A228_1 ((rd_T45 l0 a1_1).f1.f0).length c228_1, .int .i64 ((rd_T45 l0 a1_1).f1.f1), .int .i64 ((rd_T45 l0 a1_1).f1.f2)] 45 (0, 0)) (ts18_ BK230.out) hb)
            have n3_ := Aside0.mk (below_step (ts39_ HB.out GE226.out GE229.out GE230.out) hb)
            clear BK226
            clear BK229
            clear BK230
            clear HB
            have BK226 := n0_
            have BK229 := n1_
            have BK230 := n2_
            have HB := n3_
            clear n0_ n1_ n2_ n3_
            (try clear hb)
            (try clear hb2)
            (try clear hk)
            (try clear hi)
            refine hK.out _ _ ⟨(blk_cell BK229.out 0).trans rfl, (blk_cell BK229.out 1).trans rfl, (blk_cell BK229.out 2).trans rfl, (blk_cell BK229.out 3).trans rfl, (blk_cell BK230.out 0).trans rfl, (blk_cell BK230.out 1).trans rfl, (blk_cell BK230.out 2).trans rfl, (blk_cell BK230.out 3).trans rfl⟩ (fun hHeld => ?_)
            clear hK K
            refine norm_ (a' := ?_) ?_ ?_
            rotate_left
            ·show Act.put _ (some 46) _ = _
             simp only [Act.put, List.setIfInBounds_toArray, List.set_cons_zero, List.set_cons_succ, i64_w, i32_w]
             rfl
            refine pure_ (i := 4) (N := some 47) (v := ?_) (a' := ?_) #[true, true, true, true, true, false, true, true, false, false, false] rfl rfl (any_of HT_.out (by kernel_rfl)) (fun _ _ _ h => h) (Or.inl ⟨by rfl, ?_⟩) ?_ ?_
            rotate_left
            ·intro w'
             go_simp
             with_reducible rfl
            rotate_left
            ·simp only [Act.put, List.setIfInBounds_toArray, List.set_cons_zero, List.set_cons_succ, i64_w, i32_w]
             rfl
            refine pure_ (i := 5) (N := some 48) (v := ?_) (a' := ?_) #[true, true, true, true, true, true, true, true, false, false, false] rfl rfl (any_of HT_.out (by kernel_rfl)) (fun _ _ _ h => h) (Or.inl ⟨by rfl, ?_⟩) ?_ ?_
            rotate_left
            ·intro w'
             go_simp
             with_reducible rfl
            rotate_left
            ·simp only [Act.put, List.setIfInBounds_toArray, List.set_cons_zero, List.set_cons_succ, i64_w, i32_w]
             rfl
            refine one_ (i := 8) (N := some 51) #[true, true, true, true, true, true, true, true, true, false, false] rfl rfl (one_of HT_.out (by kernel_rfl)) (by decide) (fun K hK => ?_)
            refine goes_ Tryd.func49 (by kernel_rfl) rfl #[.agg #[.slice A228_1 ((rd_T45 l0 a1_1).f1.f0).length c228_1, .int .i64 ((rd_T45 l0 a1_1).f1.f1), .int .i64 ((rd_T45 l0 a1_1).f1.f2)]] (by rfl) rfl rfl ts10_ ?_
            with_reducible refine (cupelref35_end.calls k _ _ ((rd_T45 l0 a1_1).f1.f0) ((rd_T45 l0 a1_1).f1.f1) ((rd_T45 l0 a1_1).f1.f2) t236 _ ?side1 ?side2 A84.out).mono ?_
            (case side1 => exact ts43_ HR228_1.out HB.out)
            (case side2 => exact HC228_1.out)
            rintro e w106 ⟨rfl, hb⟩
            refine ⟨_, rfl, ?_⟩
            have n0_ := Aside0.mk (blk_below (g := gb226) (o := .cells #[.int .i64 a1_0, .int .i64 a1_1, .int .i64 a1_2, .int .i64 a1_3] 57 (0, 0)) (ts18_ BK226.out) hb)
            have n1_ := Aside0.mk (blk_below (g := gb229) (o := .cells #[.string ((rd_T45 l0 a1_0).f0), .slice A227_1 ((rd_T45 l0 a1_0).f1.f0).length c227_1, .int .i64 ((rd_T45 l0 a1_0).f1.f1), .int .i64 ((rd_T45 l0 a1_0).f1.f2)] 45 (0, 0)) (ts18_ BK229.out) hb)
            have n2_ := Aside0.mk (blk_below (g := gb230) (o := .cells #[.string ((rd_T45 l0 a1_1).f0), .slice A228_1 ((rd_T45 l0 a1_1).f1.f0).length c228_1, .int .i64 ((rd_T45 l0 a1_1).f1.f1), .int .i64 ((rd_T45 l0 a1_1).f1.f2)] 45 (0, 0)) (ts18_ BK230.out) hb)
            have n3_ := Aside0.mk (below_step (ts39_ HB.out GE226.out GE229.out GE230.out) hb)
            clear BK226
            clear BK229
            clear BK230
            clear HB
            have BK226 := n0_
            have BK229 := n1_
            have BK230 := n2_
            have HB := n3_
            clear n0_ n1_ n2_ n3_
            (try clear hb)
            (try clear hb2)
            (try clear hk)
            (try clear hi)
            refine hK.out _ _ ⟨(blk_cell BK229.out 0).trans rfl, (blk_cell BK229.out 1).trans rfl, (blk_cell BK229.out 2).trans rfl, (blk_cell BK229.out 3).trans rfl, (blk_cell BK230.out 0).trans rfl, (blk_cell BK230.out 1).trans rfl, (blk_cell BK230.out 2).trans rfl, (blk_cell BK230.out 3).trans rfl⟩ (fun hHeld => ?_)
            clear hK K
            refine norm_ (a' := ?_) ?_ ?_
            rotate_left
            ·show Act.put _ (some 51) _ = _
             simp only [Act.put, List.setIfInBounds_toArray, List.set_cons_zero, List.set_cons_succ, i64_w, i32_w]
             rfl
            refine pure_ (i := 9) (N := some 52) (v := ?_) (a' := ?_) #[true, true, true, true, true, true, true, true, true, true, false] rfl rfl (any_of HT_.out (by kernel_rfl)) (fun _ _ _ h => h) (Or.inl ⟨by rfl, ?_⟩) ?_ ?_
            rotate_left
            ·intro w'
             go_simp
             with_reducible rfl
            rotate_left
            ·simp only [Act.put, List.setIfInBounds_toArray, List.set_cons_zero, List.set_cons_succ, i64_w, i32_w]
             rfl
            refine pure_ (i := 10) (N := some 4) (v := ?_) (a' := ?_) #[true, true, true, true, true, true, true, true, true, true, true] rfl rfl (any_of HT_.out (by kernel_rfl)) (fun _ _ _ h => h) (Or.inl ⟨by rfl, ?_⟩) ?_ ?_
            rotate_left
            ·intro w'
             go_simp
             with_reducible rfl
            rotate_left
            ·simp only [Act.put, List.setIfInBounds_toArray, List.set_cons_zero, List.set_cons_succ, i64_w, i32_w]
             rfl
            refine done_ (done_of HT_.out (by kernel_rfl)) ?_
            try go_wp2
            go_ret
            exact ⟨ts33_, ts39_ HB.out GE226.out GE229.out GE230.out⟩
           rw [if_neg c85] at H
           exact absurd H (by simp)
          rw [if_neg c83] at H
          exact absurd H (by simp)
         rw [if_neg c82] at H
         exact absurd H (by simp)
        rw [if_neg c80] at H
        exact absurd H (by simp)
       rw [if_neg c11] at H
       exact absurd H (by simp)
      rw [if_neg c10] at H
      exact absurd H (by simp)
     rw [if_neg c8] at H
     exact absurd H (by simp)
    rw [if_neg c6] at H
    exact absurd H (by simp)
   rw [if_neg c5] at H
   exact absurd H (by simp)
  rw [if_neg c4] at H
  exact absurd H (by simp)
 rw [if_neg c3] at H
 exact absurd H (by simp)
end Go.Proofs.YtndennmpnomjnaaDoor.A
