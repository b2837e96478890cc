/- Written by wip/tools/xprint.py, a program of this session that drives the kit's printer. Not trusted: Lean checks it. -/
import Derived.Test.YtlaijeeeblcinaaDoorCx0
import Derived.Test.YtlaijeeeblcinaaDoorEv2
set_option linter.all false
set_option maxHeartbeats 8000000
set_option maxRecDepth 100000
namespace Go.Proofs.YtlaijeeeblcinaaDoor.A
open Go.RowKit Go.Proofs.YtlaijeeeblcinaaDoorW.PrintWords Go.Proofs.YtlaijeeeblcinaaDoorW.PrintLast Go.Proofs.YtlaijeeeblcinaaDoorW.PrintMore
attribute [local go_sem] max2_int min2_int max_two min_two max_three min_three max_four min_four   -- for this text's walks alone
set_option linter.unusedVariables false
set_option linter.unusedSimpArgs false
theorem bsz1 (a : UInt8) : (ByteArray.mk #[a]).size = 1 := rfl
theorem bsz2 (a b : UInt8) : (ByteArray.mk #[a, b]).size = 2 := rfl
theorem bsz3 (a b c : UInt8) : (ByteArray.mk #[a, b, c]).size = 3 := rfl
theorem bsz5 (a b c d e : UInt8) : (ByteArray.mk #[a, b, c, d, e]).size = 5 := rfl
theorem bsz6 (a b c d e f : UInt8) : (ByteArray.mk #[a, b, c, d, e, f]).size = 6 := rfl
/-! ### target_line: function 51 -/
mutual
def target_line.j0 : Nat → ByteArray → List ByteArray → Int → Int → Int → Int → Int → Int → ByteArray → Bool → Bool → Bool → Int → Option (ByteArray)
 | 0, _, _, _, _, _, _, _, _, _, _, _, _, _ => none
 | k + 1, x6, x8, x156000, x156001, x156002, x156003, x156004, x164000, x164001, x164002, x164003, x164004, x164005 => if x164003 = true then ((et_reg.f x156002).bind fun t180 => (if x8.length < 8796093022208 then (target_line.j1 k x6 (x8 ++ [t180]) x156000 x156001 x156002 x156003 x156004 x164000 x164001 x164002 x164003 x164004 x164005) else (none))) else (target_line.j1 k x6 x8 x156000 x156001 x156002 x156003 x156004 x164000 x164001 x164002 x164003 x164004 x164005)
def target_line.j1 : Nat → ByteArray → List ByteArray → Int → Int → Int → Int → Int → Int → ByteArray → Bool → Bool → Bool → Int → Option (ByteArray)
 | 0, _, _, _, _, _, _, _, _, _, _, _, _, _ => none
 | k + 1, x6, x8, x156000, x156001, x156002, x156003, x156004, x164000, x164001, x164002, x164003, x164004, x164005 => if x164004 = true then ((et_reg.f x156003).bind fun t184 => (if x8.length < 8796093022208 then (target_line.j2 k x6 (x8 ++ [t184]) x164000 x164001 x164002 x164003 x164004 x164005) else (none))) else (target_line.j2 k x6 x8 x164000 x164001 x164002 x164003 x164004 x164005)
def target_line.j2 : Nat → ByteArray → List ByteArray → Int → ByteArray → Bool → Bool → Bool → Int → Option (ByteArray)
 | 0, _, _, _, _, _, _, _, _ => none
 | k + 1, x6, x8, x164000, x164001, x164002, x164003, x164004, x164005 => if x164005 = 0 then (if (x8.length : Int) = 0 then (if x164001.size + 2 ≤ 9223372036854775807 then (some (x164001 ++ (⟨#[59, 10]⟩ : ByteArray))) else (none)) else (if x164001.size + 1 ≤ 9223372036854775807 then ((et_Join.f x8 (⟨#[44, 32]⟩ : ByteArray)).bind fun t188 => (if (x164001 ++ (⟨#[32]⟩ : ByteArray)).size + t188.size ≤ 9223372036854775807 then (if ((x164001 ++ (⟨#[32]⟩ : ByteArray)) ++ t188).size + 2 ≤ 9223372036854775807 then (some (((x164001 ++ (⟨#[32]⟩ : ByteArray)) ++ t188) ++ (⟨#[59, 10]⟩ : ByteArray))) else (none)) else (none))) else (none))) else (if x8.length < 8796093022208 then ((some (x8 ++ [x6] : List ByteArray)).bind fun y189 => (if (y189.length : Int) = 0 then (if x164001.size + 2 ≤ 9223372036854775807 then (some (x164001 ++ (⟨#[59, 10]⟩ : ByteArray))) else (none)) else (if x164001.size + 1 ≤ 9223372036854775807 then ((et_Join.f y189 (⟨#[44, 32]⟩ : ByteArray)).bind fun t192 => (if (x164001 ++ (⟨#[32]⟩ : ByteArray)).size + t192.size ≤ 9223372036854775807 then (if ((x164001 ++ (⟨#[32]⟩ : ByteArray)) ++ t192).size + 2 ≤ 9223372036854775807 then (some (((x164001 ++ (⟨#[32]⟩ : ByteArray)) ++ t192) ++ (⟨#[59, 10]⟩ : ByteArray))) else (none)) else (none))) else (none)))) else (none))
end
def target_line.f (k : Nat) (a0_0 : Int) (a0_1 : Int) (a0_2 : Int) (a0_3 : Int) (a0_4 : Int) : Option (ByteArray) := (et_find.f a0_0).bind fun bt156 => ((et_FormatInt.f a0_4 10).bind fun t164 => (if t164.size + 1 ≤ 9223372036854775807 then ((et_reg.f a0_2).bind fun t165 => (if (t164 ++ (⟨#[40]⟩ : ByteArray)).size + t165.size ≤ 9223372036854775807 then (if ((t164 ++ (⟨#[40]⟩ : ByteArray)) ++ t165).size + 1 ≤ 9223372036854775807 then (if bt156.1 = 4 then ((et_reg.f a0_1).bind fun t166 => ((some (([t166, ((t164 ++ (⟨#[40]⟩ : ByteArray)) ++ t165) ++ (⟨#[41]⟩ : ByteArray)] : List ByteArray) : List ByteArray)).bind fun y167 => (if (y167.length : Int) = 0 then (if bt156.2.1.size + 2 ≤ 9223372036854775807 then (some (bt156.2.1 ++ (⟨#[59, 10]⟩ : ByteArray))) else (none)) else (if bt156.2.1.size + 1 ≤ 9223372036854775807 then ((et_Join.f y167 (⟨#[44, 32]⟩ : ByteArray)).bind fun t170 => (if (bt156.2.1 ++ (⟨#[32]⟩ : ByteArray)).size + t170.size ≤ 9223372036854775807 then (if ((bt156.2.1 ++ (⟨#[32]⟩ : ByteArray)) ++ t170).size + 2 ≤ 9223372036854775807 then (some (((bt156.2.1 ++ (⟨#[32]⟩ : ByteArray)) ++ t170) ++ (⟨#[59, 10]⟩ : ByteArray))) else (none)) else (none))) else (none))))) else (if bt156.1 = 5 then ((et_reg.f a0_3).bind fun t171 => ((some (([((t164 ++ (⟨#[40]⟩ : ByteArray)) ++ t165) ++ (⟨#[41]⟩ : ByteArray), t171] : List ByteArray) : List ByteArray)).bind fun y172 => (if (y172.length : Int) = 0 then (if bt156.2.1.size + 2 ≤ 9223372036854775807 then (some (bt156.2.1 ++ (⟨#[59, 10]⟩ : ByteArray))) else (none)) else (if bt156.2.1.size + 1 ≤ 9223372036854775807 then ((et_Join.f y172 (⟨#[44, 32]⟩ : ByteArray)).bind fun t175 => (if (bt156.2.1 ++ (⟨#[32]⟩ : ByteArray)).size + t175.size ≤ 9223372036854775807 then (if ((bt156.2.1 ++ (⟨#[32]⟩ : ByteArray)) ++ t175).size + 2 ≤ 9223372036854775807 then (some (((bt156.2.1 ++ (⟨#[32]⟩ : ByteArray)) ++ t175) ++ (⟨#[59, 10]⟩ : ByteArray))) else (none)) else (none))) else (none))))) else (if bt156.2.2.1 = true then ((et_reg.f a0_1).bind fun t176 => (if ([] : List ByteArray).length < 8796093022208 then (target_line.j0 k t164 (([] : List ByteArray) ++ [t176]) a0_0 a0_1 a0_2 a0_3 a0_4 bt156.1 bt156.2.1 bt156.2.2.1 bt156.2.2.2.1 bt156.2.2.2.2.1 bt156.2.2.2.2.2.1) else (none))) else (target_line.j0 k t164 ([] : List ByteArray) a0_0 a0_1 a0_2 a0_3 a0_4 bt156.1 bt156.2.1 bt156.2.2.1 bt156.2.2.2.1 bt156.2.2.2.2.1 bt156.2.2.2.2.2.1)))) else (none)) else (none))) else (none)))
theorem target_line.mono_l : ∀ k, (∀ y0 y1 y2 y3 y4 y5 y6 y7 y8 y9 y10 y11 y12, LeO (target_line.j0 k y0 y1 y2 y3 y4 y5 y6 y7 y8 y9 y10 y11 y12) (target_line.j0 (k + 1) y0 y1 y2 y3 y4 y5 y6 y7 y8 y9 y10 y11 y12)) ∧ (∀ y0 y1 y2 y3 y4 y5 y6 y7 y8 y9 y10 y11 y12, LeO (target_line.j1 k y0 y1 y2 y3 y4 y5 y6 y7 y8 y9 y10 y11 y12) (target_line.j1 (k + 1) y0 y1 y2 y3 y4 y5 y6 y7 y8 y9 y10 y11 y12)) ∧ (∀ y0 y1 y2 y3 y4 y5 y6 y7, LeO (target_line.j2 k y0 y1 y2 y3 y4 y5 y6 y7) (target_line.j2 (k + 1) y0 y1 y2 y3 y4 y5 y6 y7))
 | 0 => ⟨fun _ _ _ _ _ _ _ _ _ _ _ _ _ r h => by simp [target_line.j0] at h, fun _ _ _ _ _ _ _ _ _ _ _ _ _ r h => by simp [target_line.j1] at h, fun _ _ _ _ _ _ _ _ r h => by simp [target_line.j2] at h⟩
 | k + 1 => by
  obtain ⟨ih0, ih1, ih2⟩ := target_line.mono_l k
  refine ⟨?_, ?_, ?_⟩
  ·intro y0 y1 y2 y3 y4 y5 y6 y7 y8 y9 y10 y11 y12
   unfold target_line.j0
   repeat' first
   | (with_reducible exact ih0 _ _ _ _ _ _ _ _ _ _ _ _ _)
   | (with_reducible exact ih1 _ _ _ _ _ _ _ _ _ _ _ _ _)
   | (with_reducible exact ih2 _ _ _ _ _ _ _ _)
   | (with_reducible exact LeO.refl _)
   | (with_reducible exact LeO.none _)
   | (with_reducible refine LeO.ite ?_ ?_)
   | (with_reducible refine LeO.bind ?_ (fun _ => ?_))
   | exact LeO.none _
   | refine LeO.ite ?_ ?_
   | refine LeO.bind ?_ (fun _ => ?_)
  ·intro y0 y1 y2 y3 y4 y5 y6 y7 y8 y9 y10 y11 y12
   unfold target_line.j1
   repeat' first
   | (with_reducible exact ih0 _ _ _ _ _ _ _ _ _ _ _ _ _)
   | (with_reducible exact ih1 _ _ _ _ _ _ _ _ _ _ _ _ _)
   | (with_reducible exact ih2 _ _ _ _ _ _ _ _)
   | (with_reducible exact LeO.refl _)
   | (with_reducible exact LeO.none _)
   | (with_reducible refine LeO.ite ?_ ?_)
   | (with_reducible refine LeO.bind ?_ (fun _ => ?_))
   | exact LeO.none _
   | refine LeO.ite ?_ ?_
   | refine LeO.bind ?_ (fun _ => ?_)
  intro y0 y1 y2 y3 y4 y5 y6 y7
  unfold target_line.j2
  repeat' first
  | (with_reducible exact ih0 _ _ _ _ _ _ _ _ _ _ _ _ _)
  | (with_reducible exact ih1 _ _ _ _ _ _ _ _ _ _ _ _ _)
  | (with_reducible exact ih2 _ _ _ _ _ _ _ _)
  | (with_reducible exact LeO.refl _)
  | (with_reducible exact LeO.none _)
  | (with_reducible refine LeO.ite ?_ ?_)
  | (with_reducible refine LeO.bind ?_ (fun _ => ?_))
  | exact LeO.none _
  | refine LeO.ite ?_ ?_
  | refine LeO.bind ?_ (fun _ => ?_)
theorem target_line.mono : ∀ a0 a1 a2 a3 a4 k, LeO (target_line.f k a0 a1 a2 a3 a4) (target_line.f (k + 1) a0 a1 a2 a3 a4) := by
 intro a0 a1 a2 a3 a4 k
 obtain ⟨ih0, ih1, ih2⟩ := target_line.mono_l k
 unfold target_line.f
 repeat' first
   | (with_reducible exact ih0 _ _ _ _ _ _ _ _ _ _ _ _ _)
   | (with_reducible exact ih1 _ _ _ _ _ _ _ _ _ _ _ _ _)
   | (with_reducible exact ih2 _ _ _ _ _ _ _ _)
   | (with_reducible exact LeO.refl _)
   | (with_reducible exact LeO.none _)
   | (with_reducible refine LeO.ite ?_ ?_)
   | (with_reducible refine LeO.bind ?_ (fun _ => ?_))
   | exact LeO.none _
   | refine LeO.ite ?_ ?_
   | refine LeO.bind ?_ (fun _ => ?_)
def target_line.T21 : Bool × List (List Nat × List Nat) := (true, [([], []), ([0], [0]), ([1], [1]), ([], []), ([3], [3]), ([2, 4], [2, 4]), ([5], [5]), ([6, 4, 0, 1, 2, 3, 4, 5, 6], [6])])
def target_line.B21 : List Nat := [0, 1, 3, 0, 8, 31, 63, 127]
theorem target_line.tab21 : rtab .any (opsOf Tryd.f51 21) = target_line.T21 := by kernel_rfl
theorem target_line.bits21 : waitsOk target_line.T21.2 target_line.B21 = true := by kernel_rfl
theorem target_line.calls (k : Nat) (a0_0 : Int) (a0_1 : Int) (a0_2 : Int) (a0_3 : Int) (a0_4 : Int) (r : ByteArray) (w : World) (h : target_line.f k a0_0 a0_1 a0_2 a0_3 a0_4 = some r) (hE_ : Env w := by exact Env.below HEnv_.out (by repeat (first | (with_reducible first | exact HB.out | apply below_alloc | apply pw_below_drewN | apply below_drew1 | refine below_set ?_ (Aside0.out (by assumption))) | exact HB.out)) HEnv_.out.big) :
  Calls Tryd.prog 51 #[.agg #[.int .i64 a0_0, .int .i64 a0_1, .int .i64 a0_2, .int .i64 a0_3, .int .i64 a0_4]] w fun e w' => e = .returned (.string r) ∧ Below w.heap.size w w' := by
 have HEnv_ := Aside0.mk hE_
 clear hE_
 have hu26 := Tryd.underlying26
 have hu50 := Tryd.underlying50
 have HB := Aside0.mk (Below.refl w.heap.size w)
 have H : ((et_find.f a0_0).bind fun bt156 => ((et_FormatInt.f a0_4 10).bind fun t164 => (if t164.size + 1 ≤ 9223372036854775807 then ((et_reg.f a0_2).bind fun t165 => (if (t164 ++ (⟨#[40]⟩ : ByteArray)).size + t165.size ≤ 9223372036854775807 then (if ((t164 ++ (⟨#[40]⟩ : ByteArray)) ++ t165).size + 1 ≤ 9223372036854775807 then (if bt156.1 = 4 then ((et_reg.f a0_1).bind fun t166 => ((some (([t166, ((t164 ++ (⟨#[40]⟩ : ByteArray)) ++ t165) ++ (⟨#[41]⟩ : ByteArray)] : List ByteArray) : List ByteArray)).bind fun y167 => (if (y167.length : Int) = 0 then (if bt156.2.1.size + 2 ≤ 9223372036854775807 then (some (bt156.2.1 ++ (⟨#[59, 10]⟩ : ByteArray))) else (none)) else (if bt156.2.1.size + 1 ≤ 9223372036854775807 then ((et_Join.f y167 (⟨#[44, 32]⟩ : ByteArray)).bind fun t170 => (if (bt156.2.1 ++ (⟨#[32]⟩ : ByteArray)).size + t170.size ≤ 9223372036854775807 then (if ((bt156.2.1 ++ (⟨#[32]⟩ : ByteArray)) ++ t170).size + 2 ≤ 9223372036854775807 then (some (((bt156.2.1 ++ (⟨#[32]⟩ : ByteArray)) ++ t170) ++ (⟨#[59, 10]⟩ : ByteArray))) else (none)) else (none))) else (none))))) else (if bt156.1 = 5 then ((et_reg.f a0_3).bind fun t171 => ((some (([((t164 ++ (⟨#[40]⟩ : ByteArray)) ++ t165) ++ (⟨#[41]⟩ : ByteArray), t171] : List ByteArray) : List ByteArray)).bind fun y172 => (if (y172.length : Int) = 0 then (if bt156.2.1.size + 2 ≤ 9223372036854775807 then (some (bt156.2.1 ++ (⟨#[59, 10]⟩ : ByteArray))) else (none)) else (if bt156.2.1.size + 1 ≤ 9223372036854775807 then ((et_Join.f y172 (⟨#[44, 32]⟩ : ByteArray)).bind fun t175 => (if (bt156.2.1 ++ (⟨#[32]⟩ : ByteArray)).size + t175.size ≤ 9223372036854775807 then (if ((bt156.2.1 ++ (⟨#[32]⟩ : ByteArray)) ++ t175).size + 2 ≤ 9223372036854775807 then (some (((bt156.2.1 ++ (⟨#[32]⟩ : ByteArray)) ++ t175) ++ (⟨#[59, 10]⟩ : ByteArray))) else (none)) else (none))) else (none))))) else (if bt156.2.2.1 = true then ((et_reg.f a0_1).bind fun t176 => (if ([] : List ByteArray).length < 8796093022208 then (target_line.j0 k t164 (([] : List ByteArray) ++ [t176]) a0_0 a0_1 a0_2 a0_3 a0_4 bt156.1 bt156.2.1 bt156.2.2.1 bt156.2.2.2.1 bt156.2.2.2.2.1 bt156.2.2.2.2.2.1) else (none))) else (target_line.j0 k t164 ([] : List ByteArray) a0_0 a0_1 a0_2 a0_3 a0_4 bt156.1 bt156.2.1 bt156.2.2.1 bt156.2.2.2.1 bt156.2.2.2.2.1 bt156.2.2.2.2.2.1)))) else (none)) else (none))) else (none)))) = some r := h
 clear h
 obtain ⟨⟨t156, t157, t158, t159, t160, t161, t162⟩, A2, H⟩ := bsA_ H
 try dsimp only at H
 obtain ⟨t164, A3, H⟩ := bsA_ H
 try dsimp only at H
 by_cases c4 : t164.size + 1 ≤ 9223372036854775807
 ·rw [if_pos c4] at H
  have c4b0 := eq_true c4
  have c4b1 : decide (t164.size + 1 ≤ 9223372036854775807) = true := decide_eq_true c4
  try have c4b2 : (9223372036854775807 < t164.size + 1) = False := eq_false (Nat.not_lt.2 c4)
  have c4b3 := c4b2
  try simp only [ByteArray.size_append, bsz1, bsz2, bsz3, bsz5, bsz6] at c4b3
  obtain ⟨t165, A5, H⟩ := bsA_ H
  try dsimp only at H
  by_cases c6 : (t164 ++ (⟨#[40]⟩ : ByteArray)).size + t165.size ≤ 9223372036854775807
  ·rw [if_pos c6] at H
   have c6b0 := eq_true c6
   have c6b1 : decide ((t164 ++ (⟨#[40]⟩ : ByteArray)).size + t165.size ≤ 9223372036854775807) = true := decide_eq_true c6
   try have c6b2 : (9223372036854775807 < (t164 ++ (⟨#[40]⟩ : ByteArray)).size + t165.size) = False := eq_false (Nat.not_lt.2 c6)
   have c6b3 := c6b2
   try simp only [ByteArray.size_append, bsz1, bsz2, bsz3, bsz5, bsz6] at c6b3
   by_cases c7 : ((t164 ++ (⟨#[40]⟩ : ByteArray)) ++ t165).size + 1 ≤ 9223372036854775807
   ·rw [if_pos c7] at H
    have c7b0 := eq_true c7
    have c7b1 : decide (((t164 ++ (⟨#[40]⟩ : ByteArray)) ++ t165).size + 1 ≤ 9223372036854775807) = true := decide_eq_true c7
    try have c7b2 : (9223372036854775807 < ((t164 ++ (⟨#[40]⟩ : ByteArray)) ++ t165).size + 1) = False := eq_false (Nat.not_lt.2 c7)
    have c7b3 := c7b2
    try simp only [ByteArray.size_append, bsz1, bsz2, bsz3, bsz5, bsz6] at c7b3
    by_cases c8 : t156 = 4
    ·rw [if_pos c8] at H
     have c8b0 : (t156 == 4) = true := beq_iff_eq.mpr c8
     have c8b1 : (t156 != 4) = false := bne_eq_false_iff_eq.mpr c8
     clear c8
     obtain ⟨t166, A9, H⟩ := bsA_ H
     try dsimp only at H
     obtain ⟨y167, hy167⟩ : ∃ y_ : List ByteArray, y_ = (([t166, ((t164 ++ (⟨#[40]⟩ : ByteArray)) ++ t165) ++ (⟨#[41]⟩ : ByteArray)] : List ByteArray)) := ⟨_, rfl⟩
     replace H : (if (y167.length : Int) = 0 then (if t157.size + 2 ≤ 9223372036854775807 then (some (t157 ++ (⟨#[59, 10]⟩ : ByteArray))) else (none)) else (if t157.size + 1 ≤ 9223372036854775807 then ((et_Join.f y167 (⟨#[44, 32]⟩ : ByteArray)).bind fun t170 => (if (t157 ++ (⟨#[32]⟩ : ByteArray)).size + t170.size ≤ 9223372036854775807 then (if ((t157 ++ (⟨#[32]⟩ : ByteArray)) ++ t170).size + 2 ≤ 9223372036854775807 then (some (((t157 ++ (⟨#[32]⟩ : ByteArray)) ++ t170) ++ (⟨#[59, 10]⟩ : ByteArray))) else (none)) else (none))) else (none))) = some r := by first | (rw [hy167]; with_reducible exact H) | (have H2_ := (Option.bind_some _ _).symm.trans H; rw [hy167]; with_reducible exact H2_) | (have H2_ := (Option.bind_some _ _).symm.trans H; with_reducible exact H2_) | with_reducible exact H | (rw [hy167]; exact H) | exact H
     have Ny167 := Aside0.mk hy167
     clear hy167
     by_cases c10 : (y167.length : Int) = 0
     ·rw [if_pos c10] at H
      have c10b0 : ((y167.length : Int) == 0) = true := beq_iff_eq.mpr c10
      have c10b1 : ((y167.length : Int) != 0) = false := bne_eq_false_iff_eq.mpr c10
      clear c10
      by_cases c11 : t157.size + 2 ≤ 9223372036854775807
      ·rw [if_pos c11] at H
       have c11b0 := eq_true c11
       have c11b1 : decide (t157.size + 2 ≤ 9223372036854775807) = true := decide_eq_true c11
       try have c11b2 : (9223372036854775807 < t157.size + 2) = False := eq_false (Nat.not_lt.2 c11)
       have c11b3 := c11b2
       try simp only [ByteArray.size_append, bsz1, bsz2, bsz3, bsz5, bsz6] at c11b3
       obtain rfl := Option.some.inj H
       go_enter Tryd.func51, Tryd.ntmps51
       go_wp2_with (first | ((with_reducible refine gate_dst (N := 1) rfl ?_); refine box_event ?hg (N := 1) ?hd (cs := #[.int .i64 a0_0, .int .i64 a0_1, .int .i64 a0_2, .int .i64 a0_3, .int .i64 a0_4]) (t := 26) ?hr ?_; (case hd => rfl); (case hg => rfl); (case hr => exact ts19_); intro gb155 hg w12 hbox hb; have BK155 := Aside0.mk (hbox); have GW155 := Aside0.mk ((ts63_ HB.out : w.heap.size ≤ gb155)); have GE155 := Aside0.mk ((ts63_ HB.out : w.heap.size ≤ gb155)); replace HB := Aside0.mk (below_step (ts47_ HB.out) hb); clear hb hbox hg; have hcz13_0 : w12.cell? ⟨gb155, 0, none⟩ = some (.int .i64 a0_0) := (blk_cell BK155.out 0).trans rfl; have hcz13_1 : w12.cell? ⟨gb155, 1, none⟩ = some (.int .i64 a0_1) := (blk_cell BK155.out 1).trans rfl; have hcz13_2 : w12.cell? ⟨gb155, 2, none⟩ = some (.int .i64 a0_2) := (blk_cell BK155.out 2).trans rfl; have hcz13_3 : w12.cell? ⟨gb155, 3, none⟩ = some (.int .i64 a0_3) := (blk_cell BK155.out 3).trans rfl; have hcz13_4 : w12.cell? ⟨gb155, 4, none⟩ = some (.int .i64 a0_4) := (blk_cell BK155.out 4).trans rfl; have hfz13_0 := blk_frozen BK155.out 0; have hfz13_1 := blk_frozen BK155.out 1; have hfz13_2 := blk_frozen BK155.out 2; have hfz13_3 := blk_frozen BK155.out 3; have hfz13_4 := blk_frozen BK155.out 4) | ((with_reducible refine gate_callee (f := 24) rfl ?_); refine goesL_ (some 12) rfl rfl Tryd.func24 (by kernel_rfl) rfl #[.int .i64 a0_0] rfl ts12_ ?_; (with_reducible refine (et_find.calls a0_0 t156 t157 t158 t159 t160 t161 t162 _ A2.out).mono ?_); rintro e w14 ⟨rfl, hb⟩; refine ⟨_, rfl, ?_⟩; replace BK155 := Aside0.mk (blk_below (g := gb155) (o := .cells #[.int .i64 a0_0, .int .i64 a0_1, .int .i64 a0_2, .int .i64 a0_3, .int .i64 a0_4] 26 (0, 0)) (ts18_ BK155.out) hb); replace HB := Aside0.mk (below_step (ts22_ HB.out GE155.out) hb); clear hb) | ((with_reducible refine gate_dst (N := 3) rfl ?_); refine box_event ?hg (N := 3) ?hd (cs := #[.int .i64 0, .string (⟨#[]⟩ : ByteArray), .bool false, .bool false, .bool false, .int .i64 0]) (t := 50) ?hr ?_; (case hd => rfl); (case hg => rfl); (case hr => exact ts19_); intro gb163 hg w15 hbox hb; have BK163 := Aside0.mk (hbox); have GW163 := Aside0.mk ((ts65_ HB.out GE155.out : w.heap.size ≤ gb163)); have GE163 := Aside0.mk ((ts65_ HB.out GE155.out : w.heap.size ≤ gb163)); replace HB := Aside0.mk (below_step (ts22_ HB.out GE155.out) hb); have NB155_163 := Aside0.mk ((ts50_ BK155.out : gb155 ≠ gb163)); have NB163_155 := Aside0.mk ((ts70_ BK155.out : gb163 ≠ gb155)); replace BK155 := Aside0.mk (blk_below (g := gb155) (o := .cells #[.int .i64 a0_0, .int .i64 a0_1, .int .i64 a0_2, .int .i64 a0_3, .int .i64 a0_4] 26 (0, 0)) (ts18_ BK155.out) hb); clear hb hbox hg; have hnb16 := NB163_155.out; have hnc16 := NB155_163.out; have hcz17_0 : w15.cell? ⟨gb163, 0, none⟩ = some (.int .i64 0) := (blk_cell BK163.out 0).trans rfl; have hcz17_1 : w15.cell? ⟨gb163, 1, none⟩ = some (.string (⟨#[]⟩ : ByteArray)) := (blk_cell BK163.out 1).trans rfl; have hcz17_2 : w15.cell? ⟨gb163, 2, none⟩ = some (.bool false) := (blk_cell BK163.out 2).trans rfl; have hcz17_3 : w15.cell? ⟨gb163, 3, none⟩ = some (.bool false) := (blk_cell BK163.out 3).trans rfl; have hcz17_4 : w15.cell? ⟨gb163, 4, none⟩ = some (.bool false) := (blk_cell BK163.out 4).trans rfl; have hcz17_5 : w15.cell? ⟨gb163, 5, none⟩ = some (.int .i64 0) := (blk_cell BK163.out 5).trans rfl; have hfz17_0 := blk_frozen BK163.out 0; have hfz17_1 := blk_frozen BK163.out 1; have hfz17_2 := blk_frozen BK163.out 2; have hfz17_3 := blk_frozen BK163.out 3; have hfz17_4 := blk_frozen BK163.out 4; have hfz17_5 := blk_frozen BK163.out 5; have hcz18_0 : w15.cell? ⟨gb155, 0, none⟩ = some (.int .i64 a0_0) := (blk_cell BK155.out 0).trans rfl; have hcz18_1 : w15.cell? ⟨gb155, 1, none⟩ = some (.int .i64 a0_1) := (blk_cell BK155.out 1).trans rfl; have hcz18_2 : w15.cell? ⟨gb155, 2, none⟩ = some (.int .i64 a0_2) := (blk_cell BK155.out 2).trans rfl; have hcz18_3 : w15.cell? ⟨gb155, 3, none⟩ = some (.int .i64 a0_3) := (blk_cell BK155.out 3).trans rfl; have hcz18_4 : w15.cell? ⟨gb155, 4, none⟩ = some (.int .i64 a0_4) := (blk_cell BK155.out 4).trans rfl; have hfz18_0 := blk_frozen BK155.out 0; have hfz18_1 := blk_frozen BK155.out 1; have hfz18_2 := blk_frozen BK155.out 2; have hfz18_3 := blk_frozen BK155.out 3; have hfz18_4 := blk_frozen BK155.out 4) | ((with_reducible refine gate_callee (f := 50) rfl ?_); refine goesL_ (some 17) rfl rfl Tryd.func50 (by kernel_rfl) rfl #[.int .i64 a0_4, .int .i64 10] rfl ts12_ ?_; (with_reducible refine (et_FormatInt.calls a0_4 10 t164 _ A3.out).mono ?_); rintro e w19 ⟨rfl, hb⟩; refine ⟨_, rfl, ?_⟩; replace BK155 := Aside0.mk (blk_below (g := gb155) (o := .cells #[.int .i64 a0_0, .int .i64 a0_1, .int .i64 a0_2, .int .i64 a0_3, .int .i64 a0_4] 26 (0, 0)) (ts24_ NB155_163.out BK155.out) hb); replace BK163 := Aside0.mk (blk_below (g := gb163) (o := .cells #[.int .i64 t156, .string t157, .bool t158, .bool t159, .bool t160, .int .i64 t161] 50 (0, 0)) (ts14_ BK163.out) hb); replace HB := Aside0.mk (below_step (ts32_ HB.out GE155.out GE163.out) hb); clear hb; have hcz20_0 : w19.cell? ⟨gb155, 0, none⟩ = some (.int .i64 a0_0) := (blk_cell BK155.out 0).trans rfl; have hcz20_1 : w19.cell? ⟨gb155, 1, none⟩ = some (.int .i64 a0_1) := (blk_cell BK155.out 1).trans rfl; have hcz20_2 : w19.cell? ⟨gb155, 2, none⟩ = some (.int .i64 a0_2) := (blk_cell BK155.out 2).trans rfl; have hcz20_3 : w19.cell? ⟨gb155, 3, none⟩ = some (.int .i64 a0_3) := (blk_cell BK155.out 3).trans rfl; have hcz20_4 : w19.cell? ⟨gb155, 4, none⟩ = some (.int .i64 a0_4) := (blk_cell BK155.out 4).trans rfl; have hfz20_0 := blk_frozen BK155.out 0; have hfz20_1 := blk_frozen BK155.out 1; have hfz20_2 := blk_frozen BK155.out 2; have hfz20_3 := blk_frozen BK155.out 3; have hfz20_4 := blk_frozen BK155.out 4) | (go_at_call 73; (with_reducible refine (et_reg.calls a0_2 t165 _ A5.out).mono ?_); rintro e w21 ⟨rfl, hb⟩; replace BK155 := Aside0.mk (blk_below (g := gb155) (o := .cells #[.int .i64 a0_0, .int .i64 a0_1, .int .i64 a0_2, .int .i64 a0_3, .int .i64 a0_4] 26 (0, 0)) (ts18_ BK155.out) hb); replace BK163 := Aside0.mk (blk_below (g := gb163) (o := .cells #[.int .i64 t156, .string t157, .bool t158, .bool t159, .bool t160, .int .i64 t161] 50 (0, 0)) (ts18_ BK163.out) hb); replace HB := Aside0.mk (below_step (ts32_ HB.out GE155.out GE163.out) hb); clear hb; have hcz22_0 : w21.cell? ⟨gb163, 0, none⟩ = some (.int .i64 t156) := (blk_cell BK163.out 0).trans rfl; have hcz22_1 : w21.cell? ⟨gb163, 1, none⟩ = some (.string t157) := (blk_cell BK163.out 1).trans rfl; have hcz22_2 : w21.cell? ⟨gb163, 2, none⟩ = some (.bool t158) := (blk_cell BK163.out 2).trans rfl; have hcz22_3 : w21.cell? ⟨gb163, 3, none⟩ = some (.bool t159) := (blk_cell BK163.out 3).trans rfl; have hcz22_4 : w21.cell? ⟨gb163, 4, none⟩ = some (.bool t160) := (blk_cell BK163.out 4).trans rfl; have hcz22_5 : w21.cell? ⟨gb163, 5, none⟩ = some (.int .i64 t161) := (blk_cell BK163.out 5).trans rfl; have hfz22_0 := blk_frozen BK163.out 0; have hfz22_1 := blk_frozen BK163.out 1; have hfz22_2 := blk_frozen BK163.out 2; have hfz22_3 := blk_frozen BK163.out 3; have hfz22_4 := blk_frozen BK163.out 4; have hfz22_5 := blk_frozen BK163.out 5; have hcz23_0 : w21.cell? ⟨gb155, 0, none⟩ = some (.int .i64 a0_0) := (blk_cell BK155.out 0).trans rfl; have hcz23_1 : w21.cell? ⟨gb155, 1, none⟩ = some (.int .i64 a0_1) := (blk_cell BK155.out 1).trans rfl; have hcz23_2 : w21.cell? ⟨gb155, 2, none⟩ = some (.int .i64 a0_2) := (blk_cell BK155.out 2).trans rfl; have hcz23_3 : w21.cell? ⟨gb155, 3, none⟩ = some (.int .i64 a0_3) := (blk_cell BK155.out 3).trans rfl; have hcz23_4 : w21.cell? ⟨gb155, 4, none⟩ = some (.int .i64 a0_4) := (blk_cell BK155.out 4).trans rfl; have hfz23_0 := blk_frozen BK155.out 0; have hfz23_1 := blk_frozen BK155.out 1; have hfz23_2 := blk_frozen BK155.out 2; have hfz23_3 := blk_frozen BK155.out 3; have hfz23_4 := blk_frozen BK155.out 4) | (go_at_call 73; (with_reducible refine (et_reg.calls a0_1 t166 _ A9.out).mono ?_); rintro e w24 ⟨rfl, hb⟩; replace BK155 := Aside0.mk (blk_below (g := gb155) (o := .cells #[.int .i64 a0_0, .int .i64 a0_1, .int .i64 a0_2, .int .i64 a0_3, .int .i64 a0_4] 26 (0, 0)) (ts18_ BK155.out) hb); replace BK163 := Aside0.mk (blk_below (g := gb163) (o := .cells #[.int .i64 t156, .string t157, .bool t158, .bool t159, .bool t160, .int .i64 t161] 50 (0, 0)) (ts18_ BK163.out) hb); replace HB := Aside0.mk (below_step (ts32_ HB.out GE155.out GE163.out) hb); clear hb) | ((with_reducible refine gate_dst (N := 69) rfl ?_); refine Kd.R_lit Kd.string _ 9 ?hg (N := 69) ?hd (xs := ([t166, ((t164 ++ (⟨#[40]⟩ : ByteArray)) ++ t165) ++ (⟨#[41]⟩ : ByteArray)] : List ByteArray)) (inner := [.string t166, .string (((t164 ++ (⟨#[40]⟩ : ByteArray)) ++ t165) ++ (⟨#[41]⟩ : ByteArray))]) (ok := fun _ => True) (okp := fun _ => True) ?hr ?hp (fun _ hk => hk) trivial (Below.refl _ _) (Nat.le_refl _) (by simp) ?_; (case hd => rfl); (case hg => rfl); (case hr => exact ts19_); (case hp => exact ts3_); intro v168 w25 ho26 hb hg_ hnew_; clear hg_ hnew_; (first | rw [← Ny167.out] at ho26 | (simp only [Int.reduceToNat] at ho26; rw [← Ny167.out] at ho26)); have HO169 := Aside0.mk (Kd.R_lower ho26 (below_size (ts32_ HB.out GE155.out GE163.out))); replace BK155 := Aside0.mk (blk_below (g := gb155) (o := .cells #[.int .i64 a0_0, .int .i64 a0_1, .int .i64 a0_2, .int .i64 a0_3, .int .i64 a0_4] 26 (0, 0)) (ts18_ BK155.out) hb); replace BK163 := Aside0.mk (blk_below (g := gb163) (o := .cells #[.int .i64 t156, .string t157, .bool t158, .bool t159, .bool t160, .int .i64 t161] 50 (0, 0)) (ts18_ BK163.out) hb); replace HB := Aside0.mk (below_step (ts32_ HB.out GE155.out GE163.out) hb); clear hb ho26; obtain ⟨Ao27, co27, eo27⟩ := Kd.R_slice HO169.out; subst eo27; have hcz28_0 : w25.cell? ⟨gb163, 0, none⟩ = some (.int .i64 t156) := (blk_cell BK163.out 0).trans rfl; have hcz28_1 : w25.cell? ⟨gb163, 1, none⟩ = some (.string t157) := (blk_cell BK163.out 1).trans rfl; have hcz28_2 : w25.cell? ⟨gb163, 2, none⟩ = some (.bool t158) := (blk_cell BK163.out 2).trans rfl; have hcz28_3 : w25.cell? ⟨gb163, 3, none⟩ = some (.bool t159) := (blk_cell BK163.out 3).trans rfl; have hcz28_4 : w25.cell? ⟨gb163, 4, none⟩ = some (.bool t160) := (blk_cell BK163.out 4).trans rfl; have hcz28_5 : w25.cell? ⟨gb163, 5, none⟩ = some (.int .i64 t161) := (blk_cell BK163.out 5).trans rfl; have hfz28_0 := blk_frozen BK163.out 0; have hfz28_1 := blk_frozen BK163.out 1; have hfz28_2 := blk_frozen BK163.out 2; have hfz28_3 := blk_frozen BK163.out 3; have hfz28_4 := blk_frozen BK163.out 4; have hfz28_5 := blk_frozen BK163.out 5))
       go_ret
       exact ⟨ts35_, ts32_ HB.out GE155.out GE163.out⟩
      rw [if_neg c11] at H
      exact absurd H (by simp)
     rw [if_neg c10] at H
     have c10b0 : ((y167.length : Int) == 0) = false := beq_eq_false_iff_ne.mpr c10
     have c10b1 : ((y167.length : Int) != 0) = true := bne_iff_ne.mpr c10
     have c10b2 : ¬ (y167 = []) := fun h_ => c10 (by rw [h_]; rfl)
     by_cases c29 : t157.size + 1 ≤ 9223372036854775807
     ·rw [if_pos c29] at H
      have c29b0 := eq_true c29
      have c29b1 : decide (t157.size + 1 ≤ 9223372036854775807) = true := decide_eq_true c29
      try have c29b2 : (9223372036854775807 < t157.size + 1) = False := eq_false (Nat.not_lt.2 c29)
      have c29b3 := c29b2
      try simp only [ByteArray.size_append, bsz1, bsz2, bsz3, bsz5, bsz6] at c29b3
      obtain ⟨t170, A30, H⟩ := bsA_ H
      try dsimp only at H
      by_cases c31 : (t157 ++ (⟨#[32]⟩ : ByteArray)).size + t170.size ≤ 9223372036854775807
      ·rw [if_pos c31] at H
       have c31b0 := eq_true c31
       have c31b1 : decide ((t157 ++ (⟨#[32]⟩ : ByteArray)).size + t170.size ≤ 9223372036854775807) = true := decide_eq_true c31
       try have c31b2 : (9223372036854775807 < (t157 ++ (⟨#[32]⟩ : ByteArray)).size + t170.size) = False := eq_false (Nat.not_lt.2 c31)
       have c31b3 := c31b2
       try simp only [ByteArray.size_append, bsz1, bsz2, bsz3, bsz5, bsz6] at c31b3
       by_cases c32 : ((t157 ++ (⟨#[32]⟩ : ByteArray)) ++ t170).size + 2 ≤ 9223372036854775807
       ·rw [if_pos c32] at H
        have c32b0 := eq_true c32
        have c32b1 : decide (((t157 ++ (⟨#[32]⟩ : ByteArray)) ++ t170).size + 2 ≤ 9223372036854775807) = true := decide_eq_true c32
        try have c32b2 : (9223372036854775807 < ((t157 ++ (⟨#[32]⟩ : ByteArray)) ++ t170).size + 2) = False := eq_false (Nat.not_lt.2 c32)
        have c32b3 := c32b2
        try simp only [ByteArray.size_append, bsz1, bsz2, bsz3, bsz5, bsz6] at c32b3
        obtain rfl := Option.some.inj H
        go_enter Tryd.func51, Tryd.ntmps51
        try go_wp2_with (first | ((with_reducible refine gate_dst (N := 1) rfl ?_); refine box_event ?hg (N := 1) ?hd (cs := #[.int .i64 a0_0, .int .i64 a0_1, .int .i64 a0_2, .int .i64 a0_3, .int .i64 a0_4]) (t := 26) ?hr ?_; (case hd => rfl); (case hg => rfl); (case hr => exact ts19_); intro gb155 hg w33 hbox hb; have BK155 := Aside0.mk (hbox); have GW155 := Aside0.mk ((ts63_ HB.out : w.heap.size ≤ gb155)); have GE155 := Aside0.mk ((ts63_ HB.out : w.heap.size ≤ gb155)); replace HB := Aside0.mk (below_step (ts47_ HB.out) hb); clear hb hbox hg; have hcz34_0 : w33.cell? ⟨gb155, 0, none⟩ = some (.int .i64 a0_0) := (blk_cell BK155.out 0).trans rfl; have hcz34_1 : w33.cell? ⟨gb155, 1, none⟩ = some (.int .i64 a0_1) := (blk_cell BK155.out 1).trans rfl; have hcz34_2 : w33.cell? ⟨gb155, 2, none⟩ = some (.int .i64 a0_2) := (blk_cell BK155.out 2).trans rfl; have hcz34_3 : w33.cell? ⟨gb155, 3, none⟩ = some (.int .i64 a0_3) := (blk_cell BK155.out 3).trans rfl; have hcz34_4 : w33.cell? ⟨gb155, 4, none⟩ = some (.int .i64 a0_4) := (blk_cell BK155.out 4).trans rfl; have hfz34_0 := blk_frozen BK155.out 0; have hfz34_1 := blk_frozen BK155.out 1; have hfz34_2 := blk_frozen BK155.out 2; have hfz34_3 := blk_frozen BK155.out 3; have hfz34_4 := blk_frozen BK155.out 4) | ((with_reducible refine gate_callee (f := 24) rfl ?_); refine goesL_ (some 12) rfl rfl Tryd.func24 (by kernel_rfl) rfl #[.int .i64 a0_0] rfl ts12_ ?_; (with_reducible refine (et_find.calls a0_0 t156 t157 t158 t159 t160 t161 t162 _ A2.out).mono ?_); rintro e w35 ⟨rfl, hb⟩; refine ⟨_, rfl, ?_⟩; replace BK155 := Aside0.mk (blk_below (g := gb155) (o := .cells #[.int .i64 a0_0, .int .i64 a0_1, .int .i64 a0_2, .int .i64 a0_3, .int .i64 a0_4] 26 (0, 0)) (ts18_ BK155.out) hb); replace HB := Aside0.mk (below_step (ts22_ HB.out GE155.out) hb); clear hb) | ((with_reducible refine gate_dst (N := 3) rfl ?_); refine box_event ?hg (N := 3) ?hd (cs := #[.int .i64 0, .string (⟨#[]⟩ : ByteArray), .bool false, .bool false, .bool false, .int .i64 0]) (t := 50) ?hr ?_; (case hd => rfl); (case hg => rfl); (case hr => exact ts19_); intro gb163 hg w36 hbox hb; have BK163 := Aside0.mk (hbox); have GW163 := Aside0.mk ((ts65_ HB.out GE155.out : w.heap.size ≤ gb163)); have GE163 := Aside0.mk ((ts65_ HB.out GE155.out : w.heap.size ≤ gb163)); replace HB := Aside0.mk (below_step (ts22_ HB.out GE155.out) hb); have NB155_163 := Aside0.mk ((ts50_ BK155.out : gb155 ≠ gb163)); have NB163_155 := Aside0.mk ((ts70_ BK155.out : gb163 ≠ gb155)); replace BK155 := Aside0.mk (blk_below (g := gb155) (o := .cells #[.int .i64 a0_0, .int .i64 a0_1, .int .i64 a0_2, .int .i64 a0_3, .int .i64 a0_4] 26 (0, 0)) (ts18_ BK155.out) hb); clear hb hbox hg; have hnb37 := NB163_155.out; have hnc37 := NB155_163.out; have hcz38_0 : w36.cell? ⟨gb163, 0, none⟩ = some (.int .i64 0) := (blk_cell BK163.out 0).trans rfl; have hcz38_1 : w36.cell? ⟨gb163, 1, none⟩ = some (.string (⟨#[]⟩ : ByteArray)) := (blk_cell BK163.out 1).trans rfl; have hcz38_2 : w36.cell? ⟨gb163, 2, none⟩ = some (.bool false) := (blk_cell BK163.out 2).trans rfl; have hcz38_3 : w36.cell? ⟨gb163, 3, none⟩ = some (.bool false) := (blk_cell BK163.out 3).trans rfl; have hcz38_4 : w36.cell? ⟨gb163, 4, none⟩ = some (.bool false) := (blk_cell BK163.out 4).trans rfl; have hcz38_5 : w36.cell? ⟨gb163, 5, none⟩ = some (.int .i64 0) := (blk_cell BK163.out 5).trans rfl; have hfz38_0 := blk_frozen BK163.out 0; have hfz38_1 := blk_frozen BK163.out 1; have hfz38_2 := blk_frozen BK163.out 2; have hfz38_3 := blk_frozen BK163.out 3; have hfz38_4 := blk_frozen BK163.out 4; have hfz38_5 := blk_frozen BK163.out 5; have hcz39_0 : w36.cell? ⟨gb155, 0, none⟩ = some (.int .i64 a0_0) := (blk_cell BK155.out 0).trans rfl; have hcz39_1 : w36.cell? ⟨gb155, 1, none⟩ = some (.int .i64 a0_1) := (blk_cell BK155.out 1).trans rfl; have hcz39_2 : w36.cell? ⟨gb155, 2, none⟩ = some (.int .i64 a0_2) := (blk_cell BK155.out 2).trans rfl; have hcz39_3 : w36.cell? ⟨gb155, 3, none⟩ = some (.int .i64 a0_3) := (blk_cell BK155.out 3).trans rfl; have hcz39_4 : w36.cell? ⟨gb155, 4, none⟩ = some (.int .i64 a0_4) := (blk_cell BK155.out 4).trans rfl; have hfz39_0 := blk_frozen BK155.out 0; have hfz39_1 := blk_frozen BK155.out 1; have hfz39_2 := blk_frozen BK155.out 2; have hfz39_3 := blk_frozen BK155.out 3; have hfz39_4 := blk_frozen BK155.out 4) | ((with_reducible refine gate_callee (f := 50) rfl ?_); refine goesL_ (some 17) rfl rfl Tryd.func50 (by kernel_rfl) rfl #[.int .i64 a0_4, .int .i64 10] rfl ts12_ ?_; (with_reducible refine (et_FormatInt.calls a0_4 10 t164 _ A3.out).mono ?_); rintro e w40 ⟨rfl, hb⟩; refine ⟨_, rfl, ?_⟩; replace BK155 := Aside0.mk (blk_below (g := gb155) (o := .cells #[.int .i64 a0_0, .int .i64 a0_1, .int .i64 a0_2, .int .i64 a0_3, .int .i64 a0_4] 26 (0, 0)) (ts24_ NB155_163.out BK155.out) hb); replace BK163 := Aside0.mk (blk_below (g := gb163) (o := .cells #[.int .i64 t156, .string t157, .bool t158, .bool t159, .bool t160, .int .i64 t161] 50 (0, 0)) (ts14_ BK163.out) hb); replace HB := Aside0.mk (below_step (ts32_ HB.out GE155.out GE163.out) hb); clear hb; have hcz41_0 : w40.cell? ⟨gb155, 0, none⟩ = some (.int .i64 a0_0) := (blk_cell BK155.out 0).trans rfl; have hcz41_1 : w40.cell? ⟨gb155, 1, none⟩ = some (.int .i64 a0_1) := (blk_cell BK155.out 1).trans rfl; have hcz41_2 : w40.cell? ⟨gb155, 2, none⟩ = some (.int .i64 a0_2) := (blk_cell BK155.out 2).trans rfl; have hcz41_3 : w40.cell? ⟨gb155, 3, none⟩ = some (.int .i64 a0_3) := (blk_cell BK155.out 3).trans rfl; have hcz41_4 : w40.cell? ⟨gb155, 4, none⟩ = some (.int .i64 a0_4) := (blk_cell BK155.out 4).trans rfl; have hfz41_0 := blk_frozen BK155.out 0; have hfz41_1 := blk_frozen BK155.out 1; have hfz41_2 := blk_frozen BK155.out 2; have hfz41_3 := blk_frozen BK155.out 3; have hfz41_4 := blk_frozen BK155.out 4) | (go_at_call 73; (with_reducible refine (et_reg.calls a0_2 t165 _ A5.out).mono ?_); rintro e w42 ⟨rfl, hb⟩; replace BK155 := Aside0.mk (blk_below (g := gb155) (o := .cells #[.int .i64 a0_0, .int .i64 a0_1, .int .i64 a0_2, .int .i64 a0_3, .int .i64 a0_4] 26 (0, 0)) (ts18_ BK155.out) hb); replace BK163 := Aside0.mk (blk_below (g := gb163) (o := .cells #[.int .i64 t156, .string t157, .bool t158, .bool t159, .bool t160, .int .i64 t161] 50 (0, 0)) (ts18_ BK163.out) hb); replace HB := Aside0.mk (below_step (ts32_ HB.out GE155.out GE163.out) hb); clear hb; have hcz43_0 : w42.cell? ⟨gb163, 0, none⟩ = some (.int .i64 t156) := (blk_cell BK163.out 0).trans rfl; have hcz43_1 : w42.cell? ⟨gb163, 1, none⟩ = some (.string t157) := (blk_cell BK163.out 1).trans rfl; have hcz43_2 : w42.cell? ⟨gb163, 2, none⟩ = some (.bool t158) := (blk_cell BK163.out 2).trans rfl; have hcz43_3 : w42.cell? ⟨gb163, 3, none⟩ = some (.bool t159) := (blk_cell BK163.out 3).trans rfl; have hcz43_4 : w42.cell? ⟨gb163, 4, none⟩ = some (.bool t160) := (blk_cell BK163.out 4).trans rfl; have hcz43_5 : w42.cell? ⟨gb163, 5, none⟩ = some (.int .i64 t161) := (blk_cell BK163.out 5).trans rfl; have hfz43_0 := blk_frozen BK163.out 0; have hfz43_1 := blk_frozen BK163.out 1; have hfz43_2 := blk_frozen BK163.out 2; have hfz43_3 := blk_frozen BK163.out 3; have hfz43_4 := blk_frozen BK163.out 4; have hfz43_5 := blk_frozen BK163.out 5; have hcz44_0 : w42.cell? ⟨gb155, 0, none⟩ = some (.int .i64 a0_0) := (blk_cell BK155.out 0).trans rfl; have hcz44_1 : w42.cell? ⟨gb155, 1, none⟩ = some (.int .i64 a0_1) := (blk_cell BK155.out 1).trans rfl; have hcz44_2 : w42.cell? ⟨gb155, 2, none⟩ = some (.int .i64 a0_2) := (blk_cell BK155.out 2).trans rfl; have hcz44_3 : w42.cell? ⟨gb155, 3, none⟩ = some (.int .i64 a0_3) := (blk_cell BK155.out 3).trans rfl; have hcz44_4 : w42.cell? ⟨gb155, 4, none⟩ = some (.int .i64 a0_4) := (blk_cell BK155.out 4).trans rfl; have hfz44_0 := blk_frozen BK155.out 0; have hfz44_1 := blk_frozen BK155.out 1; have hfz44_2 := blk_frozen BK155.out 2; have hfz44_3 := blk_frozen BK155.out 3; have hfz44_4 := blk_frozen BK155.out 4) | (go_at_call 73; (with_reducible refine (et_reg.calls a0_1 t166 _ A9.out).mono ?_); rintro e w45 ⟨rfl, hb⟩; replace BK155 := Aside0.mk (blk_below (g := gb155) (o := .cells #[.int .i64 a0_0, .int .i64 a0_1, .int .i64 a0_2, .int .i64 a0_3, .int .i64 a0_4] 26 (0, 0)) (ts18_ BK155.out) hb); replace BK163 := Aside0.mk (blk_below (g := gb163) (o := .cells #[.int .i64 t156, .string t157, .bool t158, .bool t159, .bool t160, .int .i64 t161] 50 (0, 0)) (ts18_ BK163.out) hb); replace HB := Aside0.mk (below_step (ts32_ HB.out GE155.out GE163.out) hb); clear hb) | ((with_reducible refine gate_dst (N := 69) rfl ?_); refine Kd.R_lit Kd.string _ 9 ?hg (N := 69) ?hd (xs := ([t166, ((t164 ++ (⟨#[40]⟩ : ByteArray)) ++ t165) ++ (⟨#[41]⟩ : ByteArray)] : List ByteArray)) (inner := [.string t166, .string (((t164 ++ (⟨#[40]⟩ : ByteArray)) ++ t165) ++ (⟨#[41]⟩ : ByteArray))]) (ok := fun _ => True) (okp := fun _ => True) ?hr ?hp (fun _ hk => hk) trivial (Below.refl _ _) (Nat.le_refl _) (by simp) ?_; (case hd => rfl); (case hg => rfl); (case hr => exact ts19_); (case hp => exact ts3_); intro v168 w46 ho47 hb hg_ hnew_; clear hg_ hnew_; (first | rw [← Ny167.out] at ho47 | (simp only [Int.reduceToNat] at ho47; rw [← Ny167.out] at ho47)); have HO169 := Aside0.mk (Kd.R_lower ho47 (below_size (ts32_ HB.out GE155.out GE163.out))); replace BK155 := Aside0.mk (blk_below (g := gb155) (o := .cells #[.int .i64 a0_0, .int .i64 a0_1, .int .i64 a0_2, .int .i64 a0_3, .int .i64 a0_4] 26 (0, 0)) (ts18_ BK155.out) hb); replace BK163 := Aside0.mk (blk_below (g := gb163) (o := .cells #[.int .i64 t156, .string t157, .bool t158, .bool t159, .bool t160, .int .i64 t161] 50 (0, 0)) (ts18_ BK163.out) hb); replace HB := Aside0.mk (below_step (ts32_ HB.out GE155.out GE163.out) hb); clear hb ho47; obtain ⟨Ao48, co48, eo48⟩ := Kd.R_slice HO169.out; subst eo48))
        have n0_ := Aside0.mk (Kd.R_drew HO169.out)
        have n1_ := Aside0.mk (blk_drew BK155.out)
        have n2_ := Aside0.mk (blk_drew BK163.out)
        have n3_ := Aside0.mk (below_drew1 HB.out)
        clear HO169
        clear BK155
        clear BK163
        clear HB
        have HO169 := n0_
        have BK155 := n1_
        have BK163 := n2_
        have HB := n3_
        clear n0_ n1_ n2_ n3_
        refine start_ (n := 8) (S := fun w' => w'.cell? ⟨gb163, 0, none⟩ = some (.int .i64 t156) ∧ w'.cell? ⟨gb163, 1, none⟩ = some (.string t157) ∧ w'.cell? ⟨gb163, 2, none⟩ = some (.bool t158) ∧ w'.cell? ⟨gb163, 3, none⟩ = some (.bool t159) ∧ w'.cell? ⟨gb163, 4, none⟩ = some (.bool t160) ∧ w'.cell? ⟨gb163, 5, none⟩ = some (.int .i64 t161)) (ds := []) #[false, false, false, false, false, false, false, false] (by kernel_rfl) rfl rfl ⟨(blk_cell BK163.out 0).trans rfl, (blk_cell BK163.out 1).trans rfl, (blk_cell BK163.out 2).trans rfl, (blk_cell BK163.out 3).trans rfl, (blk_cell BK163.out 4).trans rfl, (blk_cell BK163.out 5).trans rfl⟩ (fun hHeld => ?_); refine with_tabW target_line.tab21 target_line.bits21 (fun HT_ HW_ => ?_)
        generalize w46.drew = w49 at HO169 BK155 BK163 HB hHeld ⊢
        refine pure_ (i := 0) (N := some 84) (v := ?_) (a' := ?_) #[true, false, false, false, false, false, false, false] rfl rfl (any_of HT_.out (by kernel_rfl)) (fun _ _ _ h => h) (Or.inl ⟨by rfl, ?_⟩) ?_ ?_
        rotate_left
        ·intro w'
         go_simp
         with_reducible rfl
        rotate_left
        ·simp only [Act.put, List.setIfInBounds_toArray, List.set_cons_zero, List.set_cons_succ, i64_w, i32_w]
         rfl
        refine pure_ (i := 3) (N := some 87) (v := ?_) (a' := ?_) #[true, false, false, true, false, false, false, false] rfl rfl (any_of HT_.out (by kernel_rfl)) (fun _ _ _ h => h) (Or.inl ⟨by rfl, ?_⟩) ?_ ?_
        rotate_left
        ·intro w'
         go_simp
         with_reducible rfl
        rotate_left
        ·simp only [Act.put, List.setIfInBounds_toArray, List.set_cons_zero, List.set_cons_succ, i64_w, i32_w]
         rfl
        refine take_ (i := 1) (N := some 85) (v := ?_) (a' := ?_) #[true, true, false, true, false, false, false, false] rfl rfl (take_ofW HT_.out HW_.out (by kernel_rfl)) (fun _ _ _ h => h) (Or.inl ⟨by rfl, ?_⟩) hHeld ?_ ?_
        rotate_left
        ·rintro w' ⟨s0, s1, s2, s3, s4, s5⟩
         go_simp
         with_reducible rfl
        rotate_left
        ·simp only [Act.put, List.setIfInBounds_toArray, List.set_cons_zero, List.set_cons_succ, i64_w, i32_w]
         rfl
        refine pure_ (i := 2) (N := some 86) (v := ?_) (a' := ?_) #[true, true, true, true, false, false, false, false] rfl rfl (any_of HT_.out (by kernel_rfl)) (fun _ _ _ h => h) (Or.inl ⟨by rfl, ?_⟩) ?_ ?_
        rotate_left
        ·intro w'
         go_simp
         with_reducible rfl
        rotate_left
        ·simp only [Act.put, List.setIfInBounds_toArray, List.set_cons_zero, List.set_cons_succ, i64_w, i32_w]
         rfl
        refine one_ (i := 4) (N := some 88) #[true, true, true, true, true, false, false, false] rfl rfl (one_of HT_.out (by kernel_rfl)) (by decide) (fun K hK => ?_)
        refine goes_ Tryd.func74 (by kernel_rfl) rfl #[.slice Ao48 y167.length co48, .string (⟨#[44, 32]⟩ : ByteArray)] (by rfl) rfl rfl ts12_ ?_
        with_reducible refine (et_Join.calls _ _ y167 (⟨#[44, 32]⟩ : ByteArray) t170 _ ?side1 ?side2 A30.out).mono ?_
        (case side1 => exact ⟨_, _, ts25_ HO169.out⟩)
        (case side2 => exact ts48_ HO169.out)
        rintro e w50 ⟨rfl, hb⟩
        refine ⟨_, rfl, ?_⟩
        have n0_ := Aside0.mk (Kd.R_below (ts25_ HO169.out) hb)
        have n1_ := Aside0.mk (blk_below (g := gb155) (o := .cells #[.int .i64 a0_0, .int .i64 a0_1, .int .i64 a0_2, .int .i64 a0_3, .int .i64 a0_4] 26 (0, 0)) (ts18_ BK155.out) hb)
        have n2_ := Aside0.mk (blk_below (g := gb163) (o := .cells #[.int .i64 t156, .string t157, .bool t158, .bool t159, .bool t160, .int .i64 t161] 50 (0, 0)) (ts18_ BK163.out) hb)
        have n3_ := Aside0.mk (below_step (ts32_ HB.out GE155.out GE163.out) hb)
        clear HO169
        clear BK155
        clear BK163
        clear HB
        have HO169 := n0_
        have BK155 := n1_
        have BK163 := n2_
        have HB := n3_
        clear n0_ n1_ n2_ n3_
        (try clear hb)
        (try clear hb2)
        (try clear hk)
        (try clear hi)
        refine hK.out _ _ ⟨(blk_cell BK163.out 0).trans rfl, (blk_cell BK163.out 1).trans rfl, (blk_cell BK163.out 2).trans rfl, (blk_cell BK163.out 3).trans rfl, (blk_cell BK163.out 4).trans rfl, (blk_cell BK163.out 5).trans rfl⟩ (fun hHeld => ?_)
        clear hK K
        refine norm_ (a' := ?_) ?_ ?_
        rotate_left
        ·show Act.put _ (some 88) _ = _
         simp only [Act.put, List.setIfInBounds_toArray, List.set_cons_zero, List.set_cons_succ, i64_w, i32_w]
         rfl
        refine pure_ (i := 5) (N := some 89) (v := ?_) (a' := ?_) #[true, true, true, true, true, true, false, false] rfl rfl (any_of HT_.out (by kernel_rfl)) (fun _ _ _ h => h) (Or.inl ⟨by rfl, ?_⟩) ?_ ?_
        rotate_left
        ·intro w'
         go_simp
         with_reducible rfl
        rotate_left
        ·simp only [Act.put, List.setIfInBounds_toArray, List.set_cons_zero, List.set_cons_succ, i64_w, i32_w]
         rfl
        refine pure_ (i := 6) (N := some 90) (v := ?_) (a' := ?_) #[true, true, true, true, true, true, true, false] rfl rfl (any_of HT_.out (by kernel_rfl)) (fun _ _ _ h => h) (Or.inl ⟨by rfl, ?_⟩) ?_ ?_
        rotate_left
        ·intro w'
         go_simp
         with_reducible rfl
        rotate_left
        ·simp only [Act.put, List.setIfInBounds_toArray, List.set_cons_zero, List.set_cons_succ, i64_w, i32_w]
         rfl
        refine pure_ (i := 7) (N := some 2) (v := ?_) (a' := ?_) #[true, true, true, true, true, true, true, true] rfl rfl (any_of HT_.out (by kernel_rfl)) (fun _ _ _ h => h) (Or.inl ⟨by rfl, ?_⟩) ?_ ?_
        rotate_left
        ·intro w'
         go_simp
         with_reducible rfl
        rotate_left
        ·simp only [Act.put, List.setIfInBounds_toArray, List.set_cons_zero, List.set_cons_succ, i64_w, i32_w]
         rfl
        refine done_ (done_of HT_.out (by kernel_rfl)) ?_
        try go_wp2
        go_ret
        exact ⟨ts35_, ts32_ HB.out GE155.out GE163.out⟩
       rw [if_neg c32] at H
       exact absurd H (by simp)
      rw [if_neg c31] at H
      exact absurd H (by simp)
     rw [if_neg c29] at H
     exact absurd H (by simp)
    rw [if_neg c8] at H
    have c8b0 : (t156 == 4) = false := beq_eq_false_iff_ne.mpr c8
    have c8b1 : (t156 != 4) = true := bne_iff_ne.mpr c8
    by_cases c51 : t156 = 5
    ·rw [if_pos c51] at H
     have c51b0 : (t156 == 5) = true := beq_iff_eq.mpr c51
     have c51b1 : (t156 != 5) = false := bne_eq_false_iff_eq.mpr c51
     clear c51
     obtain ⟨t171, A52, H⟩ := bsA_ H
     try dsimp only at H
     obtain ⟨y172, hy172⟩ : ∃ y_ : List ByteArray, y_ = (([((t164 ++ (⟨#[40]⟩ : ByteArray)) ++ t165) ++ (⟨#[41]⟩ : ByteArray), t171] : List ByteArray)) := ⟨_, rfl⟩
     replace H : (if (y172.length : Int) = 0 then (if t157.size + 2 ≤ 9223372036854775807 then (some (t157 ++ (⟨#[59, 10]⟩ : ByteArray))) else (none)) else (if t157.size + 1 ≤ 9223372036854775807 then ((et_Join.f y172 (⟨#[44, 32]⟩ : ByteArray)).bind fun t175 => (if (t157 ++ (⟨#[32]⟩ : ByteArray)).size + t175.size ≤ 9223372036854775807 then (if ((t157 ++ (⟨#[32]⟩ : ByteArray)) ++ t175).size + 2 ≤ 9223372036854775807 then (some (((t157 ++ (⟨#[32]⟩ : ByteArray)) ++ t175) ++ (⟨#[59, 10]⟩ : ByteArray))) else (none)) else (none))) else (none))) = some r := by first | (rw [hy172]; with_reducible exact H) | (have H2_ := (Option.bind_some _ _).symm.trans H; rw [hy172]; with_reducible exact H2_) | (have H2_ := (Option.bind_some _ _).symm.trans H; with_reducible exact H2_) | with_reducible exact H | (rw [hy172]; exact H) | exact H
     have Ny172 := Aside0.mk hy172
     clear hy172
     by_cases c53 : (y172.length : Int) = 0
     ·rw [if_pos c53] at H
      have c53b0 : ((y172.length : Int) == 0) = true := beq_iff_eq.mpr c53
      have c53b1 : ((y172.length : Int) != 0) = false := bne_eq_false_iff_eq.mpr c53
      clear c53
      by_cases c54 : t157.size + 2 ≤ 9223372036854775807
      ·rw [if_pos c54] at H
       have c54b0 := eq_true c54
       have c54b1 : decide (t157.size + 2 ≤ 9223372036854775807) = true := decide_eq_true c54
       try have c54b2 : (9223372036854775807 < t157.size + 2) = False := eq_false (Nat.not_lt.2 c54)
       have c54b3 := c54b2
       try simp only [ByteArray.size_append, bsz1, bsz2, bsz3, bsz5, bsz6] at c54b3
       obtain rfl := Option.some.inj H
       go_enter Tryd.func51, Tryd.ntmps51
       go_wp2_with (first | ((with_reducible refine gate_dst (N := 1) rfl ?_); refine box_event ?hg (N := 1) ?hd (cs := #[.int .i64 a0_0, .int .i64 a0_1, .int .i64 a0_2, .int .i64 a0_3, .int .i64 a0_4]) (t := 26) ?hr ?_; (case hd => rfl); (case hg => rfl); (case hr => exact ts19_); intro gb155 hg w55 hbox hb; have BK155 := Aside0.mk (hbox); have GW155 := Aside0.mk ((ts63_ HB.out : w.heap.size ≤ gb155)); have GE155 := Aside0.mk ((ts63_ HB.out : w.heap.size ≤ gb155)); replace HB := Aside0.mk (below_step (ts47_ HB.out) hb); clear hb hbox hg; have hcz56_0 : w55.cell? ⟨gb155, 0, none⟩ = some (.int .i64 a0_0) := (blk_cell BK155.out 0).trans rfl; have hcz56_1 : w55.cell? ⟨gb155, 1, none⟩ = some (.int .i64 a0_1) := (blk_cell BK155.out 1).trans rfl; have hcz56_2 : w55.cell? ⟨gb155, 2, none⟩ = some (.int .i64 a0_2) := (blk_cell BK155.out 2).trans rfl; have hcz56_3 : w55.cell? ⟨gb155, 3, none⟩ = some (.int .i64 a0_3) := (blk_cell BK155.out 3).trans rfl; have hcz56_4 : w55.cell? ⟨gb155, 4, none⟩ = some (.int .i64 a0_4) := (blk_cell BK155.out 4).trans rfl; have hfz56_0 := blk_frozen BK155.out 0; have hfz56_1 := blk_frozen BK155.out 1; have hfz56_2 := blk_frozen BK155.out 2; have hfz56_3 := blk_frozen BK155.out 3; have hfz56_4 := blk_frozen BK155.out 4) | ((with_reducible refine gate_callee (f := 24) rfl ?_); refine goesL_ (some 12) rfl rfl Tryd.func24 (by kernel_rfl) rfl #[.int .i64 a0_0] rfl ts12_ ?_; (with_reducible refine (et_find.calls a0_0 t156 t157 t158 t159 t160 t161 t162 _ A2.out).mono ?_); rintro e w57 ⟨rfl, hb⟩; refine ⟨_, rfl, ?_⟩; replace BK155 := Aside0.mk (blk_below (g := gb155) (o := .cells #[.int .i64 a0_0, .int .i64 a0_1, .int .i64 a0_2, .int .i64 a0_3, .int .i64 a0_4] 26 (0, 0)) (ts18_ BK155.out) hb); replace HB := Aside0.mk (below_step (ts22_ HB.out GE155.out) hb); clear hb) | ((with_reducible refine gate_dst (N := 3) rfl ?_); refine box_event ?hg (N := 3) ?hd (cs := #[.int .i64 0, .string (⟨#[]⟩ : ByteArray), .bool false, .bool false, .bool false, .int .i64 0]) (t := 50) ?hr ?_; (case hd => rfl); (case hg => rfl); (case hr => exact ts19_); intro gb163 hg w58 hbox hb; have BK163 := Aside0.mk (hbox); have GW163 := Aside0.mk ((ts65_ HB.out GE155.out : w.heap.size ≤ gb163)); have GE163 := Aside0.mk ((ts65_ HB.out GE155.out : w.heap.size ≤ gb163)); replace HB := Aside0.mk (below_step (ts22_ HB.out GE155.out) hb); have NB155_163 := Aside0.mk ((ts50_ BK155.out : gb155 ≠ gb163)); have NB163_155 := Aside0.mk ((ts70_ BK155.out : gb163 ≠ gb155)); replace BK155 := Aside0.mk (blk_below (g := gb155) (o := .cells #[.int .i64 a0_0, .int .i64 a0_1, .int .i64 a0_2, .int .i64 a0_3, .int .i64 a0_4] 26 (0, 0)) (ts18_ BK155.out) hb); clear hb hbox hg; have hnb59 := NB163_155.out; have hnc59 := NB155_163.out; have hcz60_0 : w58.cell? ⟨gb163, 0, none⟩ = some (.int .i64 0) := (blk_cell BK163.out 0).trans rfl; have hcz60_1 : w58.cell? ⟨gb163, 1, none⟩ = some (.string (⟨#[]⟩ : ByteArray)) := (blk_cell BK163.out 1).trans rfl; have hcz60_2 : w58.cell? ⟨gb163, 2, none⟩ = some (.bool false) := (blk_cell BK163.out 2).trans rfl; have hcz60_3 : w58.cell? ⟨gb163, 3, none⟩ = some (.bool false) := (blk_cell BK163.out 3).trans rfl; have hcz60_4 : w58.cell? ⟨gb163, 4, none⟩ = some (.bool false) := (blk_cell BK163.out 4).trans rfl; have hcz60_5 : w58.cell? ⟨gb163, 5, none⟩ = some (.int .i64 0) := (blk_cell BK163.out 5).trans rfl; have hfz60_0 := blk_frozen BK163.out 0; have hfz60_1 := blk_frozen BK163.out 1; have hfz60_2 := blk_frozen BK163.out 2; have hfz60_3 := blk_frozen BK163.out 3; have hfz60_4 := blk_frozen BK163.out 4; have hfz60_5 := blk_frozen BK163.out 5; have hcz61_0 : w58.cell? ⟨gb155, 0, none⟩ = some (.int .i64 a0_0) := (blk_cell BK155.out 0).trans rfl; have hcz61_1 : w58.cell? ⟨gb155, 1, none⟩ = some (.int .i64 a0_1) := (blk_cell BK155.out 1).trans rfl; have hcz61_2 : w58.cell? ⟨gb155, 2, none⟩ = some (.int .i64 a0_2) := (blk_cell BK155.out 2).trans rfl; have hcz61_3 : w58.cell? ⟨gb155, 3, none⟩ = some (.int .i64 a0_3) := (blk_cell BK155.out 3).trans rfl; have hcz61_4 : w58.cell? ⟨gb155, 4, none⟩ = some (.int .i64 a0_4) := (blk_cell BK155.out 4).trans rfl; have hfz61_0 := blk_frozen BK155.out 0; have hfz61_1 := blk_frozen BK155.out 1; have hfz61_2 := blk_frozen BK155.out 2; have hfz61_3 := blk_frozen BK155.out 3; have hfz61_4 := blk_frozen BK155.out 4) | ((with_reducible refine gate_callee (f := 50) rfl ?_); refine goesL_ (some 17) rfl rfl Tryd.func50 (by kernel_rfl) rfl #[.int .i64 a0_4, .int .i64 10] rfl ts12_ ?_; (with_reducible refine (et_FormatInt.calls a0_4 10 t164 _ A3.out).mono ?_); rintro e w62 ⟨rfl, hb⟩; refine ⟨_, rfl, ?_⟩; replace BK155 := Aside0.mk (blk_below (g := gb155) (o := .cells #[.int .i64 a0_0, .int .i64 a0_1, .int .i64 a0_2, .int .i64 a0_3, .int .i64 a0_4] 26 (0, 0)) (ts24_ NB155_163.out BK155.out) hb); replace BK163 := Aside0.mk (blk_below (g := gb163) (o := .cells #[.int .i64 t156, .string t157, .bool t158, .bool t159, .bool t160, .int .i64 t161] 50 (0, 0)) (ts14_ BK163.out) hb); replace HB := Aside0.mk (below_step (ts32_ HB.out GE155.out GE163.out) hb); clear hb; have hcz63_0 : w62.cell? ⟨gb155, 0, none⟩ = some (.int .i64 a0_0) := (blk_cell BK155.out 0).trans rfl; have hcz63_1 : w62.cell? ⟨gb155, 1, none⟩ = some (.int .i64 a0_1) := (blk_cell BK155.out 1).trans rfl; have hcz63_2 : w62.cell? ⟨gb155, 2, none⟩ = some (.int .i64 a0_2) := (blk_cell BK155.out 2).trans rfl; have hcz63_3 : w62.cell? ⟨gb155, 3, none⟩ = some (.int .i64 a0_3) := (blk_cell BK155.out 3).trans rfl; have hcz63_4 : w62.cell? ⟨gb155, 4, none⟩ = some (.int .i64 a0_4) := (blk_cell BK155.out 4).trans rfl; have hfz63_0 := blk_frozen BK155.out 0; have hfz63_1 := blk_frozen BK155.out 1; have hfz63_2 := blk_frozen BK155.out 2; have hfz63_3 := blk_frozen BK155.out 3; have hfz63_4 := blk_frozen BK155.out 4) | (go_at_call 73; (with_reducible refine (et_reg.calls a0_2 t165 _ A5.out).mono ?_); rintro e w64 ⟨rfl, hb⟩; replace BK155 := Aside0.mk (blk_below (g := gb155) (o := .cells #[.int .i64 a0_0, .int .i64 a0_1, .int .i64 a0_2, .int .i64 a0_3, .int .i64 a0_4] 26 (0, 0)) (ts18_ BK155.out) hb); replace BK163 := Aside0.mk (blk_below (g := gb163) (o := .cells #[.int .i64 t156, .string t157, .bool t158, .bool t159, .bool t160, .int .i64 t161] 50 (0, 0)) (ts18_ BK163.out) hb); replace HB := Aside0.mk (below_step (ts32_ HB.out GE155.out GE163.out) hb); clear hb; have hcz65_0 : w64.cell? ⟨gb163, 0, none⟩ = some (.int .i64 t156) := (blk_cell BK163.out 0).trans rfl; have hcz65_1 : w64.cell? ⟨gb163, 1, none⟩ = some (.string t157) := (blk_cell BK163.out 1).trans rfl; have hcz65_2 : w64.cell? ⟨gb163, 2, none⟩ = some (.bool t158) := (blk_cell BK163.out 2).trans rfl; have hcz65_3 : w64.cell? ⟨gb163, 3, none⟩ = some (.bool t159) := (blk_cell BK163.out 3).trans rfl; have hcz65_4 : w64.cell? ⟨gb163, 4, none⟩ = some (.bool t160) := (blk_cell BK163.out 4).trans rfl; have hcz65_5 : w64.cell? ⟨gb163, 5, none⟩ = some (.int .i64 t161) := (blk_cell BK163.out 5).trans rfl; have hfz65_0 := blk_frozen BK163.out 0; have hfz65_1 := blk_frozen BK163.out 1; have hfz65_2 := blk_frozen BK163.out 2; have hfz65_3 := blk_frozen BK163.out 3; have hfz65_4 := blk_frozen BK163.out 4; have hfz65_5 := blk_frozen BK163.out 5; have hcz66_0 : w64.cell? ⟨gb155, 0, none⟩ = some (.int .i64 a0_0) := (blk_cell BK155.out 0).trans rfl; have hcz66_1 : w64.cell? ⟨gb155, 1, none⟩ = some (.int .i64 a0_1) := (blk_cell BK155.out 1).trans rfl; have hcz66_2 : w64.cell? ⟨gb155, 2, none⟩ = some (.int .i64 a0_2) := (blk_cell BK155.out 2).trans rfl; have hcz66_3 : w64.cell? ⟨gb155, 3, none⟩ = some (.int .i64 a0_3) := (blk_cell BK155.out 3).trans rfl; have hcz66_4 : w64.cell? ⟨gb155, 4, none⟩ = some (.int .i64 a0_4) := (blk_cell BK155.out 4).trans rfl; have hfz66_0 := blk_frozen BK155.out 0; have hfz66_1 := blk_frozen BK155.out 1; have hfz66_2 := blk_frozen BK155.out 2; have hfz66_3 := blk_frozen BK155.out 3; have hfz66_4 := blk_frozen BK155.out 4) | (go_at_call 73; (with_reducible refine (et_reg.calls a0_3 t171 _ A52.out).mono ?_); rintro e w67 ⟨rfl, hb⟩; replace BK155 := Aside0.mk (blk_below (g := gb155) (o := .cells #[.int .i64 a0_0, .int .i64 a0_1, .int .i64 a0_2, .int .i64 a0_3, .int .i64 a0_4] 26 (0, 0)) (ts18_ BK155.out) hb); replace BK163 := Aside0.mk (blk_below (g := gb163) (o := .cells #[.int .i64 t156, .string t157, .bool t158, .bool t159, .bool t160, .int .i64 t161] 50 (0, 0)) (ts18_ BK163.out) hb); replace HB := Aside0.mk (below_step (ts32_ HB.out GE155.out GE163.out) hb); clear hb) | ((with_reducible refine gate_dst (N := 77) rfl ?_); refine Kd.R_lit Kd.string _ 9 ?hg (N := 77) ?hd (xs := ([((t164 ++ (⟨#[40]⟩ : ByteArray)) ++ t165) ++ (⟨#[41]⟩ : ByteArray), t171] : List ByteArray)) (inner := [.string (((t164 ++ (⟨#[40]⟩ : ByteArray)) ++ t165) ++ (⟨#[41]⟩ : ByteArray)), .string t171]) (ok := fun _ => True) (okp := fun _ => True) ?hr ?hp (fun _ hk => hk) trivial (Below.refl _ _) (Nat.le_refl _) (by simp) ?_; (case hd => rfl); (case hg => rfl); (case hr => exact ts19_); (case hp => exact ts23_); intro v173 w68 ho69 hb hg_ hnew_; clear hg_ hnew_; (first | rw [← Ny172.out] at ho69 | (simp only [Int.reduceToNat] at ho69; rw [← Ny172.out] at ho69)); have HO174 := Aside0.mk (Kd.R_lower ho69 (below_size (ts32_ HB.out GE155.out GE163.out))); replace BK155 := Aside0.mk (blk_below (g := gb155) (o := .cells #[.int .i64 a0_0, .int .i64 a0_1, .int .i64 a0_2, .int .i64 a0_3, .int .i64 a0_4] 26 (0, 0)) (ts18_ BK155.out) hb); replace BK163 := Aside0.mk (blk_below (g := gb163) (o := .cells #[.int .i64 t156, .string t157, .bool t158, .bool t159, .bool t160, .int .i64 t161] 50 (0, 0)) (ts18_ BK163.out) hb); replace HB := Aside0.mk (below_step (ts32_ HB.out GE155.out GE163.out) hb); clear hb ho69; obtain ⟨Ao70, co70, eo70⟩ := Kd.R_slice HO174.out; subst eo70; have hcz71_0 : w68.cell? ⟨gb163, 0, none⟩ = some (.int .i64 t156) := (blk_cell BK163.out 0).trans rfl; have hcz71_1 : w68.cell? ⟨gb163, 1, none⟩ = some (.string t157) := (blk_cell BK163.out 1).trans rfl; have hcz71_2 : w68.cell? ⟨gb163, 2, none⟩ = some (.bool t158) := (blk_cell BK163.out 2).trans rfl; have hcz71_3 : w68.cell? ⟨gb163, 3, none⟩ = some (.bool t159) := (blk_cell BK163.out 3).trans rfl; have hcz71_4 : w68.cell? ⟨gb163, 4, none⟩ = some (.bool t160) := (blk_cell BK163.out 4).trans rfl; have hcz71_5 : w68.cell? ⟨gb163, 5, none⟩ = some (.int .i64 t161) := (blk_cell BK163.out 5).trans rfl; have hfz71_0 := blk_frozen BK163.out 0; have hfz71_1 := blk_frozen BK163.out 1; have hfz71_2 := blk_frozen BK163.out 2; have hfz71_3 := blk_frozen BK163.out 3; have hfz71_4 := blk_frozen BK163.out 4; have hfz71_5 := blk_frozen BK163.out 5))
       go_ret
       exact ⟨ts35_, ts32_ HB.out GE155.out GE163.out⟩
      rw [if_neg c54] at H
      exact absurd H (by simp)
     rw [if_neg c53] at H
     have c53b0 : ((y172.length : Int) == 0) = false := beq_eq_false_iff_ne.mpr c53
     have c53b1 : ((y172.length : Int) != 0) = true := bne_iff_ne.mpr c53
     have c53b2 : ¬ (y172 = []) := fun h_ => c53 (by rw [h_]; rfl)
     by_cases c72 : t157.size + 1 ≤ 9223372036854775807
     ·rw [if_pos c72] at H
      have c72b0 := eq_true c72
      have c72b1 : decide (t157.size + 1 ≤ 9223372036854775807) = true := decide_eq_true c72
      try have c72b2 : (9223372036854775807 < t157.size + 1) = False := eq_false (Nat.not_lt.2 c72)
      have c72b3 := c72b2
      try simp only [ByteArray.size_append, bsz1, bsz2, bsz3, bsz5, bsz6] at c72b3
      obtain ⟨t175, A73, H⟩ := bsA_ H
      try dsimp only at H
      by_cases c74 : (t157 ++ (⟨#[32]⟩ : ByteArray)).size + t175.size ≤ 9223372036854775807
      ·rw [if_pos c74] at H
       have c74b0 := eq_true c74
       have c74b1 : decide ((t157 ++ (⟨#[32]⟩ : ByteArray)).size + t175.size ≤ 9223372036854775807) = true := decide_eq_true c74
       try have c74b2 : (9223372036854775807 < (t157 ++ (⟨#[32]⟩ : ByteArray)).size + t175.size) = False := eq_false (Nat.not_lt.2 c74)
       have c74b3 := c74b2
       try simp only [ByteArray.size_append, bsz1, bsz2, bsz3, bsz5, bsz6] at c74b3
       by_cases c75 : ((t157 ++ (⟨#[32]⟩ : ByteArray)) ++ t175).size + 2 ≤ 9223372036854775807
       ·rw [if_pos c75] at H
        have c75b0 := eq_true c75
        have c75b1 : decide (((t157 ++ (⟨#[32]⟩ : ByteArray)) ++ t175).size + 2 ≤ 9223372036854775807) = true := decide_eq_true c75
        try have c75b2 : (9223372036854775807 < ((t157 ++ (⟨#[32]⟩ : ByteArray)) ++ t175).size + 2) = False := eq_false (Nat.not_lt.2 c75)
        have c75b3 := c75b2
        try simp only [ByteArray.size_append, bsz1, bsz2, bsz3, bsz5, bsz6] at c75b3
        obtain rfl := Option.some.inj H
        go_enter Tryd.func51, Tryd.ntmps51
        try go_wp2_with (first | ((with_reducible refine gate_dst (N := 1) rfl ?_); refine box_event ?hg (N := 1) ?hd (cs := #[.int .i64 a0_0, .int .i64 a0_1, .int .i64 a0_2, .int .i64 a0_3, .int .i64 a0_4]) (t := 26) ?hr ?_; (case hd => rfl); (case hg => rfl); (case hr => exact ts19_); intro gb155 hg w76 hbox hb; have BK155 := Aside0.mk (hbox); have GW155 := Aside0.mk ((ts63_ HB.out : w.heap.size ≤ gb155)); have GE155 := Aside0.mk ((ts63_ HB.out : w.heap.size ≤ gb155)); replace HB := Aside0.mk (below_step (ts47_ HB.out) hb); clear hb hbox hg; have hcz77_0 : w76.cell? ⟨gb155, 0, none⟩ = some (.int .i64 a0_0) := (blk_cell BK155.out 0).trans rfl; have hcz77_1 : w76.cell? ⟨gb155, 1, none⟩ = some (.int .i64 a0_1) := (blk_cell BK155.out 1).trans rfl; have hcz77_2 : w76.cell? ⟨gb155, 2, none⟩ = some (.int .i64 a0_2) := (blk_cell BK155.out 2).trans rfl; have hcz77_3 : w76.cell? ⟨gb155, 3, none⟩ = some (.int .i64 a0_3) := (blk_cell BK155.out 3).trans rfl; have hcz77_4 : w76.cell? ⟨gb155, 4, none⟩ = some (.int .i64 a0_4) := (blk_cell BK155.out 4).trans rfl; have hfz77_0 := blk_frozen BK155.out 0; have hfz77_1 := blk_frozen BK155.out 1; have hfz77_2 := blk_frozen BK155.out 2; have hfz77_3 := blk_frozen BK155.out 3; have hfz77_4 := blk_frozen BK155.out 4) | ((with_reducible refine gate_callee (f := 24) rfl ?_); refine goesL_ (some 12) rfl rfl Tryd.func24 (by kernel_rfl) rfl #[.int .i64 a0_0] rfl ts12_ ?_; (with_reducible refine (et_find.calls a0_0 t156 t157 t158 t159 t160 t161 t162 _ A2.out).mono ?_); rintro e w78 ⟨rfl, hb⟩; refine ⟨_, rfl, ?_⟩; replace BK155 := Aside0.mk (blk_below (g := gb155) (o := .cells #[.int .i64 a0_0, .int .i64 a0_1, .int .i64 a0_2, .int .i64 a0_3, .int .i64 a0_4] 26 (0, 0)) (ts18_ BK155.out) hb); replace HB := Aside0.mk (below_step (ts22_ HB.out GE155.out) hb); clear hb) | ((with_reducible refine gate_dst (N := 3) rfl ?_); refine box_event ?hg (N := 3) ?hd (cs := #[.int .i64 0, .string (⟨#[]⟩ : ByteArray), .bool false, .bool false, .bool false, .int .i64 0]) (t := 50) ?hr ?_; (case hd => rfl); (case hg => rfl); (case hr => exact ts19_); intro gb163 hg w79 hbox hb; have BK163 := Aside0.mk (hbox); have GW163 := Aside0.mk ((ts65_ HB.out GE155.out : w.heap.size ≤ gb163)); have GE163 := Aside0.mk ((ts65_ HB.out GE155.out : w.heap.size ≤ gb163)); replace HB := Aside0.mk (below_step (ts22_ HB.out GE155.out) hb); have NB155_163 := Aside0.mk ((ts50_ BK155.out : gb155 ≠ gb163)); have NB163_155 := Aside0.mk ((ts70_ BK155.out : gb163 ≠ gb155)); replace BK155 := Aside0.mk (blk_below (g := gb155) (o := .cells #[.int .i64 a0_0, .int .i64 a0_1, .int .i64 a0_2, .int .i64 a0_3, .int .i64 a0_4] 26 (0, 0)) (ts18_ BK155.out) hb); clear hb hbox hg; have hnb80 := NB163_155.out; have hnc80 := NB155_163.out; have hcz81_0 : w79.cell? ⟨gb163, 0, none⟩ = some (.int .i64 0) := (blk_cell BK163.out 0).trans rfl; have hcz81_1 : w79.cell? ⟨gb163, 1, none⟩ = some (.string (⟨#[]⟩ : ByteArray)) := (blk_cell BK163.out 1).trans rfl; have hcz81_2 : w79.cell? ⟨gb163, 2, none⟩ = some (.bool false) := (blk_cell BK163.out 2).trans rfl; have hcz81_3 : w79.cell? ⟨gb163, 3, none⟩ = some (.bool false) := (blk_cell BK163.out 3).trans rfl; have hcz81_4 : w79.cell? ⟨gb163, 4, none⟩ = some (.bool false) := (blk_cell BK163.out 4).trans rfl; have hcz81_5 : w79.cell? ⟨gb163, 5, none⟩ = some (.int .i64 0) := (blk_cell BK163.out 5).trans rfl; have hfz81_0 := blk_frozen BK163.out 0; have hfz81_1 := blk_frozen BK163.out 1; have hfz81_2 := blk_frozen BK163.out 2; have hfz81_3 := blk_frozen BK163.out 3; have hfz81_4 := blk_frozen BK163.out 4; have hfz81_5 := blk_frozen BK163.out 5; have hcz82_0 : w79.cell? ⟨gb155, 0, none⟩ = some (.int .i64 a0_0) := (blk_cell BK155.out 0).trans rfl; have hcz82_1 : w79.cell? ⟨gb155, 1, none⟩ = some (.int .i64 a0_1) := (blk_cell BK155.out 1).trans rfl; have hcz82_2 : w79.cell? ⟨gb155, 2, none⟩ = some (.int .i64 a0_2) := (blk_cell BK155.out 2).trans rfl; have hcz82_3 : w79.cell? ⟨gb155, 3, none⟩ = some (.int .i64 a0_3) := (blk_cell BK155.out 3).trans rfl; have hcz82_4 : w79.cell? ⟨gb155, 4, none⟩ = some (.int .i64 a0_4) := (blk_cell BK155.out 4).trans rfl; have hfz82_0 := blk_frozen BK155.out 0; have hfz82_1 := blk_frozen BK155.out 1; have hfz82_2 := blk_frozen BK155.out 2; have hfz82_3 := blk_frozen BK155.out 3; have hfz82_4 := blk_frozen BK155.out 4) | ((with_reducible refine gate_callee (f := 50) rfl ?_); refine goesL_ (some 17) rfl rfl Tryd.func50 (by kernel_rfl) rfl #[.int .i64 a0_4, .int .i64 10] rfl ts12_ ?_; (with_reducible refine (et_FormatInt.calls a0_4 10 t164 _ A3.out).mono ?_); rintro e w83 ⟨rfl, hb⟩; refine ⟨_, rfl, ?_⟩; replace BK155 := Aside0.mk (blk_below (g := gb155) (o := .cells #[.int .i64 a0_0, .int .i64 a0_1, .int .i64 a0_2, .int .i64 a0_3, .int .i64 a0_4] 26 (0, 0)) (ts24_ NB155_163.out BK155.out) hb); replace BK163 := Aside0.mk (blk_below (g := gb163) (o := .cells #[.int .i64 t156, .string t157, .bool t158, .bool t159, .bool t160, .int .i64 t161] 50 (0, 0)) (ts14_ BK163.out) hb); replace HB := Aside0.mk (below_step (ts32_ HB.out GE155.out GE163.out) hb); clear hb; have hcz84_0 : w83.cell? ⟨gb155, 0, none⟩ = some (.int .i64 a0_0) := (blk_cell BK155.out 0).trans rfl; have hcz84_1 : w83.cell? ⟨gb155, 1, none⟩ = some (.int .i64 a0_1) := (blk_cell BK155.out 1).trans rfl; have hcz84_2 : w83.cell? ⟨gb155, 2, none⟩ = some (.int .i64 a0_2) := (blk_cell BK155.out 2).trans rfl; have hcz84_3 : w83.cell? ⟨gb155, 3, none⟩ = some (.int .i64 a0_3) := (blk_cell BK155.out 3).trans rfl; have hcz84_4 : w83.cell? ⟨gb155, 4, none⟩ = some (.int .i64 a0_4) := (blk_cell BK155.out 4).trans rfl; have hfz84_0 := blk_frozen BK155.out 0; have hfz84_1 := blk_frozen BK155.out 1; have hfz84_2 := blk_frozen BK155.out 2; have hfz84_3 := blk_frozen BK155.out 3; have hfz84_4 := blk_frozen BK155.out 4) | (go_at_call 73; (with_reducible refine (et_reg.calls a0_2 t165 _ A5.out).mono ?_); rintro e w85 ⟨rfl, hb⟩; replace BK155 := Aside0.mk (blk_below (g := gb155) (o := .cells #[.int .i64 a0_0, .int .i64 a0_1, .int .i64 a0_2, .int .i64 a0_3, .int .i64 a0_4] 26 (0, 0)) (ts18_ BK155.out) hb); replace BK163 := Aside0.mk (blk_below (g := gb163) (o := .cells #[.int .i64 t156, .string t157, .bool t158, .bool t159, .bool t160, .int .i64 t161] 50 (0, 0)) (ts18_ BK163.out) hb); replace HB := Aside0.mk (below_step (ts32_ HB.out GE155.out GE163.out) hb); clear hb; have hcz86_0 : w85.cell? ⟨gb163, 0, none⟩ = some (.int .i64 t156) := (blk_cell BK163.out 0).trans rfl; have hcz86_1 : w85.cell? ⟨gb163, 1, none⟩ = some (.string t157) := (blk_cell BK163.out 1).trans rfl; have hcz86_2 : w85.cell? ⟨gb163, 2, none⟩ = some (.bool t158) := (blk_cell BK163.out 2).trans rfl; have hcz86_3 : w85.cell? ⟨gb163, 3, none⟩ = some (.bool t159) := (blk_cell BK163.out 3).trans rfl; have hcz86_4 : w85.cell? ⟨gb163, 4, none⟩ = some (.bool t160) := (blk_cell BK163.out 4).trans rfl; have hcz86_5 : w85.cell? ⟨gb163, 5, none⟩ = some (.int .i64 t161) := (blk_cell BK163.out 5).trans rfl; have hfz86_0 := blk_frozen BK163.out 0; have hfz86_1 := blk_frozen BK163.out 1; have hfz86_2 := blk_frozen BK163.out 2; have hfz86_3 := blk_frozen BK163.out 3; have hfz86_4 := blk_frozen BK163.out 4; have hfz86_5 := blk_frozen BK163.out 5; have hcz87_0 : w85.cell? ⟨gb155, 0, none⟩ = some (.int .i64 a0_0) := (blk_cell BK155.out 0).trans rfl; have hcz87_1 : w85.cell? ⟨gb155, 1, none⟩ = some (.int .i64 a0_1) := (blk_cell BK155.out 1).trans rfl; have hcz87_2 : w85.cell? ⟨gb155, 2, none⟩ = some (.int .i64 a0_2) := (blk_cell BK155.out 2).trans rfl; have hcz87_3 : w85.cell? ⟨gb155, 3, none⟩ = some (.int .i64 a0_3) := (blk_cell BK155.out 3).trans rfl; have hcz87_4 : w85.cell? ⟨gb155, 4, none⟩ = some (.int .i64 a0_4) := (blk_cell BK155.out 4).trans rfl; have hfz87_0 := blk_frozen BK155.out 0; have hfz87_1 := blk_frozen BK155.out 1; have hfz87_2 := blk_frozen BK155.out 2; have hfz87_3 := blk_frozen BK155.out 3; have hfz87_4 := blk_frozen BK155.out 4) | (go_at_call 73; (with_reducible refine (et_reg.calls a0_3 t171 _ A52.out).mono ?_); rintro e w88 ⟨rfl, hb⟩; replace BK155 := Aside0.mk (blk_below (g := gb155) (o := .cells #[.int .i64 a0_0, .int .i64 a0_1, .int .i64 a0_2, .int .i64 a0_3, .int .i64 a0_4] 26 (0, 0)) (ts18_ BK155.out) hb); replace BK163 := Aside0.mk (blk_below (g := gb163) (o := .cells #[.int .i64 t156, .string t157, .bool t158, .bool t159, .bool t160, .int .i64 t161] 50 (0, 0)) (ts18_ BK163.out) hb); replace HB := Aside0.mk (below_step (ts32_ HB.out GE155.out GE163.out) hb); clear hb) | ((with_reducible refine gate_dst (N := 77) rfl ?_); refine Kd.R_lit Kd.string _ 9 ?hg (N := 77) ?hd (xs := ([((t164 ++ (⟨#[40]⟩ : ByteArray)) ++ t165) ++ (⟨#[41]⟩ : ByteArray), t171] : List ByteArray)) (inner := [.string (((t164 ++ (⟨#[40]⟩ : ByteArray)) ++ t165) ++ (⟨#[41]⟩ : ByteArray)), .string t171]) (ok := fun _ => True) (okp := fun _ => True) ?hr ?hp (fun _ hk => hk) trivial (Below.refl _ _) (Nat.le_refl _) (by simp) ?_; (case hd => rfl); (case hg => rfl); (case hr => exact ts19_); (case hp => exact ts23_); intro v173 w89 ho90 hb hg_ hnew_; clear hg_ hnew_; (first | rw [← Ny172.out] at ho90 | (simp only [Int.reduceToNat] at ho90; rw [← Ny172.out] at ho90)); have HO174 := Aside0.mk (Kd.R_lower ho90 (below_size (ts32_ HB.out GE155.out GE163.out))); replace BK155 := Aside0.mk (blk_below (g := gb155) (o := .cells #[.int .i64 a0_0, .int .i64 a0_1, .int .i64 a0_2, .int .i64 a0_3, .int .i64 a0_4] 26 (0, 0)) (ts18_ BK155.out) hb); replace BK163 := Aside0.mk (blk_below (g := gb163) (o := .cells #[.int .i64 t156, .string t157, .bool t158, .bool t159, .bool t160, .int .i64 t161] 50 (0, 0)) (ts18_ BK163.out) hb); replace HB := Aside0.mk (below_step (ts32_ HB.out GE155.out GE163.out) hb); clear hb ho90; obtain ⟨Ao91, co91, eo91⟩ := Kd.R_slice HO174.out; subst eo91))
        have n0_ := Aside0.mk (Kd.R_drew HO174.out)
        have n1_ := Aside0.mk (blk_drew BK155.out)
        have n2_ := Aside0.mk (blk_drew BK163.out)
        have n3_ := Aside0.mk (below_drew1 HB.out)
        clear HO174
        clear BK155
        clear BK163
        clear HB
        have HO174 := n0_
        have BK155 := n1_
        have BK163 := n2_
        have HB := n3_
        clear n0_ n1_ n2_ n3_
        refine start_ (n := 8) (S := fun w' => w'.cell? ⟨gb163, 0, none⟩ = some (.int .i64 t156) ∧ w'.cell? ⟨gb163, 1, none⟩ = some (.string t157) ∧ w'.cell? ⟨gb163, 2, none⟩ = some (.bool t158) ∧ w'.cell? ⟨gb163, 3, none⟩ = some (.bool t159) ∧ w'.cell? ⟨gb163, 4, none⟩ = some (.bool t160) ∧ w'.cell? ⟨gb163, 5, none⟩ = some (.int .i64 t161)) (ds := []) #[false, false, false, false, false, false, false, false] (by kernel_rfl) rfl rfl ⟨(blk_cell BK163.out 0).trans rfl, (blk_cell BK163.out 1).trans rfl, (blk_cell BK163.out 2).trans rfl, (blk_cell BK163.out 3).trans rfl, (blk_cell BK163.out 4).trans rfl, (blk_cell BK163.out 5).trans rfl⟩ (fun hHeld => ?_); refine with_tabW target_line.tab21 target_line.bits21 (fun HT_ HW_ => ?_)
        generalize w89.drew = w92 at HO174 BK155 BK163 HB hHeld ⊢
        refine pure_ (i := 0) (N := some 84) (v := ?_) (a' := ?_) #[true, false, false, false, false, false, false, false] rfl rfl (any_of HT_.out (by kernel_rfl)) (fun _ _ _ h => h) (Or.inl ⟨by rfl, ?_⟩) ?_ ?_
        rotate_left
        ·intro w'
         go_simp
         with_reducible rfl
        rotate_left
        ·simp only [Act.put, List.setIfInBounds_toArray, List.set_cons_zero, List.set_cons_succ, i64_w, i32_w]
         rfl
        refine pure_ (i := 3) (N := some 87) (v := ?_) (a' := ?_) #[true, false, false, true, false, false, false, false] rfl rfl (any_of HT_.out (by kernel_rfl)) (fun _ _ _ h => h) (Or.inl ⟨by rfl, ?_⟩) ?_ ?_
        rotate_left
        ·intro w'
         go_simp
         with_reducible rfl
        rotate_left
        ·simp only [Act.put, List.setIfInBounds_toArray, List.set_cons_zero, List.set_cons_succ, i64_w, i32_w]
         rfl
        refine take_ (i := 1) (N := some 85) (v := ?_) (a' := ?_) #[true, true, false, true, false, false, false, false] rfl rfl (take_ofW HT_.out HW_.out (by kernel_rfl)) (fun _ _ _ h => h) (Or.inl ⟨by rfl, ?_⟩) hHeld ?_ ?_
        rotate_left
        ·rintro w' ⟨s0, s1, s2, s3, s4, s5⟩
         go_simp
         with_reducible rfl
        rotate_left
        ·simp only [Act.put, List.setIfInBounds_toArray, List.set_cons_zero, List.set_cons_succ, i64_w, i32_w]
         rfl
        refine pure_ (i := 2) (N := some 86) (v := ?_) (a' := ?_) #[true, true, true, true, false, false, false, false] rfl rfl (any_of HT_.out (by kernel_rfl)) (fun _ _ _ h => h) (Or.inl ⟨by rfl, ?_⟩) ?_ ?_
        rotate_left
        ·intro w'
         go_simp
         with_reducible rfl
        rotate_left
        ·simp only [Act.put, List.setIfInBounds_toArray, List.set_cons_zero, List.set_cons_succ, i64_w, i32_w]
         rfl
        refine one_ (i := 4) (N := some 88) #[true, true, true, true, true, false, false, false] rfl rfl (one_of HT_.out (by kernel_rfl)) (by decide) (fun K hK => ?_)
        refine goes_ Tryd.func74 (by kernel_rfl) rfl #[.slice Ao91 y172.length co91, .string (⟨#[44, 32]⟩ : ByteArray)] (by rfl) rfl rfl ts12_ ?_
        with_reducible refine (et_Join.calls _ _ y172 (⟨#[44, 32]⟩ : ByteArray) t175 _ ?side1 ?side2 A73.out).mono ?_
        (case side1 => exact ⟨_, _, ts25_ HO174.out⟩)
        (case side2 => exact ts48_ HO174.out)
        rintro e w93 ⟨rfl, hb⟩
        refine ⟨_, rfl, ?_⟩
        have n0_ := Aside0.mk (Kd.R_below (ts25_ HO174.out) hb)
        have n1_ := Aside0.mk (blk_below (g := gb155) (o := .cells #[.int .i64 a0_0, .int .i64 a0_1, .int .i64 a0_2, .int .i64 a0_3, .int .i64 a0_4] 26 (0, 0)) (ts18_ BK155.out) hb)
        have n2_ := Aside0.mk (blk_below (g := gb163) (o := .cells #[.int .i64 t156, .string t157, .bool t158, .bool t159, .bool t160, .int .i64 t161] 50 (0, 0)) (ts18_ BK163.out) hb)
        have n3_ := Aside0.mk (below_step (ts32_ HB.out GE155.out GE163.out) hb)
        clear HO174
        clear BK155
        clear BK163
        clear HB
        have HO174 := n0_
        have BK155 := n1_
        have BK163 := n2_
        have HB := n3_
        clear n0_ n1_ n2_ n3_
        (try clear hb)
        (try clear hb2)
        (try clear hk)
        (try clear hi)
        refine hK.out _ _ ⟨(blk_cell BK163.out 0).trans rfl, (blk_cell BK163.out 1).trans rfl, (blk_cell BK163.out 2).trans rfl, (blk_cell BK163.out 3).trans rfl, (blk_cell BK163.out 4).trans rfl, (blk_cell BK163.out 5).trans rfl⟩ (fun hHeld => ?_)
        clear hK K
        refine norm_ (a' := ?_) ?_ ?_
        rotate_left
        ·show Act.put _ (some 88) _ = _
         simp only [Act.put, List.setIfInBounds_toArray, List.set_cons_zero, List.set_cons_succ, i64_w, i32_w]
         rfl
        refine pure_ (i := 5) (N := some 89) (v := ?_) (a' := ?_) #[true, true, true, true, true, true, false, false] rfl rfl (any_of HT_.out (by kernel_rfl)) (fun _ _ _ h => h) (Or.inl ⟨by rfl, ?_⟩) ?_ ?_
        rotate_left
        ·intro w'
         go_simp
         with_reducible rfl
        rotate_left
        ·simp only [Act.put, List.setIfInBounds_toArray, List.set_cons_zero, List.set_cons_succ, i64_w, i32_w]
         rfl
        refine pure_ (i := 6) (N := some 90) (v := ?_) (a' := ?_) #[true, true, true, true, true, true, true, false] rfl rfl (any_of HT_.out (by kernel_rfl)) (fun _ _ _ h => h) (Or.inl ⟨by rfl, ?_⟩) ?_ ?_
        rotate_left
        ·intro w'
         go_simp
         with_reducible rfl
        rotate_left
        ·simp only [Act.put, List.setIfInBounds_toArray, List.set_cons_zero, List.set_cons_succ, i64_w, i32_w]
         rfl
        refine pure_ (i := 7) (N := some 2) (v := ?_) (a' := ?_) #[true, true, true, true, true, true, true, true] rfl rfl (any_of HT_.out (by kernel_rfl)) (fun _ _ _ h => h) (Or.inl ⟨by rfl, ?_⟩) ?_ ?_
        rotate_left
        ·intro w'
         go_simp
         with_reducible rfl
        rotate_left
        ·simp only [Act.put, List.setIfInBounds_toArray, List.set_cons_zero, List.set_cons_succ, i64_w, i32_w]
         rfl
        refine done_ (done_of HT_.out (by kernel_rfl)) ?_
        try go_wp2
        go_ret
        exact ⟨ts35_, ts32_ HB.out GE155.out GE163.out⟩
       rw [if_neg c75] at H
       exact absurd H (by simp)
      rw [if_neg c74] at H
      exact absurd H (by simp)
     rw [if_neg c72] at H
     exact absurd H (by simp)
    rw [if_neg c51] at H
    have c51b0 : (t156 == 5) = false := beq_eq_false_iff_ne.mpr c51
    have c51b1 : (t156 != 5) = true := bne_iff_ne.mpr c51
    have HC94 := Aside0.mk H
    clear H
    go_enter Tryd.func51, Tryd.ntmps51
    go_upto_if 29 with (first | ((with_reducible refine gate_dst (N := 1) rfl ?_); refine box_event ?hg (N := 1) ?hd (cs := #[.int .i64 a0_0, .int .i64 a0_1, .int .i64 a0_2, .int .i64 a0_3, .int .i64 a0_4]) (t := 26) ?hr ?_; (case hd => rfl); (case hg => rfl); (case hr => exact ts19_); intro gb155 hg w95 hbox hb; have BK155 := Aside0.mk (hbox); have GW155 := Aside0.mk ((ts63_ HB.out : w.heap.size ≤ gb155)); have GE155 := Aside0.mk ((ts63_ HB.out : w.heap.size ≤ gb155)); replace HB := Aside0.mk (below_step (ts47_ HB.out) hb); clear hb hbox hg; have hcz96_0 : w95.cell? ⟨gb155, 0, none⟩ = some (.int .i64 a0_0) := (blk_cell BK155.out 0).trans rfl; have hcz96_1 : w95.cell? ⟨gb155, 1, none⟩ = some (.int .i64 a0_1) := (blk_cell BK155.out 1).trans rfl; have hcz96_2 : w95.cell? ⟨gb155, 2, none⟩ = some (.int .i64 a0_2) := (blk_cell BK155.out 2).trans rfl; have hcz96_3 : w95.cell? ⟨gb155, 3, none⟩ = some (.int .i64 a0_3) := (blk_cell BK155.out 3).trans rfl; have hcz96_4 : w95.cell? ⟨gb155, 4, none⟩ = some (.int .i64 a0_4) := (blk_cell BK155.out 4).trans rfl; have hfz96_0 := blk_frozen BK155.out 0; have hfz96_1 := blk_frozen BK155.out 1; have hfz96_2 := blk_frozen BK155.out 2; have hfz96_3 := blk_frozen BK155.out 3; have hfz96_4 := blk_frozen BK155.out 4) | ((with_reducible refine gate_callee (f := 24) rfl ?_); refine goesL_ (some 12) rfl rfl Tryd.func24 (by kernel_rfl) rfl #[.int .i64 a0_0] rfl ts12_ ?_; (with_reducible refine (et_find.calls a0_0 t156 t157 t158 t159 t160 t161 t162 _ A2.out).mono ?_); rintro e w97 ⟨rfl, hb⟩; refine ⟨_, rfl, ?_⟩; replace BK155 := Aside0.mk (blk_below (g := gb155) (o := .cells #[.int .i64 a0_0, .int .i64 a0_1, .int .i64 a0_2, .int .i64 a0_3, .int .i64 a0_4] 26 (0, 0)) (ts18_ BK155.out) hb); replace HB := Aside0.mk (below_step (ts22_ HB.out GE155.out) hb); clear hb) | ((with_reducible refine gate_dst (N := 3) rfl ?_); refine box_event ?hg (N := 3) ?hd (cs := #[.int .i64 0, .string (⟨#[]⟩ : ByteArray), .bool false, .bool false, .bool false, .int .i64 0]) (t := 50) ?hr ?_; (case hd => rfl); (case hg => rfl); (case hr => exact ts19_); intro gb163 hg w98 hbox hb; have BK163 := Aside0.mk (hbox); have GW163 := Aside0.mk ((ts65_ HB.out GE155.out : w.heap.size ≤ gb163)); have GE163 := Aside0.mk ((ts65_ HB.out GE155.out : w.heap.size ≤ gb163)); replace HB := Aside0.mk (below_step (ts22_ HB.out GE155.out) hb); have NB155_163 := Aside0.mk ((ts50_ BK155.out : gb155 ≠ gb163)); have NB163_155 := Aside0.mk ((ts70_ BK155.out : gb163 ≠ gb155)); replace BK155 := Aside0.mk (blk_below (g := gb155) (o := .cells #[.int .i64 a0_0, .int .i64 a0_1, .int .i64 a0_2, .int .i64 a0_3, .int .i64 a0_4] 26 (0, 0)) (ts18_ BK155.out) hb); clear hb hbox hg; have hnb99 := NB163_155.out; have hnc99 := NB155_163.out; have hcz100_0 : w98.cell? ⟨gb163, 0, none⟩ = some (.int .i64 0) := (blk_cell BK163.out 0).trans rfl; have hcz100_1 : w98.cell? ⟨gb163, 1, none⟩ = some (.string (⟨#[]⟩ : ByteArray)) := (blk_cell BK163.out 1).trans rfl; have hcz100_2 : w98.cell? ⟨gb163, 2, none⟩ = some (.bool false) := (blk_cell BK163.out 2).trans rfl; have hcz100_3 : w98.cell? ⟨gb163, 3, none⟩ = some (.bool false) := (blk_cell BK163.out 3).trans rfl; have hcz100_4 : w98.cell? ⟨gb163, 4, none⟩ = some (.bool false) := (blk_cell BK163.out 4).trans rfl; have hcz100_5 : w98.cell? ⟨gb163, 5, none⟩ = some (.int .i64 0) := (blk_cell BK163.out 5).trans rfl; have hfz100_0 := blk_frozen BK163.out 0; have hfz100_1 := blk_frozen BK163.out 1; have hfz100_2 := blk_frozen BK163.out 2; have hfz100_3 := blk_frozen BK163.out 3; have hfz100_4 := blk_frozen BK163.out 4; have hfz100_5 := blk_frozen BK163.out 5; have hcz101_0 : w98.cell? ⟨gb155, 0, none⟩ = some (.int .i64 a0_0) := (blk_cell BK155.out 0).trans rfl; have hcz101_1 : w98.cell? ⟨gb155, 1, none⟩ = some (.int .i64 a0_1) := (blk_cell BK155.out 1).trans rfl; have hcz101_2 : w98.cell? ⟨gb155, 2, none⟩ = some (.int .i64 a0_2) := (blk_cell BK155.out 2).trans rfl; have hcz101_3 : w98.cell? ⟨gb155, 3, none⟩ = some (.int .i64 a0_3) := (blk_cell BK155.out 3).trans rfl; have hcz101_4 : w98.cell? ⟨gb155, 4, none⟩ = some (.int .i64 a0_4) := (blk_cell BK155.out 4).trans rfl; have hfz101_0 := blk_frozen BK155.out 0; have hfz101_1 := blk_frozen BK155.out 1; have hfz101_2 := blk_frozen BK155.out 2; have hfz101_3 := blk_frozen BK155.out 3; have hfz101_4 := blk_frozen BK155.out 4) | ((with_reducible refine gate_callee (f := 50) rfl ?_); refine goesL_ (some 17) rfl rfl Tryd.func50 (by kernel_rfl) rfl #[.int .i64 a0_4, .int .i64 10] rfl ts12_ ?_; (with_reducible refine (et_FormatInt.calls a0_4 10 t164 _ A3.out).mono ?_); rintro e w102 ⟨rfl, hb⟩; refine ⟨_, rfl, ?_⟩; replace BK155 := Aside0.mk (blk_below (g := gb155) (o := .cells #[.int .i64 a0_0, .int .i64 a0_1, .int .i64 a0_2, .int .i64 a0_3, .int .i64 a0_4] 26 (0, 0)) (ts24_ NB155_163.out BK155.out) hb); replace BK163 := Aside0.mk (blk_below (g := gb163) (o := .cells #[.int .i64 t156, .string t157, .bool t158, .bool t159, .bool t160, .int .i64 t161] 50 (0, 0)) (ts14_ BK163.out) hb); replace HB := Aside0.mk (below_step (ts32_ HB.out GE155.out GE163.out) hb); clear hb; have hcz103_0 : w102.cell? ⟨gb155, 0, none⟩ = some (.int .i64 a0_0) := (blk_cell BK155.out 0).trans rfl; have hcz103_1 : w102.cell? ⟨gb155, 1, none⟩ = some (.int .i64 a0_1) := (blk_cell BK155.out 1).trans rfl; have hcz103_2 : w102.cell? ⟨gb155, 2, none⟩ = some (.int .i64 a0_2) := (blk_cell BK155.out 2).trans rfl; have hcz103_3 : w102.cell? ⟨gb155, 3, none⟩ = some (.int .i64 a0_3) := (blk_cell BK155.out 3).trans rfl; have hcz103_4 : w102.cell? ⟨gb155, 4, none⟩ = some (.int .i64 a0_4) := (blk_cell BK155.out 4).trans rfl; have hfz103_0 := blk_frozen BK155.out 0; have hfz103_1 := blk_frozen BK155.out 1; have hfz103_2 := blk_frozen BK155.out 2; have hfz103_3 := blk_frozen BK155.out 3; have hfz103_4 := blk_frozen BK155.out 4) | (go_at_call 73; (with_reducible refine (et_reg.calls a0_2 t165 _ A5.out).mono ?_); rintro e w104 ⟨rfl, hb⟩; replace BK155 := Aside0.mk (blk_below (g := gb155) (o := .cells #[.int .i64 a0_0, .int .i64 a0_1, .int .i64 a0_2, .int .i64 a0_3, .int .i64 a0_4] 26 (0, 0)) (ts18_ BK155.out) hb); replace BK163 := Aside0.mk (blk_below (g := gb163) (o := .cells #[.int .i64 t156, .string t157, .bool t158, .bool t159, .bool t160, .int .i64 t161] 50 (0, 0)) (ts18_ BK163.out) hb); replace HB := Aside0.mk (below_step (ts32_ HB.out GE155.out GE163.out) hb); clear hb; have hcz105_0 : w104.cell? ⟨gb163, 0, none⟩ = some (.int .i64 t156) := (blk_cell BK163.out 0).trans rfl; have hcz105_1 : w104.cell? ⟨gb163, 1, none⟩ = some (.string t157) := (blk_cell BK163.out 1).trans rfl; have hcz105_2 : w104.cell? ⟨gb163, 2, none⟩ = some (.bool t158) := (blk_cell BK163.out 2).trans rfl; have hcz105_3 : w104.cell? ⟨gb163, 3, none⟩ = some (.bool t159) := (blk_cell BK163.out 3).trans rfl; have hcz105_4 : w104.cell? ⟨gb163, 4, none⟩ = some (.bool t160) := (blk_cell BK163.out 4).trans rfl; have hcz105_5 : w104.cell? ⟨gb163, 5, none⟩ = some (.int .i64 t161) := (blk_cell BK163.out 5).trans rfl; have hfz105_0 := blk_frozen BK163.out 0; have hfz105_1 := blk_frozen BK163.out 1; have hfz105_2 := blk_frozen BK163.out 2; have hfz105_3 := blk_frozen BK163.out 3; have hfz105_4 := blk_frozen BK163.out 4; have hfz105_5 := blk_frozen BK163.out 5))
    (try simp only [Act.put, List.setIfInBounds_toArray, List.set_cons_zero, List.set_cons_succ])
    go_cut [8] (fun v8 wc => ∃ (kq : Nat) (x8_93 : List ByteArray), Aside0 (target_line.j0 kq t164 x8_93 a0_0 a0_1 a0_2 a0_3 a0_4 t156 t157 t158 t159 t160 t161 = some r) ∧ Aside0 (kq ≤ k) ∧ Aside0 (Kd.R Kd.string 9 wc w.heap.size (fun _ => True) v8 x8_93) ∧ Aside0 (wc.heap[gb155]? = some (.cells #[.int .i64 a0_0, .int .i64 a0_1, .int .i64 a0_2, .int .i64 a0_3, .int .i64 a0_4] 26 (0, 0))) ∧ Aside0 (wc.heap[gb163]? = some (.cells #[.int .i64 t156, .string t157, .bool t158, .bool t159, .bool t160, .int .i64 t161] 50 (0, 0))) ∧ Aside0 (Below w.heap.size w wc))
    case first =>
     have H := HC94.out
     clear HC94
     by_cases c106 : t158 = true
     ·subst c106
      rw [if_pos rfl] at H
      obtain ⟨t176, A107, H⟩ := bsA_ H
      try dsimp only at H
      by_cases c108 : ([] : List ByteArray).length < 8796093022208
      ·rw [if_pos c108] at H
       have LMc108 := Aside0.mk c108
       clear c108
       obtain ⟨y177, hy177⟩ : ∃ y_ : List ByteArray, y_ = (([] : List ByteArray) ++ [t176]) := ⟨_, rfl⟩
       replace H : (target_line.j0 k t164 y177 a0_0 a0_1 a0_2 a0_3 a0_4 t156 t157 true t159 t160 t161) = some r := by first | (rw [hy177]; with_reducible exact H) | (have H2_ := (Option.bind_some _ _).symm.trans H; rw [hy177]; with_reducible exact H2_) | (have H2_ := (Option.bind_some _ _).symm.trans H; with_reducible exact H2_) | with_reducible exact H | (rw [hy177]; exact H) | exact H
       have Ny177 := Aside0.mk hy177
       clear hy177
       have H' := Aside0.mk H
       clear H
       have hnb109 := NB155_163.out
       have hnc109 := NB163_155.out
       have hcz110_0 : w104.cell? ⟨gb155, 0, none⟩ = some (.int .i64 a0_0) := (blk_cell BK155.out 0).trans rfl
       have hcz110_1 : w104.cell? ⟨gb155, 1, none⟩ = some (.int .i64 a0_1) := (blk_cell BK155.out 1).trans rfl
       have hcz110_2 : w104.cell? ⟨gb155, 2, none⟩ = some (.int .i64 a0_2) := (blk_cell BK155.out 2).trans rfl
       have hcz110_3 : w104.cell? ⟨gb155, 3, none⟩ = some (.int .i64 a0_3) := (blk_cell BK155.out 3).trans rfl
       have hcz110_4 : w104.cell? ⟨gb155, 4, none⟩ = some (.int .i64 a0_4) := (blk_cell BK155.out 4).trans rfl
       have hfz110_0 := blk_frozen BK155.out 0
       have hfz110_1 := blk_frozen BK155.out 1
       have hfz110_2 := blk_frozen BK155.out 2
       have hfz110_3 := blk_frozen BK155.out 3
       have hfz110_4 := blk_frozen BK155.out 4
       go_wp2_with (first | (go_at_call 73; (with_reducible refine (et_reg.calls a0_1 t176 _ A107.out).mono ?_); rintro e w111 ⟨rfl, hb⟩; replace BK155 := Aside0.mk (blk_below (g := gb155) (o := .cells #[.int .i64 a0_0, .int .i64 a0_1, .int .i64 a0_2, .int .i64 a0_3, .int .i64 a0_4] 26 (0, 0)) (ts18_ BK155.out) hb); replace BK163 := Aside0.mk (blk_below (g := gb163) (o := .cells #[.int .i64 t156, .string t157, .bool true, .bool t159, .bool t160, .int .i64 t161] 50 (0, 0)) (ts18_ BK163.out) hb); replace HB := Aside0.mk (below_step (ts32_ HB.out GE155.out GE163.out) hb); clear hb) | ((with_reducible refine gate_builtin (b := .append) (xs := #[.tmp 30, .tmp 35]) rfl ?_); at_builtin; refine Kd.R_append Kd.string (w0 := w) w.heap.size rfl (.tmp 30) (.tmp 35) 108 9 (.string ⟨#[]⟩) 16 rfl Tryd.underlying108 info9 rfl (by decide) (by omega) (.slice none 0 0) ([] : List ByteArray) t176 [.string t176] (fun _ => True) (fun _ => False) rfl rfl ?aP (fun _ hk => hk.elim) ?aF ?aO ?aB ?aS ?aL ?_; (case aP => exact rfl); (case aB => exact (ts32_ HB.out GE155.out GE163.out)); (case aF => exact (fun _ _ => trivial)); (case aO => exact ((Kd.R_nil _ _ _ _ (fun _ => True)))); (case aS => exact (below_size (ts32_ HB.out GE155.out GE163.out))); (case aL => have := LMc108.out; omega); intro v178 w112 ho hb hg hat; rw [← Ny177.out] at ho; replace BK155 := Aside0.mk (blk_grown (g := gb155) (o := .cells #[.int .i64 a0_0, .int .i64 a0_1, .int .i64 a0_2, .int .i64 a0_3, .int .i64 a0_4] 26 (0, 0)) (ts18_ BK155.out) hg (by simp [Value.ownBlock])); replace BK163 := Aside0.mk (blk_grown (g := gb163) (o := .cells #[.int .i64 t156, .string t157, .bool true, .bool t159, .bool t160, .int .i64 t161] 50 (0, 0)) (ts18_ BK163.out) hg (by simp [Value.ownBlock])); replace HB := Aside0.mk (hb); have HO179 := Aside0.mk (ho); clear ho hb hg hat))
       go_meet
       case rel => exact ⟨_, (y177), H', ⟨ts1_⟩, ⟨ts25_ HO179.out⟩, ⟨ts18_ BK155.out⟩, ⟨ts18_ BK163.out⟩, ⟨ts32_ HB.out GE155.out GE163.out⟩⟩
      rw [if_neg c108] at H
      exact absurd H (by simp)
     replace c106 := Bool.eq_false_iff.mpr c106
     subst c106
     rw [if_neg Bool.false_ne_true] at H
     have H' := Aside0.mk H
     clear H
     go_wp2
     go_meet
     case rel => exact ⟨_, (([] : List ByteArray)), H', ⟨ts1_⟩, ⟨ts27_⟩, ⟨ts18_ BK155.out⟩, ⟨ts18_ BK163.out⟩, ⟨ts32_ HB.out GE155.out GE163.out⟩⟩
    case rest =>
     clear HC94
     try clear c1
     try clear c2
     try clear p2
     try clear c3
     try clear c4
     try clear c4b0
     try clear c4b1
     try clear c4b2
     try clear c5
     try clear c6
     try clear c6b0
     try clear c6b1
     try clear c6b2
     try clear c7
     try clear c7b0
     try clear c7b1
     try clear c7b2
     try clear c8
     try clear c8b0
     try clear c8b1
     try clear c9
     try clear c10
     try clear c10b0
     try clear c10b1
     try clear c10b2
     try clear c11
     try clear c11b0
     try clear c11b1
     try clear c11b2
     try clear c16
     try clear c24
     try clear c29
     try clear c29b0
     try clear c29b1
     try clear c29b2
     try clear c31
     try clear c31b0
     try clear c31b1
     try clear c31b2
     try clear c32
     try clear c32b0
     try clear c32b1
     try clear c32b2
     try clear c37
     try clear c50
     try clear c51
     try clear c51b0
     try clear c51b1
     try clear c53
     try clear c53b0
     try clear c53b1
     try clear c53b2
     try clear c54
     try clear c54b0
     try clear c54b1
     try clear c54b2
     try clear c59
     try clear c72
     try clear c72b0
     try clear c72b1
     try clear c72b2
     try clear c73
     try clear c74
     try clear c74b0
     try clear c74b1
     try clear c74b2
     try clear c75
     try clear c75b0
     try clear c75b1
     try clear c75b2
     try clear c80
     try clear c99
     try clear c106
     try clear c108
     try clear c109
     try clear hcz100_0
     try clear hcz100_1
     try clear hcz100_2
     try clear hcz100_3
     try clear hcz100_4
     try clear hcz100_5
     try clear hcz101_0
     try clear hcz101_1
     try clear hcz101_2
     try clear hcz101_3
     try clear hcz101_4
     try clear hcz103_0
     try clear hcz103_1
     try clear hcz103_2
     try clear hcz103_3
     try clear hcz103_4
     try clear hcz105_0
     try clear hcz105_1
     try clear hcz105_2
     try clear hcz105_3
     try clear hcz105_4
     try clear hcz105_5
     try clear hcz110_0
     try clear hcz110_1
     try clear hcz110_2
     try clear hcz110_3
     try clear hcz110_4
     try clear hcz13_0
     try clear hcz13_1
     try clear hcz13_2
     try clear hcz13_3
     try clear hcz13_4
     try clear hcz17_0
     try clear hcz17_1
     try clear hcz17_2
     try clear hcz17_3
     try clear hcz17_4
     try clear hcz17_5
     try clear hcz18_0
     try clear hcz18_1
     try clear hcz18_2
     try clear hcz18_3
     try clear hcz18_4
     try clear hcz20_0
     try clear hcz20_1
     try clear hcz20_2
     try clear hcz20_3
     try clear hcz20_4
     try clear hcz22_0
     try clear hcz22_1
     try clear hcz22_2
     try clear hcz22_3
     try clear hcz22_4
     try clear hcz22_5
     try clear hcz23_0
     try clear hcz23_1
     try clear hcz23_2
     try clear hcz23_3
     try clear hcz23_4
     try clear hcz28_0
     try clear hcz28_1
     try clear hcz28_2
     try clear hcz28_3
     try clear hcz28_4
     try clear hcz28_5
     try clear hcz34_0
     try clear hcz34_1
     try clear hcz34_2
     try clear hcz34_3
     try clear hcz34_4
     try clear hcz38_0
     try clear hcz38_1
     try clear hcz38_2
     try clear hcz38_3
     try clear hcz38_4
     try clear hcz38_5
     try clear hcz39_0
     try clear hcz39_1
     try clear hcz39_2
     try clear hcz39_3
     try clear hcz39_4
     try clear hcz41_0
     try clear hcz41_1
     try clear hcz41_2
     try clear hcz41_3
     try clear hcz41_4
     try clear hcz43_0
     try clear hcz43_1
     try clear hcz43_2
     try clear hcz43_3
     try clear hcz43_4
     try clear hcz43_5
     try clear hcz44_0
     try clear hcz44_1
     try clear hcz44_2
     try clear hcz44_3
     try clear hcz44_4
     try clear hcz56_0
     try clear hcz56_1
     try clear hcz56_2
     try clear hcz56_3
     try clear hcz56_4
     try clear hcz60_0
     try clear hcz60_1
     try clear hcz60_2
     try clear hcz60_3
     try clear hcz60_4
     try clear hcz60_5
     try clear hcz61_0
     try clear hcz61_1
     try clear hcz61_2
     try clear hcz61_3
     try clear hcz61_4
     try clear hcz63_0
     try clear hcz63_1
     try clear hcz63_2
     try clear hcz63_3
     try clear hcz63_4
     try clear hcz65_0
     try clear hcz65_1
     try clear hcz65_2
     try clear hcz65_3
     try clear hcz65_4
     try clear hcz65_5
     try clear hcz66_0
     try clear hcz66_1
     try clear hcz66_2
     try clear hcz66_3
     try clear hcz66_4
     try clear hcz71_0
     try clear hcz71_1
     try clear hcz71_2
     try clear hcz71_3
     try clear hcz71_4
     try clear hcz71_5
     try clear hcz77_0
     try clear hcz77_1
     try clear hcz77_2
     try clear hcz77_3
     try clear hcz77_4
     try clear hcz81_0
     try clear hcz81_1
     try clear hcz81_2
     try clear hcz81_3
     try clear hcz81_4
     try clear hcz81_5
     try clear hcz82_0
     try clear hcz82_1
     try clear hcz82_2
     try clear hcz82_3
     try clear hcz82_4
     try clear hcz84_0
     try clear hcz84_1
     try clear hcz84_2
     try clear hcz84_3
     try clear hcz84_4
     try clear hcz86_0
     try clear hcz86_1
     try clear hcz86_2
     try clear hcz86_3
     try clear hcz86_4
     try clear hcz86_5
     try clear hcz87_0
     try clear hcz87_1
     try clear hcz87_2
     try clear hcz87_3
     try clear hcz87_4
     try clear hcz96_0
     try clear hcz96_1
     try clear hcz96_2
     try clear hcz96_3
     try clear hcz96_4
     try clear hfz100_0
     try clear hfz100_1
     try clear hfz100_2
     try clear hfz100_3
     try clear hfz100_4
     try clear hfz100_5
     try clear hfz101_0
     try clear hfz101_1
     try clear hfz101_2
     try clear hfz101_3
     try clear hfz101_4
     try clear hfz103_0
     try clear hfz103_1
     try clear hfz103_2
     try clear hfz103_3
     try clear hfz103_4
     try clear hfz105_0
     try clear hfz105_1
     try clear hfz105_2
     try clear hfz105_3
     try clear hfz105_4
     try clear hfz105_5
     try clear hfz110_0
     try clear hfz110_1
     try clear hfz110_2
     try clear hfz110_3
     try clear hfz110_4
     try clear hfz13_0
     try clear hfz13_1
     try clear hfz13_2
     try clear hfz13_3
     try clear hfz13_4
     try clear hfz17_0
     try clear hfz17_1
     try clear hfz17_2
     try clear hfz17_3
     try clear hfz17_4
     try clear hfz17_5
     try clear hfz18_0
     try clear hfz18_1
     try clear hfz18_2
     try clear hfz18_3
     try clear hfz18_4
     try clear hfz20_0
     try clear hfz20_1
     try clear hfz20_2
     try clear hfz20_3
     try clear hfz20_4
     try clear hfz22_0
     try clear hfz22_1
     try clear hfz22_2
     try clear hfz22_3
     try clear hfz22_4
     try clear hfz22_5
     try clear hfz23_0
     try clear hfz23_1
     try clear hfz23_2
     try clear hfz23_3
     try clear hfz23_4
     try clear hfz28_0
     try clear hfz28_1
     try clear hfz28_2
     try clear hfz28_3
     try clear hfz28_4
     try clear hfz28_5
     try clear hfz34_0
     try clear hfz34_1
     try clear hfz34_2
     try clear hfz34_3
     try clear hfz34_4
     try clear hfz38_0
     try clear hfz38_1
     try clear hfz38_2
     try clear hfz38_3
     try clear hfz38_4
     try clear hfz38_5
     try clear hfz39_0
     try clear hfz39_1
     try clear hfz39_2
     try clear hfz39_3
     try clear hfz39_4
     try clear hfz41_0
     try clear hfz41_1
     try clear hfz41_2
     try clear hfz41_3
     try clear hfz41_4
     try clear hfz43_0
     try clear hfz43_1
     try clear hfz43_2
     try clear hfz43_3
     try clear hfz43_4
     try clear hfz43_5
     try clear hfz44_0
     try clear hfz44_1
     try clear hfz44_2
     try clear hfz44_3
     try clear hfz44_4
     try clear hfz56_0
     try clear hfz56_1
     try clear hfz56_2
     try clear hfz56_3
     try clear hfz56_4
     try clear hfz60_0
     try clear hfz60_1
     try clear hfz60_2
     try clear hfz60_3
     try clear hfz60_4
     try clear hfz60_5
     try clear hfz61_0
     try clear hfz61_1
     try clear hfz61_2
     try clear hfz61_3
     try clear hfz61_4
     try clear hfz63_0
     try clear hfz63_1
     try clear hfz63_2
     try clear hfz63_3
     try clear hfz63_4
     try clear hfz65_0
     try clear hfz65_1
     try clear hfz65_2
     try clear hfz65_3
     try clear hfz65_4
     try clear hfz65_5
     try clear hfz66_0
     try clear hfz66_1
     try clear hfz66_2
     try clear hfz66_3
     try clear hfz66_4
     try clear hfz71_0
     try clear hfz71_1
     try clear hfz71_2
     try clear hfz71_3
     try clear hfz71_4
     try clear hfz71_5
     try clear hfz77_0
     try clear hfz77_1
     try clear hfz77_2
     try clear hfz77_3
     try clear hfz77_4
     try clear hfz81_0
     try clear hfz81_1
     try clear hfz81_2
     try clear hfz81_3
     try clear hfz81_4
     try clear hfz81_5
     try clear hfz82_0
     try clear hfz82_1
     try clear hfz82_2
     try clear hfz82_3
     try clear hfz82_4
     try clear hfz84_0
     try clear hfz84_1
     try clear hfz84_2
     try clear hfz84_3
     try clear hfz84_4
     try clear hfz86_0
     try clear hfz86_1
     try clear hfz86_2
     try clear hfz86_3
     try clear hfz86_4
     try clear hfz86_5
     try clear hfz87_0
     try clear hfz87_1
     try clear hfz87_2
     try clear hfz87_3
     try clear hfz87_4
     try clear hfz96_0
     try clear hfz96_1
     try clear hfz96_2
     try clear hfz96_3
     try clear hfz96_4
     obtain ⟨kq, x8_93, HA, HJ93, HO_8, BK155, BK163, HB⟩ := hcut
     cases kq with
     | zero => exact absurd HA.out (by simp [target_line.j0])
     | succ kj93 =>
      have H := HA.out
      clear HA
      simp only [target_line.j0] at H
      have HC113 := Aside0.mk H
      clear H
      have hnb114 := NB163_155.out
      have hnc114 := NB155_163.out
      have hcz115_0 : wc.cell? ⟨gb163, 0, none⟩ = some (.int .i64 t156) := (blk_cell BK163.out 0).trans rfl
      have hcz115_1 : wc.cell? ⟨gb163, 1, none⟩ = some (.string t157) := (blk_cell BK163.out 1).trans rfl
      have hcz115_2 : wc.cell? ⟨gb163, 2, none⟩ = some (.bool t158) := (blk_cell BK163.out 2).trans rfl
      have hcz115_3 : wc.cell? ⟨gb163, 3, none⟩ = some (.bool t159) := (blk_cell BK163.out 3).trans rfl
      have hcz115_4 : wc.cell? ⟨gb163, 4, none⟩ = some (.bool t160) := (blk_cell BK163.out 4).trans rfl
      have hcz115_5 : wc.cell? ⟨gb163, 5, none⟩ = some (.int .i64 t161) := (blk_cell BK163.out 5).trans rfl
      have hfz115_0 := blk_frozen BK163.out 0
      have hfz115_1 := blk_frozen BK163.out 1
      have hfz115_2 := blk_frozen BK163.out 2
      have hfz115_3 := blk_frozen BK163.out 3
      have hfz115_4 := blk_frozen BK163.out 4
      have hfz115_5 := blk_frozen BK163.out 5
      go_upto_if 38 with (fail)
      go_cut [8] (fun v8 wc => ∃ (kq : Nat) (x8_112 : List ByteArray), Aside0 (target_line.j1 kq t164 x8_112 a0_0 a0_1 a0_2 a0_3 a0_4 t156 t157 t158 t159 t160 t161 = some r) ∧ Aside0 (kq ≤ kj93) ∧ Aside0 (Kd.R Kd.string 9 wc w.heap.size (fun _ => True) v8 x8_112) ∧ Aside0 (wc.heap[gb155]? = some (.cells #[.int .i64 a0_0, .int .i64 a0_1, .int .i64 a0_2, .int .i64 a0_3, .int .i64 a0_4] 26 (0, 0))) ∧ Aside0 (wc.heap[gb163]? = some (.cells #[.int .i64 t156, .string t157, .bool t158, .bool t159, .bool t160, .int .i64 t161] 50 (0, 0))) ∧ Aside0 (Below w.heap.size w wc))
      case first =>
       have H := HC113.out
       clear HC113
       by_cases c116 : t159 = true
       ·subst c116
        rw [if_pos rfl] at H
        obtain ⟨t180, A117, H⟩ := bsA_ H
        try dsimp only at H
        by_cases c118 : x8_93.length < 8796093022208
        ·rw [if_pos c118] at H
         have LMc118 := Aside0.mk c118
         clear c118
         obtain ⟨y181, hy181⟩ : ∃ y_ : List ByteArray, y_ = (x8_93 ++ [t180]) := ⟨_, rfl⟩
         replace H : (target_line.j1 kj93 t164 y181 a0_0 a0_1 a0_2 a0_3 a0_4 t156 t157 t158 true t160 t161) = some r := by first | (rw [hy181]; with_reducible exact H) | (have H2_ := (Option.bind_some _ _).symm.trans H; rw [hy181]; with_reducible exact H2_) | (have H2_ := (Option.bind_some _ _).symm.trans H; with_reducible exact H2_) | with_reducible exact H | (rw [hy181]; exact H) | exact H
         have Ny181 := Aside0.mk hy181
         clear hy181
         have H' := Aside0.mk H
         clear H
         have hnb119 := NB155_163.out
         have hnc119 := NB163_155.out
         have hcz120_0 : wc.cell? ⟨gb155, 0, none⟩ = some (.int .i64 a0_0) := (blk_cell BK155.out 0).trans rfl
         have hcz120_1 : wc.cell? ⟨gb155, 1, none⟩ = some (.int .i64 a0_1) := (blk_cell BK155.out 1).trans rfl
         have hcz120_2 : wc.cell? ⟨gb155, 2, none⟩ = some (.int .i64 a0_2) := (blk_cell BK155.out 2).trans rfl
         have hcz120_3 : wc.cell? ⟨gb155, 3, none⟩ = some (.int .i64 a0_3) := (blk_cell BK155.out 3).trans rfl
         have hcz120_4 : wc.cell? ⟨gb155, 4, none⟩ = some (.int .i64 a0_4) := (blk_cell BK155.out 4).trans rfl
         have hfz120_0 := blk_frozen BK155.out 0
         have hfz120_1 := blk_frozen BK155.out 1
         have hfz120_2 := blk_frozen BK155.out 2
         have hfz120_3 := blk_frozen BK155.out 3
         have hfz120_4 := blk_frozen BK155.out 4
         go_wp2_with (first | (go_at_call 73; (with_reducible refine (et_reg.calls a0_2 t180 _ A117.out).mono ?_); rintro e w121 ⟨rfl, hb⟩; replace HO_8 := Aside0.mk (Kd.R_below (ts25_ HO_8.out) hb); replace BK155 := Aside0.mk (blk_below (g := gb155) (o := .cells #[.int .i64 a0_0, .int .i64 a0_1, .int .i64 a0_2, .int .i64 a0_3, .int .i64 a0_4] 26 (0, 0)) (ts18_ BK155.out) hb); replace BK163 := Aside0.mk (blk_below (g := gb163) (o := .cells #[.int .i64 t156, .string t157, .bool t158, .bool true, .bool t160, .int .i64 t161] 50 (0, 0)) (ts18_ BK163.out) hb); replace HB := Aside0.mk (below_step (ts32_ HB.out GE155.out GE163.out) hb); clear hb) | ((with_reducible refine gate_builtin (b := .append) (xs := #[.tmp 39, .tmp 44]) rfl ?_); at_builtin; refine Kd.R_append Kd.string (w0 := w) w.heap.size rfl (.tmp 39) (.tmp 44) 108 9 (.string ⟨#[]⟩) 16 rfl Tryd.underlying108 info9 rfl (by decide) (by omega) u8 x8_93 t180 [.string t180] (fun _ => True) (fun _ => False) rfl rfl ?aP (fun _ hk => hk.elim) ?aF ?aO ?aB ?aS ?aL ?_; (case aP => exact rfl); (case aB => exact (ts32_ HB.out GE155.out GE163.out)); (case aF => exact (fun _ _ => trivial)); (case aO => exact (ts25_ HO_8.out)); (case aS => exact (below_size (ts32_ HB.out GE155.out GE163.out))); (case aL => have := LMc118.out; omega); intro v182 w122 ho hb hg hat; rw [← Ny181.out] at ho; replace BK155 := Aside0.mk (blk_grown (g := gb155) (o := .cells #[.int .i64 a0_0, .int .i64 a0_1, .int .i64 a0_2, .int .i64 a0_3, .int .i64 a0_4] 26 (0, 0)) (ts18_ BK155.out) hg (Kd.R_ne HO_8.out BK155.out (by decide))); replace BK163 := Aside0.mk (blk_grown (g := gb163) (o := .cells #[.int .i64 t156, .string t157, .bool t158, .bool true, .bool t160, .int .i64 t161] 50 (0, 0)) (ts18_ BK163.out) hg (Kd.R_ne HO_8.out BK163.out (by decide))); replace HB := Aside0.mk (hb); have HO183 := Aside0.mk (ho); clear HO_8; clear ho hb hg hat))
         go_meet
         case rel => exact ⟨_, (y181), H', ⟨ts16_ HJ93.out⟩, ⟨ts25_ HO183.out⟩, ⟨ts18_ BK155.out⟩, ⟨ts18_ BK163.out⟩, ⟨ts32_ HB.out GE155.out GE163.out⟩⟩
        rw [if_neg c118] at H
        exact absurd H (by simp)
       replace c116 := Bool.eq_false_iff.mpr c116
       subst c116
       rw [if_neg Bool.false_ne_true] at H
       have H' := Aside0.mk H
       clear H
       go_wp2
       go_meet
       case rel => exact ⟨_, (x8_93), H', ⟨ts16_ HJ93.out⟩, ⟨ts25_ HO_8.out⟩, ⟨ts18_ BK155.out⟩, ⟨ts18_ BK163.out⟩, ⟨ts32_ HB.out GE155.out GE163.out⟩⟩
      case rest =>
       clear HC113
       try clear c1
       try clear c2
       try clear p2
       try clear c3
       try clear c4
       try clear c4b0
       try clear c4b1
       try clear c4b2
       try clear c5
       try clear c6
       try clear c6b0
       try clear c6b1
       try clear c6b2
       try clear c7
       try clear c7b0
       try clear c7b1
       try clear c7b2
       try clear c8
       try clear c8b0
       try clear c8b1
       try clear c9
       try clear c10
       try clear c10b0
       try clear c10b1
       try clear c10b2
       try clear c11
       try clear c11b0
       try clear c11b1
       try clear c11b2
       try clear c16
       try clear c24
       try clear c29
       try clear c29b0
       try clear c29b1
       try clear c29b2
       try clear c31
       try clear c31b0
       try clear c31b1
       try clear c31b2
       try clear c32
       try clear c32b0
       try clear c32b1
       try clear c32b2
       try clear c37
       try clear c50
       try clear c51
       try clear c51b0
       try clear c51b1
       try clear c53
       try clear c53b0
       try clear c53b1
       try clear c53b2
       try clear c54
       try clear c54b0
       try clear c54b1
       try clear c54b2
       try clear c59
       try clear c72
       try clear c72b0
       try clear c72b1
       try clear c72b2
       try clear c73
       try clear c74
       try clear c74b0
       try clear c74b1
       try clear c74b2
       try clear c75
       try clear c75b0
       try clear c75b1
       try clear c75b2
       try clear c80
       try clear c99
       try clear c106
       try clear c108
       try clear c109
       try clear c114
       try clear c116
       try clear c118
       try clear c119
       try clear hcz100_0
       try clear hcz100_1
       try clear hcz100_2
       try clear hcz100_3
       try clear hcz100_4
       try clear hcz100_5
       try clear hcz101_0
       try clear hcz101_1
       try clear hcz101_2
       try clear hcz101_3
       try clear hcz101_4
       try clear hcz103_0
       try clear hcz103_1
       try clear hcz103_2
       try clear hcz103_3
       try clear hcz103_4
       try clear hcz105_0
       try clear hcz105_1
       try clear hcz105_2
       try clear hcz105_3
       try clear hcz105_4
       try clear hcz105_5
       try clear hcz110_0
       try clear hcz110_1
       try clear hcz110_2
       try clear hcz110_3
       try clear hcz110_4
       try clear hcz115_0
       try clear hcz115_1
       try clear hcz115_2
       try clear hcz115_3
       try clear hcz115_4
       try clear hcz115_5
       try clear hcz120_0
       try clear hcz120_1
       try clear hcz120_2
       try clear hcz120_3
       try clear hcz120_4
       try clear hcz13_0
       try clear hcz13_1
       try clear hcz13_2
       try clear hcz13_3
       try clear hcz13_4
       try clear hcz17_0
       try clear hcz17_1
       try clear hcz17_2
       try clear hcz17_3
       try clear hcz17_4
       try clear hcz17_5
       try clear hcz18_0
       try clear hcz18_1
       try clear hcz18_2
       try clear hcz18_3
       try clear hcz18_4
       try clear hcz20_0
       try clear hcz20_1
       try clear hcz20_2
       try clear hcz20_3
       try clear hcz20_4
       try clear hcz22_0
       try clear hcz22_1
       try clear hcz22_2
       try clear hcz22_3
       try clear hcz22_4
       try clear hcz22_5
       try clear hcz23_0
       try clear hcz23_1
       try clear hcz23_2
       try clear hcz23_3
       try clear hcz23_4
       try clear hcz28_0
       try clear hcz28_1
       try clear hcz28_2
       try clear hcz28_3
       try clear hcz28_4
       try clear hcz28_5
       try clear hcz34_0
       try clear hcz34_1
       try clear hcz34_2
       try clear hcz34_3
       try clear hcz34_4
       try clear hcz38_0
       try clear hcz38_1
       try clear hcz38_2
       try clear hcz38_3
       try clear hcz38_4
       try clear hcz38_5
       try clear hcz39_0
       try clear hcz39_1
       try clear hcz39_2
       try clear hcz39_3
       try clear hcz39_4
       try clear hcz41_0
       try clear hcz41_1
       try clear hcz41_2
       try clear hcz41_3
       try clear hcz41_4
       try clear hcz43_0
       try clear hcz43_1
       try clear hcz43_2
       try clear hcz43_3
       try clear hcz43_4
       try clear hcz43_5
       try clear hcz44_0
       try clear hcz44_1
       try clear hcz44_2
       try clear hcz44_3
       try clear hcz44_4
       try clear hcz56_0
       try clear hcz56_1
       try clear hcz56_2
       try clear hcz56_3
       try clear hcz56_4
       try clear hcz60_0
       try clear hcz60_1
       try clear hcz60_2
       try clear hcz60_3
       try clear hcz60_4
       try clear hcz60_5
       try clear hcz61_0
       try clear hcz61_1
       try clear hcz61_2
       try clear hcz61_3
       try clear hcz61_4
       try clear hcz63_0
       try clear hcz63_1
       try clear hcz63_2
       try clear hcz63_3
       try clear hcz63_4
       try clear hcz65_0
       try clear hcz65_1
       try clear hcz65_2
       try clear hcz65_3
       try clear hcz65_4
       try clear hcz65_5
       try clear hcz66_0
       try clear hcz66_1
       try clear hcz66_2
       try clear hcz66_3
       try clear hcz66_4
       try clear hcz71_0
       try clear hcz71_1
       try clear hcz71_2
       try clear hcz71_3
       try clear hcz71_4
       try clear hcz71_5
       try clear hcz77_0
       try clear hcz77_1
       try clear hcz77_2
       try clear hcz77_3
       try clear hcz77_4
       try clear hcz81_0
       try clear hcz81_1
       try clear hcz81_2
       try clear hcz81_3
       try clear hcz81_4
       try clear hcz81_5
       try clear hcz82_0
       try clear hcz82_1
       try clear hcz82_2
       try clear hcz82_3
       try clear hcz82_4
       try clear hcz84_0
       try clear hcz84_1
       try clear hcz84_2
       try clear hcz84_3
       try clear hcz84_4
       try clear hcz86_0
       try clear hcz86_1
       try clear hcz86_2
       try clear hcz86_3
       try clear hcz86_4
       try clear hcz86_5
       try clear hcz87_0
       try clear hcz87_1
       try clear hcz87_2
       try clear hcz87_3
       try clear hcz87_4
       try clear hcz96_0
       try clear hcz96_1
       try clear hcz96_2
       try clear hcz96_3
       try clear hcz96_4
       try clear hfz100_0
       try clear hfz100_1
       try clear hfz100_2
       try clear hfz100_3
       try clear hfz100_4
       try clear hfz100_5
       try clear hfz101_0
       try clear hfz101_1
       try clear hfz101_2
       try clear hfz101_3
       try clear hfz101_4
       try clear hfz103_0
       try clear hfz103_1
       try clear hfz103_2
       try clear hfz103_3
       try clear hfz103_4
       try clear hfz105_0
       try clear hfz105_1
       try clear hfz105_2
       try clear hfz105_3
       try clear hfz105_4
       try clear hfz105_5
       try clear hfz110_0
       try clear hfz110_1
       try clear hfz110_2
       try clear hfz110_3
       try clear hfz110_4
       try clear hfz115_0
       try clear hfz115_1
       try clear hfz115_2
       try clear hfz115_3
       try clear hfz115_4
       try clear hfz115_5
       try clear hfz120_0
       try clear hfz120_1
       try clear hfz120_2
       try clear hfz120_3
       try clear hfz120_4
       try clear hfz13_0
       try clear hfz13_1
       try clear hfz13_2
       try clear hfz13_3
       try clear hfz13_4
       try clear hfz17_0
       try clear hfz17_1
       try clear hfz17_2
       try clear hfz17_3
       try clear hfz17_4
       try clear hfz17_5
       try clear hfz18_0
       try clear hfz18_1
       try clear hfz18_2
       try clear hfz18_3
       try clear hfz18_4
       try clear hfz20_0
       try clear hfz20_1
       try clear hfz20_2
       try clear hfz20_3
       try clear hfz20_4
       try clear hfz22_0
       try clear hfz22_1
       try clear hfz22_2
       try clear hfz22_3
       try clear hfz22_4
       try clear hfz22_5
       try clear hfz23_0
       try clear hfz23_1
       try clear hfz23_2
       try clear hfz23_3
       try clear hfz23_4
       try clear hfz28_0
       try clear hfz28_1
       try clear hfz28_2
       try clear hfz28_3
       try clear hfz28_4
       try clear hfz28_5
       try clear hfz34_0
       try clear hfz34_1
       try clear hfz34_2
       try clear hfz34_3
       try clear hfz34_4
       try clear hfz38_0
       try clear hfz38_1
       try clear hfz38_2
       try clear hfz38_3
       try clear hfz38_4
       try clear hfz38_5
       try clear hfz39_0
       try clear hfz39_1
       try clear hfz39_2
       try clear hfz39_3
       try clear hfz39_4
       try clear hfz41_0
       try clear hfz41_1
       try clear hfz41_2
       try clear hfz41_3
       try clear hfz41_4
       try clear hfz43_0
       try clear hfz43_1
       try clear hfz43_2
       try clear hfz43_3
       try clear hfz43_4
       try clear hfz43_5
       try clear hfz44_0
       try clear hfz44_1
       try clear hfz44_2
       try clear hfz44_3
       try clear hfz44_4
       try clear hfz56_0
       try clear hfz56_1
       try clear hfz56_2
       try clear hfz56_3
       try clear hfz56_4
       try clear hfz60_0
       try clear hfz60_1
       try clear hfz60_2
       try clear hfz60_3
       try clear hfz60_4
       try clear hfz60_5
       try clear hfz61_0
       try clear hfz61_1
       try clear hfz61_2
       try clear hfz61_3
       try clear hfz61_4
       try clear hfz63_0
       try clear hfz63_1
       try clear hfz63_2
       try clear hfz63_3
       try clear hfz63_4
       try clear hfz65_0
       try clear hfz65_1
       try clear hfz65_2
       try clear hfz65_3
       try clear hfz65_4
       try clear hfz65_5
       try clear hfz66_0
       try clear hfz66_1
       try clear hfz66_2
       try clear hfz66_3
       try clear hfz66_4
       try clear hfz71_0
       try clear hfz71_1
       try clear hfz71_2
       try clear hfz71_3
       try clear hfz71_4
       try clear hfz71_5
       try clear hfz77_0
       try clear hfz77_1
       try clear hfz77_2
       try clear hfz77_3
       try clear hfz77_4
       try clear hfz81_0
       try clear hfz81_1
       try clear hfz81_2
       try clear hfz81_3
       try clear hfz81_4
       try clear hfz81_5
       try clear hfz82_0
       try clear hfz82_1
       try clear hfz82_2
       try clear hfz82_3
       try clear hfz82_4
       try clear hfz84_0
       try clear hfz84_1
       try clear hfz84_2
       try clear hfz84_3
       try clear hfz84_4
       try clear hfz86_0
       try clear hfz86_1
       try clear hfz86_2
       try clear hfz86_3
       try clear hfz86_4
       try clear hfz86_5
       try clear hfz87_0
       try clear hfz87_1
       try clear hfz87_2
       try clear hfz87_3
       try clear hfz87_4
       try clear hfz96_0
       try clear hfz96_1
       try clear hfz96_2
       try clear hfz96_3
       try clear hfz96_4
       try clear p2
       obtain ⟨kq, x8_112, HA, HJ112, HO_8, BK155, BK163, HB⟩ := hcut
       cases kq with
       | zero => exact absurd HA.out (by simp [target_line.j1])
       | succ kj112 =>
        have H := HA.out
        clear HA
        simp only [target_line.j1] at H
        have HC123 := Aside0.mk H
        clear H
        have hnb124 := NB163_155.out
        have hnc124 := NB155_163.out
        have hcz125_0 : wc.cell? ⟨gb163, 0, none⟩ = some (.int .i64 t156) := (blk_cell BK163.out 0).trans rfl
        have hcz125_1 : wc.cell? ⟨gb163, 1, none⟩ = some (.string t157) := (blk_cell BK163.out 1).trans rfl
        have hcz125_2 : wc.cell? ⟨gb163, 2, none⟩ = some (.bool t158) := (blk_cell BK163.out 2).trans rfl
        have hcz125_3 : wc.cell? ⟨gb163, 3, none⟩ = some (.bool t159) := (blk_cell BK163.out 3).trans rfl
        have hcz125_4 : wc.cell? ⟨gb163, 4, none⟩ = some (.bool t160) := (blk_cell BK163.out 4).trans rfl
        have hcz125_5 : wc.cell? ⟨gb163, 5, none⟩ = some (.int .i64 t161) := (blk_cell BK163.out 5).trans rfl
        have hfz125_0 := blk_frozen BK163.out 0
        have hfz125_1 := blk_frozen BK163.out 1
        have hfz125_2 := blk_frozen BK163.out 2
        have hfz125_3 := blk_frozen BK163.out 3
        have hfz125_4 := blk_frozen BK163.out 4
        have hfz125_5 := blk_frozen BK163.out 5
        go_upto_if 47 with (fail)
        go_cut [8] (fun v8 wc => ∃ (kq : Nat) (x8_122 : List ByteArray), Aside0 (target_line.j2 kq t164 x8_122 t156 t157 t158 t159 t160 t161 = some r) ∧ Aside0 (kq ≤ kj112) ∧ Aside0 (Kd.R Kd.string 9 wc w.heap.size (fun _ => True) v8 x8_122) ∧ Aside0 (wc.heap[gb155]? = some (.cells #[.int .i64 a0_0, .int .i64 a0_1, .int .i64 a0_2, .int .i64 a0_3, .int .i64 a0_4] 26 (0, 0))) ∧ Aside0 (wc.heap[gb163]? = some (.cells #[.int .i64 t156, .string t157, .bool t158, .bool t159, .bool t160, .int .i64 t161] 50 (0, 0))) ∧ Aside0 (Below w.heap.size w wc))
        case first =>
         have H := HC123.out
         clear HC123
         by_cases c126 : t160 = true
         ·subst c126
          rw [if_pos rfl] at H
          obtain ⟨t184, A127, H⟩ := bsA_ H
          try dsimp only at H
          by_cases c128 : x8_112.length < 8796093022208
          ·rw [if_pos c128] at H
           have LMc128 := Aside0.mk c128
           clear c128
           obtain ⟨y185, hy185⟩ : ∃ y_ : List ByteArray, y_ = (x8_112 ++ [t184]) := ⟨_, rfl⟩
           replace H : (target_line.j2 kj112 t164 y185 t156 t157 t158 t159 true t161) = some r := by first | (rw [hy185]; with_reducible exact H) | (have H2_ := (Option.bind_some _ _).symm.trans H; rw [hy185]; with_reducible exact H2_) | (have H2_ := (Option.bind_some _ _).symm.trans H; with_reducible exact H2_) | with_reducible exact H | (rw [hy185]; exact H) | exact H
           have Ny185 := Aside0.mk hy185
           clear hy185
           have H' := Aside0.mk H
           clear H
           have hnb129 := NB155_163.out
           have hnc129 := NB163_155.out
           have hcz130_0 : wc.cell? ⟨gb155, 0, none⟩ = some (.int .i64 a0_0) := (blk_cell BK155.out 0).trans rfl
           have hcz130_1 : wc.cell? ⟨gb155, 1, none⟩ = some (.int .i64 a0_1) := (blk_cell BK155.out 1).trans rfl
           have hcz130_2 : wc.cell? ⟨gb155, 2, none⟩ = some (.int .i64 a0_2) := (blk_cell BK155.out 2).trans rfl
           have hcz130_3 : wc.cell? ⟨gb155, 3, none⟩ = some (.int .i64 a0_3) := (blk_cell BK155.out 3).trans rfl
           have hcz130_4 : wc.cell? ⟨gb155, 4, none⟩ = some (.int .i64 a0_4) := (blk_cell BK155.out 4).trans rfl
           have hfz130_0 := blk_frozen BK155.out 0
           have hfz130_1 := blk_frozen BK155.out 1
           have hfz130_2 := blk_frozen BK155.out 2
           have hfz130_3 := blk_frozen BK155.out 3
           have hfz130_4 := blk_frozen BK155.out 4
           go_wp2_with (first | (go_at_call 73; (with_reducible refine (et_reg.calls a0_3 t184 _ A127.out).mono ?_); rintro e w131 ⟨rfl, hb⟩; replace HO_8 := Aside0.mk (Kd.R_below (ts25_ HO_8.out) hb); replace BK155 := Aside0.mk (blk_below (g := gb155) (o := .cells #[.int .i64 a0_0, .int .i64 a0_1, .int .i64 a0_2, .int .i64 a0_3, .int .i64 a0_4] 26 (0, 0)) (ts18_ BK155.out) hb); replace BK163 := Aside0.mk (blk_below (g := gb163) (o := .cells #[.int .i64 t156, .string t157, .bool t158, .bool t159, .bool true, .int .i64 t161] 50 (0, 0)) (ts18_ BK163.out) hb); replace HB := Aside0.mk (below_step (ts32_ HB.out GE155.out GE163.out) hb); clear hb) | ((with_reducible refine gate_builtin (b := .append) (xs := #[.tmp 48, .tmp 53]) rfl ?_); at_builtin; refine Kd.R_append Kd.string (w0 := w) w.heap.size rfl (.tmp 48) (.tmp 53) 108 9 (.string ⟨#[]⟩) 16 rfl Tryd.underlying108 info9 rfl (by decide) (by omega) u8 x8_112 t184 [.string t184] (fun _ => True) (fun _ => False) rfl rfl ?aP (fun _ hk => hk.elim) ?aF ?aO ?aB ?aS ?aL ?_; (case aP => exact rfl); (case aB => exact (ts32_ HB.out GE155.out GE163.out)); (case aF => exact (fun _ _ => trivial)); (case aO => exact (ts25_ HO_8.out)); (case aS => exact (below_size (ts32_ HB.out GE155.out GE163.out))); (case aL => have := LMc128.out; omega); intro v186 w132 ho hb hg hat; rw [← Ny185.out] at ho; replace BK155 := Aside0.mk (blk_grown (g := gb155) (o := .cells #[.int .i64 a0_0, .int .i64 a0_1, .int .i64 a0_2, .int .i64 a0_3, .int .i64 a0_4] 26 (0, 0)) (ts18_ BK155.out) hg (Kd.R_ne HO_8.out BK155.out (by decide))); replace BK163 := Aside0.mk (blk_grown (g := gb163) (o := .cells #[.int .i64 t156, .string t157, .bool t158, .bool t159, .bool true, .int .i64 t161] 50 (0, 0)) (ts18_ BK163.out) hg (Kd.R_ne HO_8.out BK163.out (by decide))); replace HB := Aside0.mk (hb); have HO187 := Aside0.mk (ho); clear HO_8; clear ho hb hg hat))
           go_meet
           case rel => exact ⟨_, (y185), H', ⟨by have := HJ93.out; have := HJ112.out; first | omega | exact Nat.le_refl _⟩, ⟨ts25_ HO187.out⟩, ⟨ts18_ BK155.out⟩, ⟨ts18_ BK163.out⟩, ⟨ts32_ HB.out GE155.out GE163.out⟩⟩
          rw [if_neg c128] at H
          exact absurd H (by simp)
         replace c126 := Bool.eq_false_iff.mpr c126
         subst c126
         rw [if_neg Bool.false_ne_true] at H
         have H' := Aside0.mk H
         clear H
         go_wp2
         go_meet
         case rel => exact ⟨_, (x8_112), H', ⟨by have := HJ93.out; have := HJ112.out; first | omega | exact Nat.le_refl _⟩, ⟨ts25_ HO_8.out⟩, ⟨ts18_ BK155.out⟩, ⟨ts18_ BK163.out⟩, ⟨ts32_ HB.out GE155.out GE163.out⟩⟩
        case rest =>
         clear HC123
         try clear c1
         try clear c2
         try clear p2
         try clear c3
         try clear c4
         try clear c4b0
         try clear c4b1
         try clear c4b2
         try clear c5
         try clear c6
         try clear c6b0
         try clear c6b1
         try clear c6b2
         try clear c7
         try clear c7b0
         try clear c7b1
         try clear c7b2
         try clear c8
         try clear c8b0
         try clear c8b1
         try clear c9
         try clear c10
         try clear c10b0
         try clear c10b1
         try clear c10b2
         try clear c11
         try clear c11b0
         try clear c11b1
         try clear c11b2
         try clear c12
         try clear c16
         try clear c24
         try clear c29
         try clear c29b0
         try clear c29b1
         try clear c29b2
         try clear c31
         try clear c31b0
         try clear c31b1
         try clear c31b2
         try clear c32
         try clear c32b0
         try clear c32b1
         try clear c32b2
         try clear c37
         try clear c50
         try clear c51
         try clear c51b0
         try clear c51b1
         try clear c53
         try clear c53b0
         try clear c53b1
         try clear c53b2
         try clear c54
         try clear c54b0
         try clear c54b1
         try clear c54b2
         try clear c59
         try clear c72
         try clear c72b0
         try clear c72b1
         try clear c72b2
         try clear c73
         try clear c74
         try clear c74b0
         try clear c74b1
         try clear c74b2
         try clear c75
         try clear c75b0
         try clear c75b1
         try clear c75b2
         try clear c80
         try clear c99
         try clear c106
         try clear c108
         try clear c109
         try clear c114
         try clear c116
         try clear c118
         try clear c119
         try clear c124
         try clear c126
         try clear c128
         try clear c129
         try clear hcz100_0
         try clear hcz100_1
         try clear hcz100_2
         try clear hcz100_3
         try clear hcz100_4
         try clear hcz100_5
         try clear hcz101_0
         try clear hcz101_1
         try clear hcz101_2
         try clear hcz101_3
         try clear hcz101_4
         try clear hcz103_0
         try clear hcz103_1
         try clear hcz103_2
         try clear hcz103_3
         try clear hcz103_4
         try clear hcz105_0
         try clear hcz105_1
         try clear hcz105_2
         try clear hcz105_3
         try clear hcz105_4
         try clear hcz105_5
         try clear hcz110_0
         try clear hcz110_1
         try clear hcz110_2
         try clear hcz110_3
         try clear hcz110_4
         try clear hcz115_0
         try clear hcz115_1
         try clear hcz115_2
         try clear hcz115_3
         try clear hcz115_4
         try clear hcz115_5
         try clear hcz120_0
         try clear hcz120_1
         try clear hcz120_2
         try clear hcz120_3
         try clear hcz120_4
         try clear hcz125_0
         try clear hcz125_1
         try clear hcz125_2
         try clear hcz125_3
         try clear hcz125_4
         try clear hcz125_5
         try clear hcz130_0
         try clear hcz130_1
         try clear hcz130_2
         try clear hcz130_3
         try clear hcz130_4
         try clear hcz13_0
         try clear hcz13_1
         try clear hcz13_2
         try clear hcz13_3
         try clear hcz13_4
         try clear hcz17_0
         try clear hcz17_1
         try clear hcz17_2
         try clear hcz17_3
         try clear hcz17_4
         try clear hcz17_5
         try clear hcz18_0
         try clear hcz18_1
         try clear hcz18_2
         try clear hcz18_3
         try clear hcz18_4
         try clear hcz20_0
         try clear hcz20_1
         try clear hcz20_2
         try clear hcz20_3
         try clear hcz20_4
         try clear hcz22_0
         try clear hcz22_1
         try clear hcz22_2
         try clear hcz22_3
         try clear hcz22_4
         try clear hcz22_5
         try clear hcz23_0
         try clear hcz23_1
         try clear hcz23_2
         try clear hcz23_3
         try clear hcz23_4
         try clear hcz28_0
         try clear hcz28_1
         try clear hcz28_2
         try clear hcz28_3
         try clear hcz28_4
         try clear hcz28_5
         try clear hcz34_0
         try clear hcz34_1
         try clear hcz34_2
         try clear hcz34_3
         try clear hcz34_4
         try clear hcz38_0
         try clear hcz38_1
         try clear hcz38_2
         try clear hcz38_3
         try clear hcz38_4
         try clear hcz38_5
         try clear hcz39_0
         try clear hcz39_1
         try clear hcz39_2
         try clear hcz39_3
         try clear hcz39_4
         try clear hcz41_0
         try clear hcz41_1
         try clear hcz41_2
         try clear hcz41_3
         try clear hcz41_4
         try clear hcz43_0
         try clear hcz43_1
         try clear hcz43_2
         try clear hcz43_3
         try clear hcz43_4
         try clear hcz43_5
         try clear hcz44_0
         try clear hcz44_1
         try clear hcz44_2
         try clear hcz44_3
         try clear hcz44_4
         try clear hcz56_0
         try clear hcz56_1
         try clear hcz56_2
         try clear hcz56_3
         try clear hcz56_4
         try clear hcz60_0
         try clear hcz60_1
         try clear hcz60_2
         try clear hcz60_3
         try clear hcz60_4
         try clear hcz60_5
         try clear hcz61_0
         try clear hcz61_1
         try clear hcz61_2
         try clear hcz61_3
         try clear hcz61_4
         try clear hcz63_0
         try clear hcz63_1
         try clear hcz63_2
         try clear hcz63_3
         try clear hcz63_4
         try clear hcz65_0
         try clear hcz65_1
         try clear hcz65_2
         try clear hcz65_3
         try clear hcz65_4
         try clear hcz65_5
         try clear hcz66_0
         try clear hcz66_1
         try clear hcz66_2
         try clear hcz66_3
         try clear hcz66_4
         try clear hcz71_0
         try clear hcz71_1
         try clear hcz71_2
         try clear hcz71_3
         try clear hcz71_4
         try clear hcz71_5
         try clear hcz77_0
         try clear hcz77_1
         try clear hcz77_2
         try clear hcz77_3
         try clear hcz77_4
         try clear hcz81_0
         try clear hcz81_1
         try clear hcz81_2
         try clear hcz81_3
         try clear hcz81_4
         try clear hcz81_5
         try clear hcz82_0
         try clear hcz82_1
         try clear hcz82_2
         try clear hcz82_3
         try clear hcz82_4
         try clear hcz84_0
         try clear hcz84_1
         try clear hcz84_2
         try clear hcz84_3
         try clear hcz84_4
         try clear hcz86_0
         try clear hcz86_1
         try clear hcz86_2
         try clear hcz86_3
         try clear hcz86_4
         try clear hcz86_5
         try clear hcz87_0
         try clear hcz87_1
         try clear hcz87_2
         try clear hcz87_3
         try clear hcz87_4
         try clear hcz96_0
         try clear hcz96_1
         try clear hcz96_2
         try clear hcz96_3
         try clear hcz96_4
         try clear hfz100_0
         try clear hfz100_1
         try clear hfz100_2
         try clear hfz100_3
         try clear hfz100_4
         try clear hfz100_5
         try clear hfz101_0
         try clear hfz101_1
         try clear hfz101_2
         try clear hfz101_3
         try clear hfz101_4
         try clear hfz103_0
         try clear hfz103_1
         try clear hfz103_2
         try clear hfz103_3
         try clear hfz103_4
         try clear hfz105_0
         try clear hfz105_1
         try clear hfz105_2
         try clear hfz105_3
         try clear hfz105_4
         try clear hfz105_5
         try clear hfz110_0
         try clear hfz110_1
         try clear hfz110_2
         try clear hfz110_3
         try clear hfz110_4
         try clear hfz115_0
         try clear hfz115_1
         try clear hfz115_2
         try clear hfz115_3
         try clear hfz115_4
         try clear hfz115_5
         try clear hfz120_0
         try clear hfz120_1
         try clear hfz120_2
         try clear hfz120_3
         try clear hfz120_4
         try clear hfz125_0
         try clear hfz125_1
         try clear hfz125_2
         try clear hfz125_3
         try clear hfz125_4
         try clear hfz125_5
         try clear hfz130_0
         try clear hfz130_1
         try clear hfz130_2
         try clear hfz130_3
         try clear hfz130_4
         try clear hfz13_0
         try clear hfz13_1
         try clear hfz13_2
         try clear hfz13_3
         try clear hfz13_4
         try clear hfz17_0
         try clear hfz17_1
         try clear hfz17_2
         try clear hfz17_3
         try clear hfz17_4
         try clear hfz17_5
         try clear hfz18_0
         try clear hfz18_1
         try clear hfz18_2
         try clear hfz18_3
         try clear hfz18_4
         try clear hfz20_0
         try clear hfz20_1
         try clear hfz20_2
         try clear hfz20_3
         try clear hfz20_4
         try clear hfz22_0
         try clear hfz22_1
         try clear hfz22_2
         try clear hfz22_3
         try clear hfz22_4
         try clear hfz22_5
         try clear hfz23_0
         try clear hfz23_1
         try clear hfz23_2
         try clear hfz23_3
         try clear hfz23_4
         try clear hfz28_0
         try clear hfz28_1
         try clear hfz28_2
         try clear hfz28_3
         try clear hfz28_4
         try clear hfz28_5
         try clear hfz34_0
         try clear hfz34_1
         try clear hfz34_2
         try clear hfz34_3
         try clear hfz34_4
         try clear hfz38_0
         try clear hfz38_1
         try clear hfz38_2
         try clear hfz38_3
         try clear hfz38_4
         try clear hfz38_5
         try clear hfz39_0
         try clear hfz39_1
         try clear hfz39_2
         try clear hfz39_3
         try clear hfz39_4
         try clear hfz41_0
         try clear hfz41_1
         try clear hfz41_2
         try clear hfz41_3
         try clear hfz41_4
         try clear hfz43_0
         try clear hfz43_1
         try clear hfz43_2
         try clear hfz43_3
         try clear hfz43_4
         try clear hfz43_5
         try clear hfz44_0
         try clear hfz44_1
         try clear hfz44_2
         try clear hfz44_3
         try clear hfz44_4
         try clear hfz56_0
         try clear hfz56_1
         try clear hfz56_2
         try clear hfz56_3
         try clear hfz56_4
         try clear hfz60_0
         try clear hfz60_1
         try clear hfz60_2
         try clear hfz60_3
         try clear hfz60_4
         try clear hfz60_5
         try clear hfz61_0
         try clear hfz61_1
         try clear hfz61_2
         try clear hfz61_3
         try clear hfz61_4
         try clear hfz63_0
         try clear hfz63_1
         try clear hfz63_2
         try clear hfz63_3
         try clear hfz63_4
         try clear hfz65_0
         try clear hfz65_1
         try clear hfz65_2
         try clear hfz65_3
         try clear hfz65_4
         try clear hfz65_5
         try clear hfz66_0
         try clear hfz66_1
         try clear hfz66_2
         try clear hfz66_3
         try clear hfz66_4
         try clear hfz71_0
         try clear hfz71_1
         try clear hfz71_2
         try clear hfz71_3
         try clear hfz71_4
         try clear hfz71_5
         try clear hfz77_0
         try clear hfz77_1
         try clear hfz77_2
         try clear hfz77_3
         try clear hfz77_4
         try clear hfz81_0
         try clear hfz81_1
         try clear hfz81_2
         try clear hfz81_3
         try clear hfz81_4
         try clear hfz81_5
         try clear hfz82_0
         try clear hfz82_1
         try clear hfz82_2
         try clear hfz82_3
         try clear hfz82_4
         try clear hfz84_0
         try clear hfz84_1
         try clear hfz84_2
         try clear hfz84_3
         try clear hfz84_4
         try clear hfz86_0
         try clear hfz86_1
         try clear hfz86_2
         try clear hfz86_3
         try clear hfz86_4
         try clear hfz86_5
         try clear hfz87_0
         try clear hfz87_1
         try clear hfz87_2
         try clear hfz87_3
         try clear hfz87_4
         try clear hfz96_0
         try clear hfz96_1
         try clear hfz96_2
         try clear hfz96_3
         try clear hfz96_4
         try clear p2
         obtain ⟨kq, x8_122, HA, HJ122, HO_8, BK155, BK163, HB⟩ := hcut
         cases kq with
         | zero => exact absurd HA.out (by simp [target_line.j2])
         | succ kj122 =>
          have H := HA.out
          clear HA
          simp only [target_line.j2] at H
          by_cases c133 : t161 = 0
          ·rw [if_pos c133] at H
           have c133b0 : (t161 == 0) = true := beq_iff_eq.mpr c133
           have c133b1 : (t161 != 0) = false := bne_eq_false_iff_eq.mpr c133
           clear c133
           by_cases c134 : (x8_122.length : Int) = 0
           ·rw [if_pos c134] at H
            have c134b0 : ((x8_122.length : Int) == 0) = true := beq_iff_eq.mpr c134
            have c134b1 : ((x8_122.length : Int) != 0) = false := bne_eq_false_iff_eq.mpr c134
            clear c134
            by_cases c135 : t157.size + 2 ≤ 9223372036854775807
            ·rw [if_pos c135] at H
             have c135b0 := eq_true c135
             have c135b1 : decide (t157.size + 2 ≤ 9223372036854775807) = true := decide_eq_true c135
             try have c135b2 : (9223372036854775807 < t157.size + 2) = False := eq_false (Nat.not_lt.2 c135)
             have c135b3 := c135b2
             try simp only [ByteArray.size_append, bsz1, bsz2, bsz3, bsz5, bsz6] at c135b3
             obtain rfl := Option.some.inj H
             have hnb136 := NB163_155.out
             have hnc136 := NB155_163.out
             have hcz137_0 : wc.cell? ⟨gb163, 0, none⟩ = some (.int .i64 t156) := (blk_cell BK163.out 0).trans rfl
             have hcz137_1 : wc.cell? ⟨gb163, 1, none⟩ = some (.string t157) := (blk_cell BK163.out 1).trans rfl
             have hcz137_2 : wc.cell? ⟨gb163, 2, none⟩ = some (.bool t158) := (blk_cell BK163.out 2).trans rfl
             have hcz137_3 : wc.cell? ⟨gb163, 3, none⟩ = some (.bool t159) := (blk_cell BK163.out 3).trans rfl
             have hcz137_4 : wc.cell? ⟨gb163, 4, none⟩ = some (.bool t160) := (blk_cell BK163.out 4).trans rfl
             have hcz137_5 : wc.cell? ⟨gb163, 5, none⟩ = some (.int .i64 t161) := (blk_cell BK163.out 5).trans rfl
             have hfz137_0 := blk_frozen BK163.out 0
             have hfz137_1 := blk_frozen BK163.out 1
             have hfz137_2 := blk_frozen BK163.out 2
             have hfz137_3 := blk_frozen BK163.out 3
             have hfz137_4 := blk_frozen BK163.out 4
             have hfz137_5 := blk_frozen BK163.out 5
             obtain ⟨Ao138, co138, eo138⟩ := Kd.R_slice HO_8.out
             subst eo138
             go_wp2
             go_ret
             exact ⟨ts35_, ts32_ HB.out GE155.out GE163.out⟩
            rw [if_neg c135] at H
            exact absurd H (by simp)
           rw [if_neg c134] at H
           have c134b0 : ((x8_122.length : Int) == 0) = false := beq_eq_false_iff_ne.mpr c134
           have c134b1 : ((x8_122.length : Int) != 0) = true := bne_iff_ne.mpr c134
           have c134b2 : ¬ (x8_122 = []) := fun h_ => c134 (by rw [h_]; rfl)
           by_cases c139 : t157.size + 1 ≤ 9223372036854775807
           ·rw [if_pos c139] at H
            have c139b0 := eq_true c139
            have c139b1 : decide (t157.size + 1 ≤ 9223372036854775807) = true := decide_eq_true c139
            try have c139b2 : (9223372036854775807 < t157.size + 1) = False := eq_false (Nat.not_lt.2 c139)
            have c139b3 := c139b2
            try simp only [ByteArray.size_append, bsz1, bsz2, bsz3, bsz5, bsz6] at c139b3
            obtain ⟨t188, A140, H⟩ := bsA_ H
            try dsimp only at H
            by_cases c141 : (t157 ++ (⟨#[32]⟩ : ByteArray)).size + t188.size ≤ 9223372036854775807
            ·rw [if_pos c141] at H
             have c141b0 := eq_true c141
             have c141b1 : decide ((t157 ++ (⟨#[32]⟩ : ByteArray)).size + t188.size ≤ 9223372036854775807) = true := decide_eq_true c141
             try have c141b2 : (9223372036854775807 < (t157 ++ (⟨#[32]⟩ : ByteArray)).size + t188.size) = False := eq_false (Nat.not_lt.2 c141)
             have c141b3 := c141b2
             try simp only [ByteArray.size_append, bsz1, bsz2, bsz3, bsz5, bsz6] at c141b3
             by_cases c142 : ((t157 ++ (⟨#[32]⟩ : ByteArray)) ++ t188).size + 2 ≤ 9223372036854775807
             ·rw [if_pos c142] at H
              have c142b0 := eq_true c142
              have c142b1 : decide (((t157 ++ (⟨#[32]⟩ : ByteArray)) ++ t188).size + 2 ≤ 9223372036854775807) = true := decide_eq_true c142
              try have c142b2 : (9223372036854775807 < ((t157 ++ (⟨#[32]⟩ : ByteArray)) ++ t188).size + 2) = False := eq_false (Nat.not_lt.2 c142)
              have c142b3 := c142b2
              try simp only [ByteArray.size_append, bsz1, bsz2, bsz3, bsz5, bsz6] at c142b3
              obtain rfl := Option.some.inj H
              have hnb143 := NB163_155.out
              have hnc143 := NB155_163.out
              have hcz144_0 : wc.cell? ⟨gb163, 0, none⟩ = some (.int .i64 t156) := (blk_cell BK163.out 0).trans rfl
              have hcz144_1 : wc.cell? ⟨gb163, 1, none⟩ = some (.string t157) := (blk_cell BK163.out 1).trans rfl
              have hcz144_2 : wc.cell? ⟨gb163, 2, none⟩ = some (.bool t158) := (blk_cell BK163.out 2).trans rfl
              have hcz144_3 : wc.cell? ⟨gb163, 3, none⟩ = some (.bool t159) := (blk_cell BK163.out 3).trans rfl
              have hcz144_4 : wc.cell? ⟨gb163, 4, none⟩ = some (.bool t160) := (blk_cell BK163.out 4).trans rfl
              have hcz144_5 : wc.cell? ⟨gb163, 5, none⟩ = some (.int .i64 t161) := (blk_cell BK163.out 5).trans rfl
              have hfz144_0 := blk_frozen BK163.out 0
              have hfz144_1 := blk_frozen BK163.out 1
              have hfz144_2 := blk_frozen BK163.out 2
              have hfz144_3 := blk_frozen BK163.out 3
              have hfz144_4 := blk_frozen BK163.out 4
              have hfz144_5 := blk_frozen BK163.out 5
              obtain ⟨Ao145, co145, eo145⟩ := Kd.R_slice HO_8.out
              subst eo145
              try go_wp2
              have n0_ := Aside0.mk (Kd.R_drew HO_8.out)
              have n1_ := Aside0.mk (blk_drew BK155.out)
              have n2_ := Aside0.mk (blk_drew BK163.out)
              have n3_ := Aside0.mk (below_drew1 HB.out)
              clear HO_8
              clear BK155
              clear BK163
              clear HB
              have HO_8 := n0_
              have BK155 := n1_
              have BK163 := n2_
              have HB := n3_
              clear n0_ n1_ n2_ n3_
              refine start_ (n := 8) (S := fun w' => w'.cell? ⟨gb163, 0, none⟩ = some (.int .i64 t156) ∧ w'.cell? ⟨gb163, 1, none⟩ = some (.string t157) ∧ w'.cell? ⟨gb163, 2, none⟩ = some (.bool t158) ∧ w'.cell? ⟨gb163, 3, none⟩ = some (.bool t159) ∧ w'.cell? ⟨gb163, 4, none⟩ = some (.bool t160) ∧ w'.cell? ⟨gb163, 5, none⟩ = some (.int .i64 t161)) (ds := []) #[false, false, false, false, false, false, false, false] (by kernel_rfl) rfl rfl ⟨(blk_cell BK163.out 0).trans rfl, (blk_cell BK163.out 1).trans rfl, (blk_cell BK163.out 2).trans rfl, (blk_cell BK163.out 3).trans rfl, (blk_cell BK163.out 4).trans rfl, (blk_cell BK163.out 5).trans rfl⟩ (fun hHeld => ?_); refine with_tabW target_line.tab21 target_line.bits21 (fun HT_ HW_ => ?_)
              generalize wc.drew = w146 at HO_8 BK155 BK163 HB hHeld ⊢
              refine pure_ (i := 0) (N := some 84) (v := ?_) (a' := ?_) #[true, false, false, false, false, false, false, false] rfl rfl (any_of HT_.out (by kernel_rfl)) (fun _ _ _ h => h) (Or.inl ⟨by rfl, ?_⟩) ?_ ?_
              rotate_left
              ·intro w'
               go_simp
               with_reducible rfl
              rotate_left
              ·simp only [Act.put, List.setIfInBounds_toArray, List.set_cons_zero, List.set_cons_succ, i64_w, i32_w]
               rfl
              refine pure_ (i := 3) (N := some 87) (v := ?_) (a' := ?_) #[true, false, false, true, false, false, false, false] rfl rfl (any_of HT_.out (by kernel_rfl)) (fun _ _ _ h => h) (Or.inl ⟨by rfl, ?_⟩) ?_ ?_
              rotate_left
              ·intro w'
               go_simp
               with_reducible rfl
              rotate_left
              ·simp only [Act.put, List.setIfInBounds_toArray, List.set_cons_zero, List.set_cons_succ, i64_w, i32_w]
               rfl
              refine take_ (i := 1) (N := some 85) (v := ?_) (a' := ?_) #[true, true, false, true, false, false, false, false] rfl rfl (take_ofW HT_.out HW_.out (by kernel_rfl)) (fun _ _ _ h => h) (Or.inl ⟨by rfl, ?_⟩) hHeld ?_ ?_
              rotate_left
              ·rintro w' ⟨s0, s1, s2, s3, s4, s5⟩
               go_simp
               with_reducible rfl
              rotate_left
              ·simp only [Act.put, List.setIfInBounds_toArray, List.set_cons_zero, List.set_cons_succ, i64_w, i32_w]
               rfl
              refine pure_ (i := 2) (N := some 86) (v := ?_) (a' := ?_) #[true, true, true, true, false, false, false, false] rfl rfl (any_of HT_.out (by kernel_rfl)) (fun _ _ _ h => h) (Or.inl ⟨by rfl, ?_⟩) ?_ ?_
              rotate_left
              ·intro w'
               go_simp
               with_reducible rfl
              rotate_left
              ·simp only [Act.put, List.setIfInBounds_toArray, List.set_cons_zero, List.set_cons_succ, i64_w, i32_w]
               rfl
              refine one_ (i := 4) (N := some 88) #[true, true, true, true, true, false, false, false] rfl rfl (one_of HT_.out (by kernel_rfl)) (by decide) (fun K hK => ?_)
              refine goes_ Tryd.func74 (by kernel_rfl) rfl #[.slice Ao145 x8_122.length co145, .string (⟨#[44, 32]⟩ : ByteArray)] (by rfl) rfl rfl ts12_ ?_
              with_reducible refine (et_Join.calls _ _ x8_122 (⟨#[44, 32]⟩ : ByteArray) t188 _ ?side1 ?side2 A140.out).mono ?_
              (case side1 => exact ⟨_, _, ts25_ HO_8.out⟩)
              (case side2 => exact ts48_ HO_8.out)
              rintro e w147 ⟨rfl, hb⟩
              refine ⟨_, rfl, ?_⟩
              have n0_ := Aside0.mk (Kd.R_below (ts25_ HO_8.out) hb)
              have n1_ := Aside0.mk (blk_below (g := gb155) (o := .cells #[.int .i64 a0_0, .int .i64 a0_1, .int .i64 a0_2, .int .i64 a0_3, .int .i64 a0_4] 26 (0, 0)) (ts18_ BK155.out) hb)
              have n2_ := Aside0.mk (blk_below (g := gb163) (o := .cells #[.int .i64 t156, .string t157, .bool t158, .bool t159, .bool t160, .int .i64 t161] 50 (0, 0)) (ts18_ BK163.out) hb)
              have n3_ := Aside0.mk (below_step (ts32_ HB.out GE155.out GE163.out) hb)
              clear HO_8
              clear BK155
              clear BK163
              clear HB
              have HO_8 := n0_
              have BK155 := n1_
              have BK163 := n2_
              have HB := n3_
              clear n0_ n1_ n2_ n3_
              (try clear hb)
              (try clear hb2)
              (try clear hk)
              (try clear hi)
              refine hK.out _ _ ⟨(blk_cell BK163.out 0).trans rfl, (blk_cell BK163.out 1).trans rfl, (blk_cell BK163.out 2).trans rfl, (blk_cell BK163.out 3).trans rfl, (blk_cell BK163.out 4).trans rfl, (blk_cell BK163.out 5).trans rfl⟩ (fun hHeld => ?_)
              clear hK K
              refine norm_ (a' := ?_) ?_ ?_
              rotate_left
              ·show Act.put _ (some 88) _ = _
               simp only [Act.put, List.setIfInBounds_toArray, List.set_cons_zero, List.set_cons_succ, i64_w, i32_w]
               rfl
              refine pure_ (i := 5) (N := some 89) (v := ?_) (a' := ?_) #[true, true, true, true, true, true, false, false] rfl rfl (any_of HT_.out (by kernel_rfl)) (fun _ _ _ h => h) (Or.inl ⟨by rfl, ?_⟩) ?_ ?_
              rotate_left
              ·intro w'
               go_simp
               with_reducible rfl
              rotate_left
              ·simp only [Act.put, List.setIfInBounds_toArray, List.set_cons_zero, List.set_cons_succ, i64_w, i32_w]
               rfl
              refine pure_ (i := 6) (N := some 90) (v := ?_) (a' := ?_) #[true, true, true, true, true, true, true, false] rfl rfl (any_of HT_.out (by kernel_rfl)) (fun _ _ _ h => h) (Or.inl ⟨by rfl, ?_⟩) ?_ ?_
              rotate_left
              ·intro w'
               go_simp
               with_reducible rfl
              rotate_left
              ·simp only [Act.put, List.setIfInBounds_toArray, List.set_cons_zero, List.set_cons_succ, i64_w, i32_w]
               rfl
              refine pure_ (i := 7) (N := some 2) (v := ?_) (a' := ?_) #[true, true, true, true, true, true, true, true] rfl rfl (any_of HT_.out (by kernel_rfl)) (fun _ _ _ h => h) (Or.inl ⟨by rfl, ?_⟩) ?_ ?_
              rotate_left
              ·intro w'
               go_simp
               with_reducible rfl
              rotate_left
              ·simp only [Act.put, List.setIfInBounds_toArray, List.set_cons_zero, List.set_cons_succ, i64_w, i32_w]
               rfl
              refine done_ (done_of HT_.out (by kernel_rfl)) ?_
              try go_wp2
              go_ret
              exact ⟨ts35_, ts32_ HB.out GE155.out GE163.out⟩
             rw [if_neg c142] at H
             exact absurd H (by simp)
            rw [if_neg c141] at H
            exact absurd H (by simp)
           rw [if_neg c139] at H
           exact absurd H (by simp)
          rw [if_neg c133] at H
          have c133b0 : (t161 == 0) = false := beq_eq_false_iff_ne.mpr c133
          have c133b1 : (t161 != 0) = true := bne_iff_ne.mpr c133
          by_cases c148 : x8_122.length < 8796093022208
          ·rw [if_pos c148] at H
           have LMc148 := Aside0.mk c148
           clear c148
           obtain ⟨y189, hy189⟩ : ∃ y_ : List ByteArray, y_ = (x8_122 ++ [t164]) := ⟨_, rfl⟩
           replace H : (if (y189.length : Int) = 0 then (if t157.size + 2 ≤ 9223372036854775807 then (some (t157 ++ (⟨#[59, 10]⟩ : ByteArray))) else (none)) else (if t157.size + 1 ≤ 9223372036854775807 then ((et_Join.f y189 (⟨#[44, 32]⟩ : ByteArray)).bind fun t192 => (if (t157 ++ (⟨#[32]⟩ : ByteArray)).size + t192.size ≤ 9223372036854775807 then (if ((t157 ++ (⟨#[32]⟩ : ByteArray)) ++ t192).size + 2 ≤ 9223372036854775807 then (some (((t157 ++ (⟨#[32]⟩ : ByteArray)) ++ t192) ++ (⟨#[59, 10]⟩ : ByteArray))) else (none)) else (none))) else (none))) = some r := by first | (rw [hy189]; with_reducible exact H) | (have H2_ := (Option.bind_some _ _).symm.trans H; rw [hy189]; with_reducible exact H2_) | (have H2_ := (Option.bind_some _ _).symm.trans H; with_reducible exact H2_) | with_reducible exact H | (rw [hy189]; exact H) | exact H
           have Ny189 := Aside0.mk hy189
           clear hy189
           by_cases c149 : (y189.length : Int) = 0
           ·rw [if_pos c149] at H
            have c149b0 : ((y189.length : Int) == 0) = true := beq_iff_eq.mpr c149
            have c149b1 : ((y189.length : Int) != 0) = false := bne_eq_false_iff_eq.mpr c149
            clear c149
            by_cases c150 : t157.size + 2 ≤ 9223372036854775807
            ·rw [if_pos c150] at H
             have c150b0 := eq_true c150
             have c150b1 : decide (t157.size + 2 ≤ 9223372036854775807) = true := decide_eq_true c150
             try have c150b2 : (9223372036854775807 < t157.size + 2) = False := eq_false (Nat.not_lt.2 c150)
             have c150b3 := c150b2
             try simp only [ByteArray.size_append, bsz1, bsz2, bsz3, bsz5, bsz6] at c150b3
             obtain rfl := Option.some.inj H
             have hnb151 := NB163_155.out
             have hnc151 := NB155_163.out
             have hcz152_0 : wc.cell? ⟨gb163, 0, none⟩ = some (.int .i64 t156) := (blk_cell BK163.out 0).trans rfl
             have hcz152_1 : wc.cell? ⟨gb163, 1, none⟩ = some (.string t157) := (blk_cell BK163.out 1).trans rfl
             have hcz152_2 : wc.cell? ⟨gb163, 2, none⟩ = some (.bool t158) := (blk_cell BK163.out 2).trans rfl
             have hcz152_3 : wc.cell? ⟨gb163, 3, none⟩ = some (.bool t159) := (blk_cell BK163.out 3).trans rfl
             have hcz152_4 : wc.cell? ⟨gb163, 4, none⟩ = some (.bool t160) := (blk_cell BK163.out 4).trans rfl
             have hcz152_5 : wc.cell? ⟨gb163, 5, none⟩ = some (.int .i64 t161) := (blk_cell BK163.out 5).trans rfl
             have hfz152_0 := blk_frozen BK163.out 0
             have hfz152_1 := blk_frozen BK163.out 1
             have hfz152_2 := blk_frozen BK163.out 2
             have hfz152_3 := blk_frozen BK163.out 3
             have hfz152_4 := blk_frozen BK163.out 4
             have hfz152_5 := blk_frozen BK163.out 5
             go_wp2_with (first | ((with_reducible refine gate_builtin (b := .append) (xs := #[.tmp 58, .tmp 60]) rfl ?_); at_builtin; refine Kd.R_append Kd.string (w0 := w) w.heap.size rfl (.tmp 58) (.tmp 60) 108 9 (.string ⟨#[]⟩) 16 rfl Tryd.underlying108 info9 rfl (by decide) (by omega) u8 x8_122 t164 [.string t164] (fun _ => True) (fun _ => False) rfl rfl ?aP (fun _ hk => hk.elim) ?aF ?aO ?aB ?aS ?aL ?_; (case aP => exact rfl); (case aB => exact (ts32_ HB.out GE155.out GE163.out)); (case aF => exact (fun _ _ => trivial)); (case aO => exact (ts25_ HO_8.out)); (case aS => exact (below_size (ts32_ HB.out GE155.out GE163.out))); (case aL => have := LMc148.out; omega); intro v190 w153 ho hb hg hat; rw [← Ny189.out] at ho; replace BK155 := Aside0.mk (blk_grown (g := gb155) (o := .cells #[.int .i64 a0_0, .int .i64 a0_1, .int .i64 a0_2, .int .i64 a0_3, .int .i64 a0_4] 26 (0, 0)) (ts18_ BK155.out) hg (Kd.R_ne HO_8.out BK155.out (by decide))); replace BK163 := Aside0.mk (blk_grown (g := gb163) (o := .cells #[.int .i64 t156, .string t157, .bool t158, .bool t159, .bool t160, .int .i64 t161] 50 (0, 0)) (ts18_ BK163.out) hg (Kd.R_ne HO_8.out BK163.out (by decide))); replace HB := Aside0.mk (hb); have HO191 := Aside0.mk (ho); clear HO_8; clear ho hb hg hat; obtain ⟨Ao154, co154, eo154⟩ := Kd.R_slice HO191.out; subst eo154; have hcz155_0 : w153.cell? ⟨gb163, 0, none⟩ = some (.int .i64 t156) := (blk_cell BK163.out 0).trans rfl; have hcz155_1 : w153.cell? ⟨gb163, 1, none⟩ = some (.string t157) := (blk_cell BK163.out 1).trans rfl; have hcz155_2 : w153.cell? ⟨gb163, 2, none⟩ = some (.bool t158) := (blk_cell BK163.out 2).trans rfl; have hcz155_3 : w153.cell? ⟨gb163, 3, none⟩ = some (.bool t159) := (blk_cell BK163.out 3).trans rfl; have hcz155_4 : w153.cell? ⟨gb163, 4, none⟩ = some (.bool t160) := (blk_cell BK163.out 4).trans rfl; have hcz155_5 : w153.cell? ⟨gb163, 5, none⟩ = some (.int .i64 t161) := (blk_cell BK163.out 5).trans rfl; have hfz155_0 := blk_frozen BK163.out 0; have hfz155_1 := blk_frozen BK163.out 1; have hfz155_2 := blk_frozen BK163.out 2; have hfz155_3 := blk_frozen BK163.out 3; have hfz155_4 := blk_frozen BK163.out 4; have hfz155_5 := blk_frozen BK163.out 5))
             go_ret
             exact ⟨ts35_, ts32_ HB.out GE155.out GE163.out⟩
            rw [if_neg c150] at H
            exact absurd H (by simp)
           rw [if_neg c149] at H
           have c149b0 : ((y189.length : Int) == 0) = false := beq_eq_false_iff_ne.mpr c149
           have c149b1 : ((y189.length : Int) != 0) = true := bne_iff_ne.mpr c149
           have c149b2 : ¬ (y189 = []) := fun h_ => c149 (by rw [h_]; rfl)
           by_cases c156 : t157.size + 1 ≤ 9223372036854775807
           ·rw [if_pos c156] at H
            have c156b0 := eq_true c156
            have c156b1 : decide (t157.size + 1 ≤ 9223372036854775807) = true := decide_eq_true c156
            try have c156b2 : (9223372036854775807 < t157.size + 1) = False := eq_false (Nat.not_lt.2 c156)
            have c156b3 := c156b2
            try simp only [ByteArray.size_append, bsz1, bsz2, bsz3, bsz5, bsz6] at c156b3
            obtain ⟨t192, A157, H⟩ := bsA_ H
            try dsimp only at H
            by_cases c158 : (t157 ++ (⟨#[32]⟩ : ByteArray)).size + t192.size ≤ 9223372036854775807
            ·rw [if_pos c158] at H
             have c158b0 := eq_true c158
             have c158b1 : decide ((t157 ++ (⟨#[32]⟩ : ByteArray)).size + t192.size ≤ 9223372036854775807) = true := decide_eq_true c158
             try have c158b2 : (9223372036854775807 < (t157 ++ (⟨#[32]⟩ : ByteArray)).size + t192.size) = False := eq_false (Nat.not_lt.2 c158)
             have c158b3 := c158b2
             try simp only [ByteArray.size_append, bsz1, bsz2, bsz3, bsz5, bsz6] at c158b3
             by_cases c159 : ((t157 ++ (⟨#[32]⟩ : ByteArray)) ++ t192).size + 2 ≤ 9223372036854775807
             ·rw [if_pos c159] at H
              have c159b0 := eq_true c159
              have c159b1 : decide (((t157 ++ (⟨#[32]⟩ : ByteArray)) ++ t192).size + 2 ≤ 9223372036854775807) = true := decide_eq_true c159
              try have c159b2 : (9223372036854775807 < ((t157 ++ (⟨#[32]⟩ : ByteArray)) ++ t192).size + 2) = False := eq_false (Nat.not_lt.2 c159)
              have c159b3 := c159b2
              try simp only [ByteArray.size_append, bsz1, bsz2, bsz3, bsz5, bsz6] at c159b3
              obtain rfl := Option.some.inj H
              have hnb160 := NB163_155.out
              have hnc160 := NB155_163.out
              have hcz161_0 : wc.cell? ⟨gb163, 0, none⟩ = some (.int .i64 t156) := (blk_cell BK163.out 0).trans rfl
              have hcz161_1 : wc.cell? ⟨gb163, 1, none⟩ = some (.string t157) := (blk_cell BK163.out 1).trans rfl
              have hcz161_2 : wc.cell? ⟨gb163, 2, none⟩ = some (.bool t158) := (blk_cell BK163.out 2).trans rfl
              have hcz161_3 : wc.cell? ⟨gb163, 3, none⟩ = some (.bool t159) := (blk_cell BK163.out 3).trans rfl
              have hcz161_4 : wc.cell? ⟨gb163, 4, none⟩ = some (.bool t160) := (blk_cell BK163.out 4).trans rfl
              have hcz161_5 : wc.cell? ⟨gb163, 5, none⟩ = some (.int .i64 t161) := (blk_cell BK163.out 5).trans rfl
              have hfz161_0 := blk_frozen BK163.out 0
              have hfz161_1 := blk_frozen BK163.out 1
              have hfz161_2 := blk_frozen BK163.out 2
              have hfz161_3 := blk_frozen BK163.out 3
              have hfz161_4 := blk_frozen BK163.out 4
              have hfz161_5 := blk_frozen BK163.out 5
              try go_wp2_with (first | ((with_reducible refine gate_builtin (b := .append) (xs := #[.tmp 58, .tmp 60]) rfl ?_); at_builtin; refine Kd.R_append Kd.string (w0 := w) w.heap.size rfl (.tmp 58) (.tmp 60) 108 9 (.string ⟨#[]⟩) 16 rfl Tryd.underlying108 info9 rfl (by decide) (by omega) u8 x8_122 t164 [.string t164] (fun _ => True) (fun _ => False) rfl rfl ?aP (fun _ hk => hk.elim) ?aF ?aO ?aB ?aS ?aL ?_; (case aP => exact rfl); (case aB => exact (ts32_ HB.out GE155.out GE163.out)); (case aF => exact (fun _ _ => trivial)); (case aO => exact (ts25_ HO_8.out)); (case aS => exact (below_size (ts32_ HB.out GE155.out GE163.out))); (case aL => have := LMc148.out; omega); intro v190 w162 ho hb hg hat; rw [← Ny189.out] at ho; replace BK155 := Aside0.mk (blk_grown (g := gb155) (o := .cells #[.int .i64 a0_0, .int .i64 a0_1, .int .i64 a0_2, .int .i64 a0_3, .int .i64 a0_4] 26 (0, 0)) (ts18_ BK155.out) hg (Kd.R_ne HO_8.out BK155.out (by decide))); replace BK163 := Aside0.mk (blk_grown (g := gb163) (o := .cells #[.int .i64 t156, .string t157, .bool t158, .bool t159, .bool t160, .int .i64 t161] 50 (0, 0)) (ts18_ BK163.out) hg (Kd.R_ne HO_8.out BK163.out (by decide))); replace HB := Aside0.mk (hb); have HO191 := Aside0.mk (ho); clear HO_8; clear ho hb hg hat; obtain ⟨Ao163, co163, eo163⟩ := Kd.R_slice HO191.out; subst eo163))
              have n0_ := Aside0.mk (Kd.R_drew HO191.out)
              have n1_ := Aside0.mk (blk_drew BK155.out)
              have n2_ := Aside0.mk (blk_drew BK163.out)
              have n3_ := Aside0.mk (below_drew1 HB.out)
              clear HO191
              clear BK155
              clear BK163
              clear HB
              have HO191 := n0_
              have BK155 := n1_
              have BK163 := n2_
              have HB := n3_
              clear n0_ n1_ n2_ n3_
              refine start_ (n := 8) (S := fun w' => w'.cell? ⟨gb163, 0, none⟩ = some (.int .i64 t156) ∧ w'.cell? ⟨gb163, 1, none⟩ = some (.string t157) ∧ w'.cell? ⟨gb163, 2, none⟩ = some (.bool t158) ∧ w'.cell? ⟨gb163, 3, none⟩ = some (.bool t159) ∧ w'.cell? ⟨gb163, 4, none⟩ = some (.bool t160) ∧ w'.cell? ⟨gb163, 5, none⟩ = some (.int .i64 t161)) (ds := []) #[false, false, false, false, false, false, false, false] (by kernel_rfl) rfl rfl ⟨(blk_cell BK163.out 0).trans rfl, (blk_cell BK163.out 1).trans rfl, (blk_cell BK163.out 2).trans rfl, (blk_cell BK163.out 3).trans rfl, (blk_cell BK163.out 4).trans rfl, (blk_cell BK163.out 5).trans rfl⟩ (fun hHeld => ?_); refine with_tabW target_line.tab21 target_line.bits21 (fun HT_ HW_ => ?_)
              generalize w162.drew = w164 at HO191 BK155 BK163 HB hHeld ⊢
              refine pure_ (i := 0) (N := some 84) (v := ?_) (a' := ?_) #[true, false, false, false, false, false, false, false] rfl rfl (any_of HT_.out (by kernel_rfl)) (fun _ _ _ h => h) (Or.inl ⟨by rfl, ?_⟩) ?_ ?_
              rotate_left
              ·intro w'
               go_simp
               with_reducible rfl
              rotate_left
              ·simp only [Act.put, List.setIfInBounds_toArray, List.set_cons_zero, List.set_cons_succ, i64_w, i32_w]
               rfl
              refine pure_ (i := 3) (N := some 87) (v := ?_) (a' := ?_) #[true, false, false, true, false, false, false, false] rfl rfl (any_of HT_.out (by kernel_rfl)) (fun _ _ _ h => h) (Or.inl ⟨by rfl, ?_⟩) ?_ ?_
              rotate_left
              ·intro w'
               go_simp
               with_reducible rfl
              rotate_left
              ·simp only [Act.put, List.setIfInBounds_toArray, List.set_cons_zero, List.set_cons_succ, i64_w, i32_w]
               rfl
              refine take_ (i := 1) (N := some 85) (v := ?_) (a' := ?_) #[true, true, false, true, false, false, false, false] rfl rfl (take_ofW HT_.out HW_.out (by kernel_rfl)) (fun _ _ _ h => h) (Or.inl ⟨by rfl, ?_⟩) hHeld ?_ ?_
              rotate_left
              ·rintro w' ⟨s0, s1, s2, s3, s4, s5⟩
               go_simp
               with_reducible rfl
              rotate_left
              ·simp only [Act.put, List.setIfInBounds_toArray, List.set_cons_zero, List.set_cons_succ, i64_w, i32_w]
               rfl
              refine pure_ (i := 2) (N := some 86) (v := ?_) (a' := ?_) #[true, true, true, true, false, false, false, false] rfl rfl (any_of HT_.out (by kernel_rfl)) (fun _ _ _ h => h) (Or.inl ⟨by rfl, ?_⟩) ?_ ?_
              rotate_left
              ·intro w'
               go_simp
               with_reducible rfl
              rotate_left
              ·simp only [Act.put, List.setIfInBounds_toArray, List.set_cons_zero, List.set_cons_succ, i64_w, i32_w]
               rfl
              refine one_ (i := 4) (N := some 88) #[true, true, true, true, true, false, false, false] rfl rfl (one_of HT_.out (by kernel_rfl)) (by decide) (fun K hK => ?_)
              refine goes_ Tryd.func74 (by kernel_rfl) rfl #[.slice Ao163 y189.length co163, .string (⟨#[44, 32]⟩ : ByteArray)] (by rfl) rfl rfl ts12_ ?_
              with_reducible refine (et_Join.calls _ _ y189 (⟨#[44, 32]⟩ : ByteArray) t192 _ ?side1 ?side2 A157.out).mono ?_
              (case side1 => exact ⟨_, _, ts25_ HO191.out⟩)
              (case side2 => exact ts48_ HO191.out)
              rintro e w165 ⟨rfl, hb⟩
              refine ⟨_, rfl, ?_⟩
              have n0_ := Aside0.mk (Kd.R_below (ts25_ HO191.out) hb)
              have n1_ := Aside0.mk (blk_below (g := gb155) (o := .cells #[.int .i64 a0_0, .int .i64 a0_1, .int .i64 a0_2, .int .i64 a0_3, .int .i64 a0_4] 26 (0, 0)) (ts18_ BK155.out) hb)
              have n2_ := Aside0.mk (blk_below (g := gb163) (o := .cells #[.int .i64 t156, .string t157, .bool t158, .bool t159, .bool t160, .int .i64 t161] 50 (0, 0)) (ts18_ BK163.out) hb)
              have n3_ := Aside0.mk (below_step (ts32_ HB.out GE155.out GE163.out) hb)
              clear HO191
              clear BK155
              clear BK163
              clear HB
              have HO191 := n0_
              have BK155 := n1_
              have BK163 := n2_
              have HB := n3_
              clear n0_ n1_ n2_ n3_
              (try clear hb)
              (try clear hb2)
              (try clear hk)
              (try clear hi)
              refine hK.out _ _ ⟨(blk_cell BK163.out 0).trans rfl, (blk_cell BK163.out 1).trans rfl, (blk_cell BK163.out 2).trans rfl, (blk_cell BK163.out 3).trans rfl, (blk_cell BK163.out 4).trans rfl, (blk_cell BK163.out 5).trans rfl⟩ (fun hHeld => ?_)
              clear hK K
              refine norm_ (a' := ?_) ?_ ?_
              rotate_left
              ·show Act.put _ (some 88) _ = _
               simp only [Act.put, List.setIfInBounds_toArray, List.set_cons_zero, List.set_cons_succ, i64_w, i32_w]
               rfl
              refine pure_ (i := 5) (N := some 89) (v := ?_) (a' := ?_) #[true, true, true, true, true, true, false, false] rfl rfl (any_of HT_.out (by kernel_rfl)) (fun _ _ _ h => h) (Or.inl ⟨by rfl, ?_⟩) ?_ ?_
              rotate_left
              ·intro w'
               go_simp
               with_reducible rfl
              rotate_left
              ·simp only [Act.put, List.setIfInBounds_toArray, List.set_cons_zero, List.set_cons_succ, i64_w, i32_w]
               rfl
              refine pure_ (i := 6) (N := some 90) (v := ?_) (a' := ?_) #[true, true, true, true, true, true, true, false] rfl rfl (any_of HT_.out (by kernel_rfl)) (fun _ _ _ h => h) (Or.inl ⟨by rfl, ?_⟩) ?_ ?_
              rotate_left
              ·intro w'
               go_simp
               with_reducible rfl
              rotate_left
              ·simp only [Act.put, List.setIfInBounds_toArray, List.set_cons_zero, List.set_cons_succ, i64_w, i32_w]
               rfl
              refine pure_ (i := 7) (N := some 2) (v := ?_) (a' := ?_) #[true, true, true, true, true, true, true, true] rfl rfl (any_of HT_.out (by kernel_rfl)) (fun _ _ _ h => h) (Or.inl ⟨by rfl, ?_⟩) ?_ ?_
              rotate_left
              ·intro w'
               go_simp
               with_reducible rfl
              rotate_left
              ·simp only [Act.put, List.setIfInBounds_toArray, List.set_cons_zero, List.set_cons_succ, i64_w, i32_w]
               rfl
              refine done_ (done_of HT_.out (by kernel_rfl)) ?_
              try go_wp2
              go_ret
              exact ⟨ts35_, ts32_ HB.out GE155.out GE163.out⟩
             rw [if_neg c159] at H
             exact absurd H (by simp)
            rw [if_neg c158] at H
            exact absurd H (by simp)
           rw [if_neg c156] at H
           exact absurd H (by simp)
          rw [if_neg c148] at H
          exact absurd H (by simp)
   rw [if_neg c7] at H
   exact absurd H (by simp)
  rw [if_neg c6] at H
  exact absurd H (by simp)
 rw [if_neg c4] at H
 exact absurd H (by simp)
end Go.Proofs.YtlaijeeeblcinaaDoor.A
