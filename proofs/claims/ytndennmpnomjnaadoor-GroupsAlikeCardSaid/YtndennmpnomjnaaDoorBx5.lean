/- Written by wip/tools/xprint.py, a program of this session that drives the kit's printer. Not trusted: Lean checks it. -/
import Derived.Test.YtndennmpnomjnaaDoorBx0
import Derived.Test.YtndennmpnomjnaaDoorBx1
import Derived.Test.YtndennmpnomjnaaDoorAx3
import Derived.Test.YtndennmpnomjnaaDoorAx5
import Derived.Test.YtndennmpnomjnaaDoorAx6
import Derived.Test.YtndennmpnomjnaaDoorKy
set_option linter.all false
set_option maxHeartbeats 8000000
set_option maxRecDepth 100000
namespace Go.Proofs.YtndennmpnomjnaaDoor.A
open Go.RowKit Go.Proofs.YtndennmpnomjnaaDoorW.PrintWords Go.Proofs.YtndennmpnomjnaaDoorW.PrintLast Go.Proofs.YtndennmpnomjnaaDoorW.PrintMore
attribute [local go_sem] max2_int min2_int max_two min_two max_three min_three max_four min_four   -- for this text's walks alone
set_option linter.unusedVariables false
set_option linter.unusedSimpArgs false
/-! ### cupellaw35_GroupsAlike: function 7 -/
mutual
def cupellaw35_GroupsAlike.j0 : Nat → List (S45) → Int → Int → Bool → Option (Bool)
 | 0, _, _, _, _ => none
 | k + 1, x0, x1, x2, x27 => if x27 = true then (some true) else ((groups_Key.f k x0 x1).bind fun bt207 => (if bt207.2 = 0 then (cupellaw35_GroupsAlike.l0 k x0 x1 x2 bt207.1 ([] : List (S45)) 0) else (some (bt207.1.toList == ([] : List UInt8)))))
def cupellaw35_GroupsAlike.l0 : Nat → List (S45) → Int → Int → ByteArray → List (S45) → Int → Option (Bool)
 | 0, _, _, _, _, _, _ => none
 | k + 1, x0, x1, x2, x7, x9, x10 => if x10 < (x0.length : Int) then (if 0 ≤ x10 then (if (((rd_T45 x0 x10).f1.f0).length : Int) > 100 then (some true) else (cupellaw35_GroupsAlike.l1 k x0 x1 x2 x7 x9 x10 0 ((rd_T45 x0 x10).f0) ([] : List Int) ((rd_T45 x0 x10).f1.f1) ((rd_T45 x0 x10).f1.f2))) else (none)) else (if (x0.length : Int) > 0 then (if 0 ≤ (wrap64 ((x0.length : Int) - 1)) then (if (wrap64 ((x0.length : Int) - 1)) < (x9.length : Int) then ((cupelref35_Bare.f k ((rd_T45 x9 (wrap64 ((x0.length : Int) - 1))).f0)).bind fun t223 => (if ((rd_T45 x9 (wrap64 ((x0.length : Int) - 1))).f0).toList = t223.toList then ((groups_Key.f k x9 x1).bind fun bt224 => (if bt224.2 = 0 then (some (x7.toList == bt224.1.toList)) else (none))) else (if t223.size + 3 ≤ 9223372036854775807 then ((cupelref26_Differ.f k (([(⟨t223 ++ (⟨#[32, 57, 57]⟩ : ByteArray), (⟨(rd_T45 x9 (wrap64 ((x0.length : Int) - 1))).f1.f0, (rd_T45 x9 (wrap64 ((x0.length : Int) - 1))).f1.f1, (rd_T45 x9 (wrap64 ((x0.length : Int) - 1))).f1.f2⟩ : S43)⟩ : S45), (⟨(rd_T45 x9 (wrap64 ((x0.length : Int) - 1))).f0, (⟨(rd_T45 x9 (wrap64 ((x0.length : Int) - 1))).f1.f0, (rd_T45 x9 (wrap64 ((x0.length : Int) - 1))).f1.f1, (rd_T45 x9 (wrap64 ((x0.length : Int) - 1))).f1.f2⟩ : S43)⟩ : S45)] : List (S45)))).bind fun bt230 => (if bt230.2 = 0 then (if (bt230.1.length : Int) = 0 then (if x9.length < 2513169434916 then ((groups_Key.f k (x9 ++ [(⟨t223 ++ (⟨#[32, 57, 57]⟩ : ByteArray), (⟨(rd_T45 x9 (wrap64 ((x0.length : Int) - 1))).f1.f0, (rd_T45 x9 (wrap64 ((x0.length : Int) - 1))).f1.f1, (rd_T45 x9 (wrap64 ((x0.length : Int) - 1))).f1.f2⟩ : S43)⟩ : S45)]) x1).bind fun bt237 => (if bt237.2 = 0 then (some (x7.toList == bt237.1.toList)) else (none))) else (none)) else (none)) else (none))) else (none)))) else (none)) else (none)) else ((groups_Key.f k x9 x1).bind fun bt239 => (if bt239.2 = 0 then (some (x7.toList == bt239.1.toList)) else (none))))
def cupellaw35_GroupsAlike.l1 : Nat → List (S45) → Int → Int → ByteArray → List (S45) → Int → Int → ByteArray → List Int → Int → Int → Option (Bool)
 | 0, _, _, _, _, _, _, _, _, _, _, _ => none
 | k + 1, x0, x1, x2, x7, x9, x10, x12, x212000, x212001, x212002, x212003 => if 0 ≤ x10 then (if x10 < (x0.length : Int) then (if x12 < (((rd_T45 x0 x10).f1.f0).length : Int) then (if 0 ≤ x12 then (if x212001.length < 17592186044416 then (cupellaw35_GroupsAlike.l1 k x0 x1 x2 x7 x9 x10 (wrap64 (x12 + 1)) x212000 (x212001 ++ [wrap64 ((rd ((rd_T45 x0 x10).f1.f0) x12) + x2)]) x212002 x212003) else (none)) else (none)) else (if x9.length < 2513169434916 then (cupellaw35_GroupsAlike.l0 k x0 x1 x2 x7 (x9 ++ [(⟨x212000, (⟨x212001, x212002, x212003⟩ : S43)⟩ : S45)]) (wrap64 (x10 + 1))) else (none))) else (none)) else (none)
end
def cupellaw35_GroupsAlike.f (k : Nat) (l0 : List (S45)) (a1 : Int) (a2 : Int) : Option (Bool) := (cupellaw35_shown.f k).bind fun t205 => (if t205 = true then (if (l0.length : Int) > 50 then (cupellaw35_GroupsAlike.j0 k l0 a1 a2 true) else ((cupellaw35_great.f k l0).bind fun t206 => (cupellaw35_GroupsAlike.j0 k l0 a1 a2 t206))) else (none))
theorem cupellaw35_GroupsAlike.mono_l : ∀ k, (∀ y0 y1 y2 y3, LeO (cupellaw35_GroupsAlike.j0 k y0 y1 y2 y3) (cupellaw35_GroupsAlike.j0 (k + 1) y0 y1 y2 y3)) ∧ (∀ y0 y1 y2 y3 y4 y5, LeO (cupellaw35_GroupsAlike.l0 k y0 y1 y2 y3 y4 y5) (cupellaw35_GroupsAlike.l0 (k + 1) y0 y1 y2 y3 y4 y5)) ∧ (∀ y0 y1 y2 y3 y4 y5 y6 y7 y8 y9 y10, LeO (cupellaw35_GroupsAlike.l1 k y0 y1 y2 y3 y4 y5 y6 y7 y8 y9 y10) (cupellaw35_GroupsAlike.l1 (k + 1) y0 y1 y2 y3 y4 y5 y6 y7 y8 y9 y10))
 | 0 => ⟨fun _ _ _ _ r h => by simp [cupellaw35_GroupsAlike.j0] at h, fun _ _ _ _ _ _ r h => by simp [cupellaw35_GroupsAlike.l0] at h, fun _ _ _ _ _ _ _ _ _ _ _ r h => by simp [cupellaw35_GroupsAlike.l1] at h⟩
 | k + 1 => by
  obtain ⟨ih0, ih1, ih2⟩ := cupellaw35_GroupsAlike.mono_l k
  refine ⟨?_, ?_, ?_⟩
  ·intro y0 y1 y2 y3
   unfold cupellaw35_GroupsAlike.j0
   repeat' first
   | (with_reducible exact ih0 _ _ _ _)
   | (with_reducible exact ih1 _ _ _ _ _ _)
   | (with_reducible exact ih2 _ _ _ _ _ _ _ _ _ _ _)
   | (with_reducible exact cupellaw35_great.mono _ _)
   | (with_reducible exact cupellaw35_shown.mono _)
   | (with_reducible exact cupelref26_Differ.mono _ _)
   | (with_reducible exact cupelref35_Bare.mono _ _)
   | (with_reducible exact groups_Key.mono _ _ _)
   | (with_reducible exact LeO.refl _)
   | (with_reducible exact LeO.none _)
   | (with_reducible refine LeO.ite ?_ ?_)
   | (with_reducible refine LeO.bind ?_ (fun _ => ?_))
   | exact LeO.none _
   | refine LeO.ite ?_ ?_
   | refine LeO.bind ?_ (fun _ => ?_)
  ·intro y0 y1 y2 y3 y4 y5
   unfold cupellaw35_GroupsAlike.l0
   repeat' first
   | (with_reducible exact ih0 _ _ _ _)
   | (with_reducible exact ih1 _ _ _ _ _ _)
   | (with_reducible exact ih2 _ _ _ _ _ _ _ _ _ _ _)
   | (with_reducible exact cupellaw35_great.mono _ _)
   | (with_reducible exact cupellaw35_shown.mono _)
   | (with_reducible exact cupelref26_Differ.mono _ _)
   | (with_reducible exact cupelref35_Bare.mono _ _)
   | (with_reducible exact groups_Key.mono _ _ _)
   | (with_reducible exact LeO.refl _)
   | (with_reducible exact LeO.none _)
   | (with_reducible refine LeO.ite ?_ ?_)
   | (with_reducible refine LeO.bind ?_ (fun _ => ?_))
   | exact LeO.none _
   | refine LeO.ite ?_ ?_
   | refine LeO.bind ?_ (fun _ => ?_)
  intro y0 y1 y2 y3 y4 y5 y6 y7 y8 y9 y10
  unfold cupellaw35_GroupsAlike.l1
  repeat' first
  | (with_reducible exact ih0 _ _ _ _)
  | (with_reducible exact ih1 _ _ _ _ _ _)
  | (with_reducible exact ih2 _ _ _ _ _ _ _ _ _ _ _)
  | (with_reducible exact cupellaw35_great.mono _ _)
  | (with_reducible exact cupellaw35_shown.mono _)
  | (with_reducible exact cupelref26_Differ.mono _ _)
  | (with_reducible exact cupelref35_Bare.mono _ _)
  | (with_reducible exact groups_Key.mono _ _ _)
  | (with_reducible exact LeO.refl _)
  | (with_reducible exact LeO.none _)
  | (with_reducible refine LeO.ite ?_ ?_)
  | (with_reducible refine LeO.bind ?_ (fun _ => ?_))
  | exact LeO.none _
  | refine LeO.ite ?_ ?_
  | refine LeO.bind ?_ (fun _ => ?_)
theorem cupellaw35_GroupsAlike.mono : ∀ a0 a1 a2 k, LeO (cupellaw35_GroupsAlike.f k a0 a1 a2) (cupellaw35_GroupsAlike.f (k + 1) a0 a1 a2) := by
 intro a0 a1 a2 k
 obtain ⟨ih0, ih1, ih2⟩ := cupellaw35_GroupsAlike.mono_l k
 unfold cupellaw35_GroupsAlike.f
 repeat' first
   | (with_reducible exact ih0 _ _ _ _)
   | (with_reducible exact ih1 _ _ _ _ _ _)
   | (with_reducible exact ih2 _ _ _ _ _ _ _ _ _ _ _)
   | (with_reducible exact cupellaw35_great.mono _ _)
   | (with_reducible exact cupellaw35_shown.mono _)
   | (with_reducible exact cupelref26_Differ.mono _ _)
   | (with_reducible exact cupelref35_Bare.mono _ _)
   | (with_reducible exact groups_Key.mono _ _ _)
   | (with_reducible exact LeO.refl _)
   | (with_reducible exact LeO.none _)
   | (with_reducible refine LeO.ite ?_ ?_)
   | (with_reducible refine LeO.bind ?_ (fun _ => ?_))
   | exact LeO.none _
   | refine LeO.ite ?_ ?_
   | refine LeO.bind ?_ (fun _ => ?_)
def cupellaw35_GroupsAlike.T19 : Bool × List (List Nat × List Nat) := (true, [([], []), ([0], [0]), ([1], [1]), ([], []), ([], []), ([3, 4], [3, 4]), ([5], [5]), ([6], [6]), ([7], [7]), ([], []), ([8, 9], [8, 9]), ([10], [10]), ([], []), ([11, 12], [11, 12]), ([13], [13]), ([2, 14], [2, 14]), ([0, 1, 2, 3, 4, 5, 6, 7, 8, 9, 10, 11, 12, 13, 14, 15], []), ([16, 0, 1, 2, 3, 4, 5, 6, 7, 8, 9, 10, 11, 12, 13, 14, 15], [16]), ([17, 15, 15, 0, 1, 2, 3, 4, 5, 6, 7, 8, 9, 10, 11, 12, 13, 14, 15], [15, 17])])
def cupellaw35_GroupsAlike.B19 : List Nat := [0, 1, 3, 0, 0, 24, 56, 120, 248, 0, 1016, 2040, 0, 8184, 16376, 32767, 65535, 131071, 262143]
theorem cupellaw35_GroupsAlike.tab19 : rtab .any (opsOf Tryd.f7 19) = cupellaw35_GroupsAlike.T19 := by kernel_rfl
theorem cupellaw35_GroupsAlike.bits19 : waitsOk cupellaw35_GroupsAlike.T19.2 cupellaw35_GroupsAlike.B19 = true := by kernel_rfl
def cupellaw35_GroupsAlike.T26 : Bool × List (List Nat × List Nat) := (true, [([], []), ([], []), ([], []), ([2], [2]), ([3], [3]), ([1, 4], [1, 4]), ([5], [5]), ([0, 6], [0, 6]), ([7], [7]), ([8], [8]), ([9], [9]), ([9], [9]), ([10, 8, 0, 1, 2, 3, 4, 5, 6, 7, 8, 9, 10], [10]), ([11, 12, 0, 1, 2, 3, 4, 5, 6, 7, 8, 9, 10, 11, 12], [11])])
def cupellaw35_GroupsAlike.B26 : List Nat := [0, 0, 0, 4, 12, 30, 62, 127, 255, 511, 1023, 1023, 2047, 8191]
theorem cupellaw35_GroupsAlike.tab26 : rtab .any (opsOf Tryd.f7 26) = cupellaw35_GroupsAlike.T26 := by kernel_rfl
theorem cupellaw35_GroupsAlike.bits26 : waitsOk cupellaw35_GroupsAlike.T26.2 cupellaw35_GroupsAlike.B26 = true := by kernel_rfl
theorem cupellaw35_GroupsAlike.calls (k : Nat) (A0 : Option Addr) (c0 : Nat) (l0 : List (S45)) (a1 : Int) (a2 : Int) (r : Bool) (w : World) (hr0 : Kd.C k45 w A0 l0.length l0) (hc0 : l0.length ≤ c0) (h : cupellaw35_GroupsAlike.f k l0 a1 a2 = some r) (hE_ : Env w := by exact Env.below HEnv_.out (by repeat (first | (with_reducible first | exact HB.out | apply below_alloc | apply pw_below_drewN | apply below_drew1 | refine below_set ?_ (Aside0.out (by assumption))) | exact HB.out)) HEnv_.out.big) :
  Calls Tryd.prog 7 #[.slice A0 l0.length c0, .int .i64 a1, .int .i64 a2] w fun e w' => e = .returned (.bool r) ∧ Below w.heap.size w w' := by
 have HEnv_ := Aside0.mk hE_
 clear hE_
 have hu45 := Tryd.underlying45
 have HR0 := Aside0.mk hr0
 have HC0 := Aside0.mk hc0
 clear hr0 hc0
 have HB := Aside0.mk (Below.refl w.heap.size w)
 have H : ((cupellaw35_shown.f k).bind fun t205 => (if t205 = true then (if (l0.length : Int) > 50 then (cupellaw35_GroupsAlike.j0 k l0 a1 a2 true) else ((cupellaw35_great.f k l0).bind fun t206 => (cupellaw35_GroupsAlike.j0 k l0 a1 a2 t206))) else (none))) = some r := h
 clear h
 obtain ⟨t205, A4, H⟩ := bsA_ H
 try dsimp only at H
 by_cases c5 : t205 = true
 ·subst c5
  rw [if_pos rfl] at H
  have HC6 := Aside0.mk H
  clear H
  go_enter Tryd.func7, Tryd.ntmps7
  go_upto_region 3 with (first | ((with_reducible refine gate_callee (f := 8) rfl ?_); refine goesL_ (some 19) rfl rfl Tryd.func8 (by kernel_rfl) rfl #[] rfl ts8_ ?_; (with_reducible refine (cupellaw35_shown.calls k  true _ A4.out).mono ?_); rintro e w7 ⟨rfl, hb⟩; refine ⟨_, rfl, ?_⟩; replace HB := Aside0.mk (below_step (ts35_ HB.out) hb); clear hb))
  (try simp only [Act.put, List.setIfInBounds_toArray, List.set_cons_zero, List.set_cons_succ])
  go_cut [27] (fun v27 wc => ∃ (kq : Nat) (x27_5 : Bool), v27 = .bool x27_5 ∧ Aside0 (cupellaw35_GroupsAlike.j0 kq l0 a1 a2 x27_5 = some r) ∧ Aside0 (kq ≤ k) ∧ Aside0 (Below w.heap.size w wc))
  case first =>
   have H := HC6.out
   clear HC6
   by_cases c8 : (l0.length : Int) > 50
   ·rw [if_pos c8] at H
    have c8b0 : decide (50 < (l0.length : Int)) = true := decide_eq_true c8
    have c8b1 : decide (50 < l0.length) = true := decide_eq_true (by omega)
    clear c8
    (first | rw [c8b0] | (simp only [i64_w, i32_w]; rw [c8b0]) | skip)
    have H' := Aside0.mk H
    clear H
    go_wp2
    go_meet
    case rel => exact ⟨_, (true), ts34_, H', ⟨ts1_⟩, ⟨ts35_ HB.out⟩⟩
   rw [if_neg c8] at H
   have c8b0 : decide (50 < (l0.length : Int)) = false := decide_eq_false c8
   have c8b1 : decide (50 < l0.length) = false := decide_eq_false (by omega)
   clear c8
   (first | rw [c8b0] | (simp only [i64_w, i32_w]; rw [c8b0]) | skip)
   obtain ⟨t206, A9, H⟩ := bsA_ H
   try dsimp only at H
   have H' := Aside0.mk H
   clear H
   go_wp2_with (first | (go_at_call 9; (with_reducible refine (cupellaw35_great.calls k _ _ l0 t206 _ ?side1 ?side2 A9.out).mono ?_); (case side1 => exact ts9_ HR0.out HB.out); (case side2 => exact HC0.out); rintro e w' ⟨rfl, ⟨nd, rfl⟩⟩))
   go_meet
   case rel => exact ⟨_, (t206), ts34_, H', ⟨ts1_⟩, ⟨ts35_ HB.out⟩⟩
  case rest =>
   clear HC6
   try clear p2
   try clear c5
   try clear c7
   try clear c8
   try clear c8b0
   try clear c8b1
   obtain ⟨kq, x27_5, rfl, HA, HJ5, HB⟩ := hcut
   cases kq with
   | zero => exact absurd HA.out (by simp [cupellaw35_GroupsAlike.j0])
   | succ kj5 =>
    have H := HA.out
    clear HA
    simp only [cupellaw35_GroupsAlike.j0] at H
    by_cases c10 : x27_5 = true
    ·subst c10
     rw [if_pos rfl] at H
     obtain rfl := Option.some.inj H
     go_wp2
     go_ret
     exact ⟨ts30_, ts35_ HB.out⟩
    replace c10 := Bool.eq_false_iff.mpr c10
    subst c10
    rw [if_neg Bool.false_ne_true] at H
    obtain ⟨⟨t207, t208⟩, A11, H⟩ := bsA_ H
    try dsimp only at H
    by_cases c12 : t208 = 0
    ·rw [if_pos c12] at H
     have c12b0 : (t208 == 0) = true := beq_iff_eq.mpr c12
     have c12b1 : (t208 != 0) = false := bne_eq_false_iff_eq.mpr c12
     clear c12
     have H' := Aside0.mk H
     clear H
     go_wp2_with (first | ((with_reducible refine gate_callee (f := 10) rfl ?_); refine goesL_ (some 31) rfl rfl Tryd.func10 (by kernel_rfl) rfl #[.slice A0 l0.length c0, .int .i64 a1] rfl ts8_ ?_; (with_reducible refine (groups_Key.calls kj5 _ _ l0 a1 t207 t208 _ ?side1 ?side2 A11.out).mono ?_); (case side1 => exact ts9_ HR0.out HB.out); (case side2 => exact HC0.out); rintro e w13 ⟨rfl, hb⟩; refine ⟨_, rfl, ?_⟩; replace HB := Aside0.mk (below_step (ts35_ HB.out) hb); clear hb))
     go_loopg [9, 10] kj5 (fun kq v9 v10 w' => ∃ (x9_2 : List (S45)) (x10_2 : Int), v10 = .int .i64 x10_2 ∧ Aside0 (cupellaw35_GroupsAlike.l0 kq l0 a1 a2 t207 x9_2 x10_2 = some r) ∧ Aside0 (kq ≤ kj5) ∧ Aside0 (Kd.N k45 45 w' w.heap.size (fun _ => True) v9 x9_2) ∧ Aside0 (Below w.heap.size w w'))
     case atStart => exact ⟨(([] : List (S45))), (0), ts34_, H', ⟨Nat.le_refl _⟩, ⟨by first | exact Kd.S_nil _ _ _ _ _ | exact Kd.N_nil _ _ _ _ _ | exact Kd.V_nil _ _ _ _ _ | exact Kd.Q_nil _ _ _ _ _ | exact Kd.R_nil _ _ _ _ _⟩, ⟨ts35_ HB.out⟩⟩
     case round =>
      clear H'
      try clear c1
      try clear p2
      try clear c5
      try clear c7
      try clear c8
      try clear c8b0
      try clear c8b1
      try clear c10
      try clear c12
      try clear c12b0
      try clear c12b1
      try clear p2
      obtain ⟨x9_2, x10_2, rfl, HA, HK2, HO_9, HB⟩ := hrel
      cases gk with
      | zero => exact absurd HA.out (by simp [cupellaw35_GroupsAlike.l0])
      | succ k2 =>
       have H := HA.out
       clear HA
       simp only [cupellaw35_GroupsAlike.l0] at H
       by_cases c14 : x10_2 < (l0.length : Int)
       ·rw [if_pos c14] at H
        have c14b0 : decide (x10_2 < (l0.length : Int)) = true := decide_eq_true c14
        clear c14
        by_cases c15 : 0 ≤ x10_2
        ·rw [if_pos c15] at H
         have c15b0 : decide (0 ≤ x10_2) = true := decide_eq_true c15
         clear c15
         by_cases c16 : (((rd_T45 l0 x10_2).f1.f0).length : Int) > 100
         ·rw [if_pos c16] at H
          have c16b0 : decide (100 < (((rd_T45 l0 x10_2).f1.f0).length : Int)) = true := decide_eq_true c16
          have c16b1 : decide (100 < ((rd_T45 l0 x10_2).f1.f0).length) = true := decide_eq_true (by omega)
          clear c16
          obtain rfl := Option.some.inj H
          have p209 : 0 ≤ (x10_2 : Int) := of_decide_eq_true ts26_
          have q209 : x10_2 < (l0.length : Int) := of_decide_eq_true ts26_
          obtain ⟨ad209, A209_1, c209_1, e209, hx209_0, hx209_1, hx209_2, hx209_3, hl209_1, hi209_1⟩ := at_T45 HR0.out x10_2 p209 q209
          cases e209
          replace hx209_0 := (HB.out.cell (World.block_lt_of_cell? w _ hx209_0)).trans hx209_0
          replace hx209_1 := (HB.out.cell (World.block_lt_of_cell? w _ hx209_1)).trans hx209_1
          replace hx209_2 := (HB.out.cell (World.block_lt_of_cell? w _ hx209_2)).trans hx209_2
          replace hx209_3 := (HB.out.cell (World.block_lt_of_cell? w _ hx209_3)).trans hx209_3
          have HR209_1 := Aside0.mk hi209_1
          have HC209_1 := Aside0.mk hl209_1
          clear hi209_1 hl209_1
          replace p209 := eq_true p209
          replace q209 := eq_true q209
          go_wp2
          go_ret
          exact ⟨ts30_, ts35_ HB.out⟩
         rw [if_neg c16] at H
         have c16b0 : decide (100 < (((rd_T45 l0 x10_2).f1.f0).length : Int)) = false := decide_eq_false c16
         have c16b1 : decide (100 < ((rd_T45 l0 x10_2).f1.f0).length) = false := decide_eq_false (by omega)
         clear c16
         have H' := Aside0.mk H
         clear H
         have p209 : 0 ≤ (x10_2 : Int) := of_decide_eq_true ts26_
         have q209 : x10_2 < (l0.length : Int) := of_decide_eq_true ts26_
         obtain ⟨ad209, A209_1, c209_1, e209, hx209_0, hx209_1, hx209_2, hx209_3, hl209_1, hi209_1⟩ := at_T45 HR0.out x10_2 p209 q209
         cases e209
         replace hx209_0 := (HB.out.cell (World.block_lt_of_cell? w _ hx209_0)).trans hx209_0
         replace hx209_1 := (HB.out.cell (World.block_lt_of_cell? w _ hx209_1)).trans hx209_1
         replace hx209_2 := (HB.out.cell (World.block_lt_of_cell? w _ hx209_2)).trans hx209_2
         replace hx209_3 := (HB.out.cell (World.block_lt_of_cell? w _ hx209_3)).trans hx209_3
         have HR209_1 := Aside0.mk hi209_1
         have HC209_1 := Aside0.mk hl209_1
         clear hi209_1 hl209_1
         replace p209 := eq_true p209
         replace q209 := eq_true q209
         have p210 : 0 ≤ (x10_2 : Int) := of_decide_eq_true ts26_
         have q210 : x10_2 < (l0.length : Int) := of_decide_eq_true ts26_
         obtain ⟨ad210, A210_1, c210_1, e210, hx210_0, hx210_1, hx210_2, hx210_3, hl210_1, hi210_1⟩ := at_T45 HR0.out x10_2 p210 q210
         obtain rfl : ad209 = ad210 := (by injection e210)
         replace hx210_0 := (HB.out.cell (World.block_lt_of_cell? w _ hx210_0)).trans hx210_0
         replace hx210_1 := (HB.out.cell (World.block_lt_of_cell? w _ hx210_1)).trans hx210_1
         replace hx210_2 := (HB.out.cell (World.block_lt_of_cell? w _ hx210_2)).trans hx210_2
         replace hx210_3 := (HB.out.cell (World.block_lt_of_cell? w _ hx210_3)).trans hx210_3
         have HR210_1 := Aside0.mk hi210_1
         have HC210_1 := Aside0.mk hl210_1
         clear hi210_1 hl210_1
         replace p210 := eq_true p210
         replace q210 := eq_true q210
         have ea_ := Option.some.inj (hx209_1.symm.trans hx210_1)
         injection ea_ with ea_ en_ ec_
         subst ea_
         subst ec_
         clear en_
         go_wp2_with (first | ((with_reducible refine gate_dst (N := 11) rfl ?_); (try (refine gate_guard (by rfl) ?_; dsimp only)); refine box_event ?hg (N := 11) ?hd (cs := #[.string (⟨#[]⟩ : ByteArray), .slice none 0 0, .int .i64 0, .int .i64 0]) (t := 45) ?hr ?_; (case hd => rfl); (case hg => rfl); (case hr => exact ts18_); intro gb211 hg w17 hbox hb; replace HO_9 := Aside0.mk (Kd.N_below (Kd.N_elderB (ts10_ HO_9.out) gb211 (Nat.le_of_eq hg.symm)) hb); have BK211 := Aside0.mk (hbox); have GW211 := Aside0.mk ((ts51_ HB.out : w.heap.size ≤ gb211)); have GE211 := Aside0.mk ((ts51_ HB.out : w.heap.size ≤ gb211)); replace HB := Aside0.mk (below_step (ts35_ HB.out) hb); clear hb hbox hg; have hcz18_0 : w17.cell? ⟨gb211, 0, none⟩ = some (.string (⟨#[]⟩ : ByteArray)) := (blk_cell BK211.out 0).trans rfl; have hcz18_1 : w17.cell? ⟨gb211, 1, none⟩ = some (.slice none 0 0) := (blk_cell BK211.out 1).trans rfl; have hcz18_2 : w17.cell? ⟨gb211, 2, none⟩ = some (.int .i64 0) := (blk_cell BK211.out 2).trans rfl; have hcz18_3 : w17.cell? ⟨gb211, 3, none⟩ = some (.int .i64 0) := (blk_cell BK211.out 3).trans rfl; have hfz18_0 := blk_frozen BK211.out 0; have hfz18_1 := blk_frozen BK211.out 1; have hfz18_2 := blk_frozen BK211.out 2; have hfz18_3 := blk_frozen BK211.out 3))
         go_loopg [12] k2 (fun kq v12 w' => ∃ (x12_3 : Int) (x212001_3 : List Int) (u212001 : Value), v12 = .int .i64 x12_3 ∧ Aside0 (cupellaw35_GroupsAlike.l1 kq l0 a1 a2 t207 x9_2 x10_2 x12_3 ((rd_T45 l0 x10_2).f0) x212001_3 ((rd_T45 l0 x10_2).f1.f1) ((rd_T45 l0 x10_2).f1.f2) = some r) ∧ Aside0 (kq ≤ k2) ∧ Aside0 (Kd.N k45 45 w' w.heap.size (fun k_ => some k_ ≠ (u212001 : Value).ownBlock ∧ k_ ≠ gb211) u9 x9_2) ∧ Aside0 (Kd.R (Kd.int .i64) 2 w' w.heap.size (fun _ => True) u212001 x212001_3) ∧ Aside0 (w'.heap[gb211]? = some (.cells #[.string ((rd_T45 l0 x10_2).f0), u212001, .int .i64 ((rd_T45 l0 x10_2).f1.f1), .int .i64 ((rd_T45 l0 x10_2).f1.f2)] 45 (0, 0))) ∧ Aside0 (Below w.heap.size w w'))
         case atStart => exact ⟨(0), (([] : List Int)), (.slice none 0 0), ts34_, H', ⟨Nat.le_refl _⟩, ⟨by (with_reducible repeat (first | apply Kd.N_alloc | apply Kd.N_drewN | apply Kd.N_drew)); exact Kd.N_mono (Kd.N_far (p := ⟨gb211, 1, none⟩) (Kd.N_far (p := ⟨gb211, 3, none⟩) (Kd.N_far (p := ⟨gb211, 2, none⟩) (Kd.N_far (p := ⟨gb211, 1, none⟩) (Kd.N_far (p := ⟨gb211, 0, none⟩) (Kd.N_mono HO_9.out (fun k_ hk => (⟨hk, hk.2⟩ : _ ∧ k_ ≠ gb211))) (fun _ hk => hk.2) (.string ((rd_T45 l0 x10_2).f0))) (fun _ hk => hk.2) (.slice A209_1 ((rd_T45 l0 x10_2).f1.f0).length c209_1)) (fun _ hk => hk.2) (.int .i64 ((rd_T45 l0 x10_2).f1.f1))) (fun _ hk => hk.2) (.int .i64 ((rd_T45 l0 x10_2).f1.f2))) (fun _ hk => hk.2) (.slice none 0 0)) (fun _ hk => ⟨(by simp [Value.ownBlock]), hk.1.2⟩)⟩, ⟨ts36_⟩, ⟨by (with_reducible repeat (first | refine blk_drewN ?_ _ | refine blk_drew ?_ | refine blk_alloc ?_ _)); refine blk_put (cs := #[.string ((rd_T45 l0 x10_2).f0), .slice A209_1 ((rd_T45 l0 x10_2).f1.f0).length c209_1, .int .i64 ((rd_T45 l0 x10_2).f1.f1), .int .i64 ((rd_T45 l0 x10_2).f1.f2)]) ?_ 1 _ rfl; (with_reducible repeat (first | refine blk_drewN ?_ _ | refine blk_drew ?_ | refine blk_alloc ?_ _)); refine blk_put (cs := #[.string ((rd_T45 l0 x10_2).f0), .slice A209_1 ((rd_T45 l0 x10_2).f1.f0).length c209_1, .int .i64 ((rd_T45 l0 x10_2).f1.f1), .int .i64 0]) ?_ 3 _ rfl; (with_reducible repeat (first | refine blk_drewN ?_ _ | refine blk_drew ?_ | refine blk_alloc ?_ _)); refine blk_put (cs := #[.string ((rd_T45 l0 x10_2).f0), .slice A209_1 ((rd_T45 l0 x10_2).f1.f0).length c209_1, .int .i64 0, .int .i64 0]) ?_ 2 _ rfl; (with_reducible repeat (first | refine blk_drewN ?_ _ | refine blk_drew ?_ | refine blk_alloc ?_ _)); refine blk_put (cs := #[.string ((rd_T45 l0 x10_2).f0), .slice none 0 0, .int .i64 0, .int .i64 0]) ?_ 1 _ rfl; (with_reducible repeat (first | refine blk_drewN ?_ _ | refine blk_drew ?_ | refine blk_alloc ?_ _)); refine blk_put (cs := #[.string (⟨#[]⟩ : ByteArray), .slice none 0 0, .int .i64 0, .int .i64 0]) ?_ 0 _ rfl; (with_reducible repeat (first | refine blk_drewN ?_ _ | refine blk_drew ?_ | refine blk_alloc ?_ _)); exact BK211.out⟩, ⟨ts20_ HB.out GE211.out⟩⟩
         case round =>
          clear H'
          try clear c1
          try clear c2
          try clear p2
          try clear q2
          try clear hx2
          try clear c5
          try clear c7
          try clear c8
          try clear c8b0
          try clear c8b1
          try clear c10
          try clear c12
          try clear c12b0
          try clear c12b1
          try clear c14
          try clear c14b0
          try clear c15
          try clear c15b0
          try clear c16
          try clear c16b0
          try clear c16b1
          try clear hcz18_0
          try clear hcz18_1
          try clear hcz18_2
          try clear hcz18_3
          try clear hfz18_0
          try clear hfz18_1
          try clear hfz18_2
          try clear hfz18_3
          try clear hx209_0
          try clear hx209_1
          try clear hx209_2
          try clear hx209_3
          try clear hx210_0
          try clear hx210_1
          try clear hx210_2
          try clear hx210_3
          try clear p2
          try clear p209
          try clear p210
          try clear q209
          try clear q210
          obtain ⟨x12_3, x212001_3, u212001, rfl, HA, HK3, HO_9, HO_212001, BK211, HB⟩ := hrel
          cases gk with
          | zero => exact absurd HA.out (by simp [cupellaw35_GroupsAlike.l1])
          | succ k3 =>
           have H := HA.out
           clear HA
           simp only [cupellaw35_GroupsAlike.l1] at H
           by_cases c19 : 0 ≤ x10_2
           ·rw [if_pos c19] at H
            have c19b0 : decide (0 ≤ x10_2) = true := decide_eq_true c19
            clear c19
            by_cases c20 : x10_2 < (l0.length : Int)
            ·rw [if_pos c20] at H
             have c20b0 : decide (x10_2 < (l0.length : Int)) = true := decide_eq_true c20
             clear c20
             by_cases c21 : x12_3 < (((rd_T45 l0 x10_2).f1.f0).length : Int)
             ·rw [if_pos c21] at H
              have c21b0 : decide (x12_3 < (((rd_T45 l0 x10_2).f1.f0).length : Int)) = true := decide_eq_true c21
              clear c21
              by_cases c22 : 0 ≤ x12_3
              ·rw [if_pos c22] at H
               have c22b0 : decide (0 ≤ x12_3) = true := decide_eq_true c22
               clear c22
               by_cases c23 : x212001_3.length < 17592186044416
               ·rw [if_pos c23] at H
                have LMc23 := Aside0.mk c23
                clear c23
                obtain ⟨y215, hy215⟩ : ∃ y_ : List Int, y_ = (x212001_3 ++ [wrap64 ((rd ((rd_T45 l0 x10_2).f1.f0) x12_3) + a2)]) := ⟨_, rfl⟩
                replace H : (cupellaw35_GroupsAlike.l1 k3 l0 a1 a2 t207 x9_2 x10_2 (wrap64 (x12_3 + 1)) ((rd_T45 l0 x10_2).f0) y215 ((rd_T45 l0 x10_2).f1.f1) ((rd_T45 l0 x10_2).f1.f2)) = some r := by first | (rw [hy215]; with_reducible exact H) | (have H2_ := (Option.bind_some _ _).symm.trans H; rw [hy215]; with_reducible exact H2_) | (have H2_ := (Option.bind_some _ _).symm.trans H; with_reducible exact H2_) | with_reducible exact H | (rw [hy215]; exact H) | exact H
                have Ny215 := Aside0.mk hy215
                clear hy215
                have H' := Aside0.mk H
                clear H
                have p212 : 0 ≤ (x10_2 : Int) := of_decide_eq_true ts26_
                have q212 : x10_2 < (l0.length : Int) := of_decide_eq_true ts26_
                obtain ⟨ad212, A212_1, c212_1, e212, hx212_0, hx212_1, hx212_2, hx212_3, hl212_1, hi212_1⟩ := at_T45 HR0.out x10_2 p212 q212
                obtain rfl : ad209 = ad212 := (by injection e212)
                replace hx212_0 := (HB.out.cell (World.block_lt_of_cell? w _ hx212_0)).trans hx212_0
                replace hx212_1 := (HB.out.cell (World.block_lt_of_cell? w _ hx212_1)).trans hx212_1
                replace hx212_2 := (HB.out.cell (World.block_lt_of_cell? w _ hx212_2)).trans hx212_2
                replace hx212_3 := (HB.out.cell (World.block_lt_of_cell? w _ hx212_3)).trans hx212_3
                have HR212_1 := Aside0.mk hi212_1
                have HC212_1 := Aside0.mk hl212_1
                clear hi212_1 hl212_1
                replace p212 := eq_true p212
                replace q212 := eq_true q212
                try go_wp2
                have n0_ := Aside0.mk (Kd.N_drew HO_9.out)
                have n1_ := Aside0.mk (Kd.R_drew HO_212001.out)
                have n2_ := Aside0.mk (blk_drew BK211.out)
                have n3_ := Aside0.mk (below_drew1 HB.out)
                clear HO_9
                clear HO_212001
                clear BK211
                clear HB
                have HO_9 := n0_
                have HO_212001 := n1_
                have BK211 := n2_
                have HB := n3_
                clear n0_ n1_ n2_ n3_
                have p213 : 0 ≤ (x10_2 : Int) := of_decide_eq_true ts26_
                have q213 : x10_2 < (l0.length : Int) := of_decide_eq_true ts26_
                obtain ⟨ad213, A213_1, c213_1, e213, hx213_0, hx213_1, hx213_2, hx213_3, hl213_1, hi213_1⟩ := at_T45 HR0.out x10_2 p213 q213
                have hw213_3 := hx213_3
                have hw213_2 := hx213_2
                have hw213_1 := hx213_1
                have hw213_0 := hx213_0
                obtain rfl : ad209 = ad213 := (by injection e213)
                replace hx213_0 := (HB.out.cell (World.block_lt_of_cell? w _ hx213_0)).trans hx213_0
                replace hx213_1 := (HB.out.cell (World.block_lt_of_cell? w _ hx213_1)).trans hx213_1
                replace hx213_2 := (HB.out.cell (World.block_lt_of_cell? w _ hx213_2)).trans hx213_2
                replace hx213_3 := (HB.out.cell (World.block_lt_of_cell? w _ hx213_3)).trans hx213_3
                have HR213_1 := Aside0.mk hi213_1
                have HC213_1 := Aside0.mk hl213_1
                clear hi213_1 hl213_1
                replace p213 := eq_true p213
                replace q213 := eq_true q213
                have p214 : 0 ≤ (x12_3 : Int) := of_decide_eq_true ts26_
                have q214 : x12_3 < (((rd_T45 l0 x10_2).f1.f0).length : Int) := of_decide_eq_true ts26_
                obtain ⟨ad214, e214, hx214_0⟩ := Kd.at_int HR213_1.out x12_3 p214 q214
                have hw214_0 := hx214_0
                cases e214
                replace hx214_0 := (HB.out.cell (World.block_lt_of_cell? w _ hx214_0)).trans hx214_0
                replace p214 := eq_true p214
                replace q214 := eq_true q214
                refine start_ (n := 19) (S := fun w' => w'.cell? ⟨gb211, 0, none⟩ = some (.string ((rd_T45 l0 x10_2).f0)) ∧ w'.cell? ⟨gb211, 1, none⟩ = some (u212001) ∧ w'.cell? ⟨gb211, 2, none⟩ = some (.int .i64 ((rd_T45 l0 x10_2).f1.f1)) ∧ w'.cell? ⟨gb211, 3, none⟩ = some (.int .i64 ((rd_T45 l0 x10_2).f1.f2)) ∧ w'.cell? (ad209.add ((x10_2).toNat * 4)) = some (.string ((rd_T45 l0 x10_2).f0)) ∧ w'.cell? ⟨(ad209.add ((x10_2).toNat * 4)).block, (ad209.add ((x10_2).toNat * 4)).off + 1, none⟩ = some (.slice (some ad214) ((rd_T45 l0 x10_2).f1.f0).length c213_1) ∧ w'.cell? ⟨(ad209.add ((x10_2).toNat * 4)).block, (ad209.add ((x10_2).toNat * 4)).off + 2, none⟩ = some (.int .i64 ((rd_T45 l0 x10_2).f1.f1)) ∧ w'.cell? ⟨(ad209.add ((x10_2).toNat * 4)).block, (ad209.add ((x10_2).toNat * 4)).off + 3, none⟩ = some (.int .i64 ((rd_T45 l0 x10_2).f1.f2)) ∧ w'.cell? (ad214.add (x12_3).toNat) = some (.int .i64 (rd ((rd_T45 l0 x10_2).f1.f0) x12_3))) (ds := [18]) #[false, false, false, false, false, false, false, false, false, false, false, false, false, false, false, false, false, false, false] (by kernel_rfl) rfl rfl ⟨(blk_cell BK211.out 0).trans rfl, (blk_cell BK211.out 1).trans rfl, (blk_cell BK211.out 2).trans rfl, (blk_cell BK211.out 3).trans rfl, ((HB.out.cell (World.block_lt_of_cell? w _ hw213_0)).trans hw213_0), ((HB.out.cell (World.block_lt_of_cell? w _ hw213_1)).trans hw213_1), ((HB.out.cell (World.block_lt_of_cell? w _ hw213_2)).trans hw213_2), ((HB.out.cell (World.block_lt_of_cell? w _ hw213_3)).trans hw213_3), ((HB.out.cell (World.block_lt_of_cell? w _ hw214_0)).trans hw214_0)⟩ (fun hHeld => ?_); refine with_tabW cupellaw35_GroupsAlike.tab19 cupellaw35_GroupsAlike.bits19 (fun HT_ HW_ => ?_)
                generalize wr.drew = w24 at HO_9 HO_212001 BK211 HB HR213_1 hx213_0 hx213_1 hx213_2 hx213_3 hx214_0 hHeld ⊢
                refine pure_ (i := 0) (N := some 69) (v := ?_) (a' := ?_) #[true, false, false, false, false, false, false, false, false, false, false, false, false, false, false, false, false, false, false] rfl rfl (any_of HT_.out (by kernel_rfl)) (fun _ _ _ h => h) (Or.inl ⟨by rfl, ?_⟩) ?_ ?_
                rotate_left
                ·intro w'
                 go_simp
                 with_reducible rfl
                rotate_left
                ·simp only [Act.put, List.setIfInBounds_toArray, List.set_cons_zero, List.set_cons_succ, i64_w, i32_w]
                 rfl
                refine pure_ (i := 1) (N := some 70) (v := ?_) (a' := ?_) #[true, true, false, false, false, false, false, false, false, false, false, false, false, false, false, false, false, false, false] rfl rfl (any_of HT_.out (by kernel_rfl)) (fun _ _ _ h => h) (Or.inl ⟨by rfl, ?_⟩) ?_ ?_
                rotate_left
                ·intro w'
                 go_simp
                 with_reducible rfl
                rotate_left
                ·simp only [Act.put, List.setIfInBounds_toArray, List.set_cons_zero, List.set_cons_succ, i64_w, i32_w]
                 rfl
                refine pure_ (i := 3) (N := some 72) (v := ?_) (a' := ?_) #[true, true, false, true, false, false, false, false, false, false, false, false, false, false, false, false, false, false, false] rfl rfl (any_of HT_.out (by kernel_rfl)) (fun _ _ _ h => h) (Or.inl ⟨by rfl, ?_⟩) ?_ ?_
                rotate_left
                ·intro w'
                 go_simp
                 with_reducible rfl
                rotate_left
                ·simp only [Act.put, List.setIfInBounds_toArray, List.set_cons_zero, List.set_cons_succ, i64_w, i32_w]
                 rfl
                refine pure_ (i := 4) (N := some 73) (v := ?_) (a' := ?_) #[true, true, false, true, true, false, false, false, false, false, false, false, false, false, false, false, false, false, false] rfl rfl (any_of HT_.out (by kernel_rfl)) (fun _ _ _ h => h) (Or.inl ⟨by rfl, ?_⟩) ?_ ?_
                rotate_left
                ·intro w'
                 go_simp
                 with_reducible rfl
                rotate_left
                ·simp only [Act.put, List.setIfInBounds_toArray, List.set_cons_zero, List.set_cons_succ, i64_w, i32_w]
                 rfl
                refine pure_ (i := 5) (N := some 74) (v := ?_) (a' := ?_) #[true, true, false, true, true, true, false, false, false, false, false, false, false, false, false, false, false, false, false] rfl rfl (any_of HT_.out (by kernel_rfl)) (fun _ _ _ h => h) (Or.inl ⟨by rfl, ?_⟩) ?_ ?_
                rotate_left
                ·intro w'
                 go_simp
                 with_reducible rfl
                rotate_left
                ·simp only [Act.put, List.setIfInBounds_toArray, List.set_cons_zero, List.set_cons_succ, i64_w, i32_w]
                 rfl
                refine pure_ (i := 6) (N := some 75) (v := ?_) (a' := ?_) #[true, true, false, true, true, true, true, false, false, false, false, false, false, false, false, false, false, false, false] rfl rfl (any_of HT_.out (by kernel_rfl)) (fun _ _ _ h => h) (Or.inl ⟨by rfl, ?_⟩) ?_ ?_
                rotate_left
                ·intro w'
                 go_simp
                 with_reducible rfl
                rotate_left
                ·simp only [Act.put, List.setIfInBounds_toArray, List.set_cons_zero, List.set_cons_succ, i64_w, i32_w]
                 rfl
                refine pure_ (i := 7) (N := some 76) (v := ?_) (a' := ?_) #[true, true, false, true, true, true, true, true, false, false, false, false, false, false, false, false, false, false, false] rfl rfl (any_of HT_.out (by kernel_rfl)) (fun _ _ _ h => h) (Or.inl ⟨by rfl, ?_⟩) ?_ ?_
                rotate_left
                ·intro w'
                 go_simp
                 with_reducible rfl
                rotate_left
                ·simp only [Act.put, List.setIfInBounds_toArray, List.set_cons_zero, List.set_cons_succ, i64_w, i32_w]
                 rfl
                refine pure_ (i := 9) (N := some 78) (v := ?_) (a' := ?_) #[true, true, false, true, true, true, true, true, false, true, false, false, false, false, false, false, false, false, false] rfl rfl (any_of HT_.out (by kernel_rfl)) (fun _ _ _ h => h) (Or.inl ⟨by rfl, ?_⟩) ?_ ?_
                rotate_left
                ·intro w'
                 go_simp
                 with_reducible rfl
                rotate_left
                ·simp only [Act.put, List.setIfInBounds_toArray, List.set_cons_zero, List.set_cons_succ, i64_w, i32_w]
                 rfl
                refine pure_ (i := 12) (N := some 81) (v := ?_) (a' := ?_) #[true, true, false, true, true, true, true, true, false, true, false, false, true, false, false, false, false, false, false] rfl rfl (any_of HT_.out (by kernel_rfl)) (fun _ _ _ h => h) (Or.inl ⟨by rfl, ?_⟩) ?_ ?_
                rotate_left
                ·intro w'
                 go_simp
                 with_reducible rfl
                rotate_left
                ·simp only [Act.put, List.setIfInBounds_toArray, List.set_cons_zero, List.set_cons_succ, i64_w, i32_w]
                 rfl
                refine take_ (i := 2) (N := some 71) (v := ?_) (a' := ?_) #[true, true, true, true, true, true, true, true, false, true, false, false, true, false, false, false, false, false, false] rfl rfl (take_ofW HT_.out HW_.out (by kernel_rfl)) (fun _ _ _ h => h) (Or.inl ⟨by rfl, ?_⟩) hHeld ?_ ?_
                rotate_left
                ·rintro w' ⟨s0, s1, s2, s3, s4, s5, s6, s7, s8⟩
                 go_simp
                 with_reducible rfl
                rotate_left
                ·simp only [Act.put, List.setIfInBounds_toArray, List.set_cons_zero, List.set_cons_succ, i64_w, i32_w]
                 rfl
                refine take_ (i := 8) (N := some 77) (v := ?_) (a' := ?_) #[true, true, true, true, true, true, true, true, true, true, false, false, true, false, false, false, false, false, false] rfl rfl (take_ofW HT_.out HW_.out (by kernel_rfl)) (fun _ _ _ h => h) (Or.inl ⟨by rfl, ?_⟩) hHeld ?_ ?_
                rotate_left
                ·rintro w' ⟨s0, s1, s2, s3, s4, s5, s6, s7, s8⟩
                 go_simp
                 with_reducible rfl
                rotate_left
                ·simp only [Act.put, List.setIfInBounds_toArray, List.set_cons_zero, List.set_cons_succ, i64_w, i32_w]
                 rfl
                refine pure_ (i := 10) (N := some 79) (v := ?_) (a' := ?_) #[true, true, true, true, true, true, true, true, true, true, true, false, true, false, false, false, false, false, false] rfl rfl (any_of HT_.out (by kernel_rfl)) (fun _ _ _ h => h) (Or.inl ⟨by rfl, ?_⟩) ?_ ?_
                rotate_left
                ·intro w'
                 go_simp
                 with_reducible rfl
                rotate_left
                ·simp only [Act.put, List.setIfInBounds_toArray, List.set_cons_zero, List.set_cons_succ, i64_w, i32_w]
                 rfl
                refine take_ (i := 11) (N := some 80) (v := ?_) (a' := ?_) #[true, true, true, true, true, true, true, true, true, true, true, true, true, false, false, false, false, false, false] rfl rfl (take_ofW HT_.out HW_.out (by kernel_rfl)) (fun _ _ _ h => h) (Or.inl ⟨by rfl, ?_⟩) hHeld ?_ ?_
                rotate_left
                ·rintro w' ⟨s0, s1, s2, s3, s4, s5, s6, s7, s8⟩
                 go_simp
                 with_reducible rfl
                rotate_left
                ·simp only [Act.put, List.setIfInBounds_toArray, List.set_cons_zero, List.set_cons_succ, i64_w, i32_w]
                 rfl
                refine pure_ (i := 13) (N := some 82) (v := ?_) (a' := ?_) #[true, true, true, true, true, true, true, true, true, true, true, true, true, true, false, false, false, false, false] rfl rfl (any_of HT_.out (by kernel_rfl)) (fun _ _ _ h => h) (Or.inl ⟨by rfl, ?_⟩) ?_ ?_
                rotate_left
                ·intro w'
                 go_simp
                 with_reducible rfl
                rotate_left
                ·simp only [Act.put, List.setIfInBounds_toArray, List.set_cons_zero, List.set_cons_succ, i64_w, i32_w]
                 rfl
                refine one_ (i := 14) (N := some 83) #[true, true, true, true, true, true, true, true, true, true, true, true, true, true, true, false, false, false, false] rfl rfl (one_of HT_.out (by kernel_rfl)) (by decide) (fun K hK => ?_)
                refine value_ (w1 := ?_) (v := ?_) (by rfl) rfl ?_ ?_
                rotate_left 2
                ·go_simp
                 constructor
                 ·rfl
                 rfl
                refine hK.out _ _ ⟨(blk_cell (blk_alloc BK211.out _) 0).trans rfl, (blk_cell (blk_alloc BK211.out _) 1).trans rfl, (blk_cell (blk_alloc BK211.out _) 2).trans rfl, (blk_cell (blk_alloc BK211.out _) 3).trans rfl, (World.cell?_alloc_lt _ _ _ (World.block_lt_of_cell? _ _ (((HB.out.cell (World.block_lt_of_cell? w _ hw213_0)).trans hw213_0)))).trans (((HB.out.cell (World.block_lt_of_cell? w _ hw213_0)).trans hw213_0)), (World.cell?_alloc_lt _ _ _ (World.block_lt_of_cell? _ _ (((HB.out.cell (World.block_lt_of_cell? w _ hw213_1)).trans hw213_1)))).trans (((HB.out.cell (World.block_lt_of_cell? w _ hw213_1)).trans hw213_1)), (World.cell?_alloc_lt _ _ _ (World.block_lt_of_cell? _ _ (((HB.out.cell (World.block_lt_of_cell? w _ hw213_2)).trans hw213_2)))).trans (((HB.out.cell (World.block_lt_of_cell? w _ hw213_2)).trans hw213_2)), (World.cell?_alloc_lt _ _ _ (World.block_lt_of_cell? _ _ (((HB.out.cell (World.block_lt_of_cell? w _ hw213_3)).trans hw213_3)))).trans (((HB.out.cell (World.block_lt_of_cell? w _ hw213_3)).trans hw213_3)), (World.cell?_alloc_lt _ _ _ (World.block_lt_of_cell? _ _ (((HB.out.cell (World.block_lt_of_cell? w _ hw214_0)).trans hw214_0)))).trans (((HB.out.cell (World.block_lt_of_cell? w _ hw214_0)).trans hw214_0))⟩ (fun hHeld => ?_)
                clear hK K
                refine norm_ (a' := ?_) ?_ ?_
                rotate_left
                ·show Act.put _ (some 83) _ = _
                 simp only [Act.put, List.setIfInBounds_toArray, List.set_cons_zero, List.set_cons_succ, i64_w, i32_w]
                 rfl
                refine one_ (i := 15) (N := some 84) #[true, true, true, true, true, true, true, true, true, true, true, true, true, true, true, true, false, false, false] rfl rfl (one_of HT_.out (by kernel_rfl)) (by decide) (fun K hK => ?_)
                refine Kd.R_append_step (Kd.int .i64) (w0 := w) w.heap.size (by rfl) (.tmp 71) (.tmp 83) 41 2 (.int .i64 0) 8 rfl Tryd.underlying41 info2 rfl (by decide) (by omega) u212001 x212001_3 (wrap64 ((rd ((rd_T45 l0 x10_2).f1.f0) x12_3) + a2)) [.int .i64 (wrap64 ((rd ((rd_T45 l0 x10_2).f1.f0) x12_3) + a2))] (fun _ => True) (fun _ => False) rfl rfl ?aP (fun _ hk => hk.elim) ?aF ?aO ?aB ?aS ?aL ?_
                (case aP => exact rfl)
                (case aB => exact (ts20_ HB.out GE211.out))
                (case aF => exact (fun _ _ => trivial))
                (case aO => exact (ts22_ HO_212001.out))
                (case aS => exact (below_size (ts20_ HB.out GE211.out)))
                (case aL => have := LMc23.out; omega)
                intro v216 w25 ho hb hg hat
                rw [← Ny215.out] at ho
                have n0_ := Aside0.mk (Kd.N_afterv (ok := (fun k_ => k_ ≠ gb211)) (by (with_reducible repeat (first | apply Kd.N_alloc | apply Kd.N_drewN | apply Kd.N_drew)); exact Kd.N_mono HO_9.out (fun _ hk => ⟨hk.2, hk.1⟩)) hg hat)
                have n1_ := Aside0.mk (blk_grown (g := gb211) (o := .cells #[.string ((rd_T45 l0 x10_2).f0), u212001, .int .i64 ((rd_T45 l0 x10_2).f1.f1), .int .i64 ((rd_T45 l0 x10_2).f1.f2)] 45 (0, 0)) (ts17_ BK211.out) hg (Kd.R_ne HO_212001.out BK211.out (by decide)))
                have n2_ := Aside0.mk (hb)
                have n3_ := Aside0.mk (ho)
                clear HO_9
                clear BK211
                clear HB
                clear HO_212001
                have HO_9 := n0_
                have BK211 := n1_
                have HB := n2_
                have HO217 := n3_
                clear n0_ n1_ n2_ n3_
                clear ho hb hg hat
                obtain ⟨Ao26, co26, eo26⟩ := Kd.R_slice HO217.out
                (first | subst eo26 | (injection eo26 with f1_ f2_ f3_; have f4_ := f1_.symm; have f5_ := f3_.symm; clear f1_ f2_ f3_; subst f4_; subst f5_))
                refine hK.out _ _ ⟨(blk_cell BK211.out 0).trans rfl, (blk_cell BK211.out 1).trans rfl, (blk_cell BK211.out 2).trans rfl, (blk_cell BK211.out 3).trans rfl, ((HB.out.cell (World.block_lt_of_cell? w _ hw213_0)).trans hw213_0), ((HB.out.cell (World.block_lt_of_cell? w _ hw213_1)).trans hw213_1), ((HB.out.cell (World.block_lt_of_cell? w _ hw213_2)).trans hw213_2), ((HB.out.cell (World.block_lt_of_cell? w _ hw213_3)).trans hw213_3), ((HB.out.cell (World.block_lt_of_cell? w _ hw214_0)).trans hw214_0)⟩ (fun hHeld => ?_)
                clear hK K
                refine norm_ (a' := ?_) ?_ ?_
                rotate_left
                ·show Act.put _ (some 84) _ = _
                 simp only [Act.put, List.setIfInBounds_toArray, List.set_cons_zero, List.set_cons_succ, i64_w, i32_w]
                 rfl
                refine pure_ (i := 16) (N := some 85) (v := ?_) (a' := ?_) #[true, true, true, true, true, true, true, true, true, true, true, true, true, true, true, true, true, false, false] rfl rfl (any_of HT_.out (by kernel_rfl)) (fun _ _ _ h => h) (Or.inl ⟨by rfl, ?_⟩) ?_ ?_
                rotate_left
                ·intro w'
                 go_simp
                 with_reducible rfl
                rotate_left
                ·simp only [Act.put, List.setIfInBounds_toArray, List.set_cons_zero, List.set_cons_succ, i64_w, i32_w]
                 rfl
                refine pure_ (i := 17) (N := some 86) (v := ?_) (a' := ?_) #[true, true, true, true, true, true, true, true, true, true, true, true, true, true, true, true, true, true, false] rfl rfl (any_of HT_.out (by kernel_rfl)) (fun _ _ _ h => h) (Or.inl ⟨by rfl, ?_⟩) ?_ ?_
                rotate_left
                ·intro w'
                 go_simp
                 with_reducible rfl
                rotate_left
                ·simp only [Act.put, List.setIfInBounds_toArray, List.set_cons_zero, List.set_cons_succ, i64_w, i32_w]
                 rfl
                refine last_ (i := 18) (N := none) #[true, true, true, true, true, true, true, true, true, true, true, true, true, true, true, true, true, true, true] rfl rfl (one_of HT_.out (by kernel_rfl)) (by decide) (fun K hK => ?_)
                have hs27 : w25.cell? ⟨gb211, 1, none⟩ = some (u212001) := (blk_cell BK211.out 1).trans rfl
                have hfs27 := blk_frozen BK211.out 1
                refine skip_ (w1 := ?_) (by rfl) rfl ?_ ?_
                rotate_left
                ·go_simp
                 rfl
                refine hK.out _ _ ?_
                clear hK K
                refine done_ (done_of HT_.out (by kernel_rfl)) ?_
                try go_wp2
                go_roundg k3
                case measure => have := HJ5.out; have := HK2.out; have := HK3.out; omega
                case rel => exact ⟨(wrap64 (x12_3 + 1)), (y215), (.slice Ao26 y215.length co26), ts34_, H', ⟨by have := HJ5.out; have := HK2.out; have := HK3.out; omega⟩, ⟨by (with_reducible repeat (first | apply Kd.N_alloc | apply Kd.N_drewN | apply Kd.N_drew)); exact Kd.N_mono (Kd.N_far (p := ⟨gb211, 1, none⟩) (Kd.N_mono HO_9.out (fun k_ hk => (⟨hk, hk.1⟩ : _ ∧ k_ ≠ gb211))) (fun _ hk => hk.2) (.slice Ao26 y215.length co26)) (fun _ hk => ⟨hk.1.2, hk.1.1⟩)⟩, ⟨by (with_reducible repeat (first | apply Kd.R_alloc | apply Kd.R_drewN | apply Kd.R_drew)); exact Kd.R_mono (Kd.R_far (p := ⟨gb211, 1, none⟩) (Kd.R_types HO217.out BK211.out (by decide)) (fun _ hk => hk.2) (.slice Ao26 y215.length co26)) (fun _ hk => trivial)⟩, ⟨by (with_reducible repeat (first | refine blk_drewN ?_ _ | refine blk_drew ?_ | refine blk_alloc ?_ _)); refine blk_put (cs := #[.string ((rd_T45 l0 x10_2).f0), u212001, .int .i64 ((rd_T45 l0 x10_2).f1.f1), .int .i64 ((rd_T45 l0 x10_2).f1.f2)]) ?_ 1 _ rfl; (with_reducible repeat (first | refine blk_drewN ?_ _ | refine blk_drew ?_ | refine blk_alloc ?_ _)); exact BK211.out⟩, ⟨ts20_ HB.out GE211.out⟩⟩
               rw [if_neg c23] at H
               exact absurd H (by simp)
              rw [if_neg c22] at H
              exact absurd H (by simp)
             rw [if_neg c21] at H
             have c21b0 : decide (x12_3 < (((rd_T45 l0 x10_2).f1.f0).length : Int)) = false := decide_eq_false c21
             clear c21
             by_cases c28 : x9_2.length < 2513169434916
             ·rw [if_pos c28] at H
              have LMc28 := Aside0.mk c28
              clear c28
              obtain ⟨y218, hy218⟩ : ∃ y_ : List (S45), y_ = (x9_2 ++ [(⟨((rd_T45 l0 x10_2).f0), (⟨x212001_3, ((rd_T45 l0 x10_2).f1.f1), ((rd_T45 l0 x10_2).f1.f2)⟩ : S43)⟩ : S45)]) := ⟨_, rfl⟩
              replace H : (cupellaw35_GroupsAlike.l0 k3 l0 a1 a2 t207 y218 (wrap64 (x10_2 + 1))) = some r := by first | (rw [hy218]; with_reducible exact H) | (have H2_ := (Option.bind_some _ _).symm.trans H; rw [hy218]; with_reducible exact H2_) | (have H2_ := (Option.bind_some _ _).symm.trans H; with_reducible exact H2_) | with_reducible exact H | (rw [hy218]; exact H) | exact H
              have Ny218 := Aside0.mk hy218
              clear hy218
              have H' := Aside0.mk H
              clear H
              have p212 : 0 ≤ (x10_2 : Int) := of_decide_eq_true ts26_
              have q212 : x10_2 < (l0.length : Int) := of_decide_eq_true ts26_
              obtain ⟨ad212, A212_1, c212_1, e212, hx212_0, hx212_1, hx212_2, hx212_3, hl212_1, hi212_1⟩ := at_T45 HR0.out x10_2 p212 q212
              obtain rfl : ad209 = ad212 := (by injection e212)
              replace hx212_0 := (HB.out.cell (World.block_lt_of_cell? w _ hx212_0)).trans hx212_0
              replace hx212_1 := (HB.out.cell (World.block_lt_of_cell? w _ hx212_1)).trans hx212_1
              replace hx212_2 := (HB.out.cell (World.block_lt_of_cell? w _ hx212_2)).trans hx212_2
              replace hx212_3 := (HB.out.cell (World.block_lt_of_cell? w _ hx212_3)).trans hx212_3
              have HR212_1 := Aside0.mk hi212_1
              have HC212_1 := Aside0.mk hl212_1
              clear hi212_1 hl212_1
              replace p212 := eq_true p212
              replace q212 := eq_true q212
              have hcz29_0 : wr.cell? ⟨gb211, 0, none⟩ = some (.string ((rd_T45 l0 x10_2).f0)) := (blk_cell BK211.out 0).trans rfl
              have hcz29_1 : wr.cell? ⟨gb211, 1, none⟩ = some (u212001) := (blk_cell BK211.out 1).trans rfl
              have hcz29_2 : wr.cell? ⟨gb211, 2, none⟩ = some (.int .i64 ((rd_T45 l0 x10_2).f1.f1)) := (blk_cell BK211.out 2).trans rfl
              have hcz29_3 : wr.cell? ⟨gb211, 3, none⟩ = some (.int .i64 ((rd_T45 l0 x10_2).f1.f2)) := (blk_cell BK211.out 3).trans rfl
              have hfz29_0 := blk_frozen BK211.out 0
              have hfz29_1 := blk_frozen BK211.out 1
              have hfz29_2 := blk_frozen BK211.out 2
              have hfz29_3 := blk_frozen BK211.out 3
              obtain ⟨Ao31, co31, eo31⟩ := Kd.R_slice HO_212001.out
              subst eo31
              go_wp2_with (first | ((with_reducible refine gate_builtin (b := .append) (xs := #[.tmp 87, .tmp 89]) rfl ?_); (try (refine gate_guard (by rfl) ?_; dsimp only)); at_builtin; refine Kd.N_append k45 (w0 := w) w.heap.size rfl (.tmp 87) (.tmp 89) 22 45 (.agg #[(.string ⟨#[]⟩), (.slice none 0 0), (.int .i64 0), (.int .i64 0)]) 56 rfl Tryd.underlying22 info45 rfl (by decide) (by omega) u9 x9_2 (⟨((rd_T45 l0 x10_2).f0), (⟨x212001_3, ((rd_T45 l0 x10_2).f1.f1), ((rd_T45 l0 x10_2).f1.f2)⟩ : S43)⟩ : S45) [.string ((rd_T45 l0 x10_2).f0), .slice Ao31 x212001_3.length co31, .int .i64 ((rd_T45 l0 x10_2).f1.f1), .int .i64 ((rd_T45 l0 x10_2).f1.f2)] (fun k_ => k_ ≠ gb211) (fun k_ => ((fun k_ => k_ ≠ gb211)) k_ ∧ some k_ ≠ (u9 : Value).ownBlock) rfl rfl ?aP (fun _ hk => hk) ?aF ?aO ?aB ?aS ?aL ?_; (case aP => exact (k45_mkF _ _ (⟨((rd_T45 l0 x10_2).f0), (⟨x212001_3, ((rd_T45 l0 x10_2).f1.f1), ((rd_T45 l0 x10_2).f1.f2)⟩ : S43)⟩ : S45) (Kd.R_reads' (Kd.R_mono (ok' := (fun k_ => ((fun k_ => k_ ≠ gb211)) k_ ∧ some k_ ≠ (u9 : Value).ownBlock)) (Kd.R_types (Kd.R_apart' (HO_212001.out) (Kd.N_typed HO_9.out) (by decide)) BK211.out (by decide)) (fun k_ hk => ⟨hk.2, hk.1.2⟩))).2.1 (Kd.R_F (Kd.R_mono (ok' := (fun k_ => ((fun k_ => k_ ≠ gb211)) k_ ∧ some k_ ≠ (u9 : Value).ownBlock)) (Kd.R_types (Kd.R_apart' (HO_212001.out) (Kd.N_typed HO_9.out) (by decide)) BK211.out (by decide)) (fun k_ hk => ⟨hk.2, hk.1.2⟩))))); (case aB => exact (ts20_ HB.out GE211.out)); (case aF => exact (fun k_ hk => Kd.freshB (g := gb211) (o := .cells #[.string ((rd_T45 l0 x10_2).f0), .slice Ao31 x212001_3.length co31, .int .i64 ((rd_T45 l0 x10_2).f1.f1), .int .i64 ((rd_T45 l0 x10_2).f1.f2)] 45 (0, 0)) (ts17_ BK211.out) k_ hk)); (case aO => exact (by (with_reducible repeat (first | apply Kd.N_alloc | apply Kd.N_drewN | apply Kd.N_drew)); exact Kd.N_mono HO_9.out (fun _ hk => hk.2))); (case aS => exact (below_size (ts20_ HB.out GE211.out))); (case aL => have := LMc28.out; omega); intro v219 w30 ho hb hg hat; rw [← Ny218.out] at ho; replace BK211 := Aside0.mk (blk_grown (g := gb211) (o := .cells #[.string ((rd_T45 l0 x10_2).f0), .slice Ao31 x212001_3.length co31, .int .i64 ((rd_T45 l0 x10_2).f1.f1), .int .i64 ((rd_T45 l0 x10_2).f1.f2)] 45 (0, 0)) (ts17_ BK211.out) hg (Kd.N_away HO_9.out (fun _ hk => hk.2))); replace HB := Aside0.mk (hb); have HO220 := Aside0.mk (ho); clear HO_9 HO_212001; clear ho hb hg hat))
              go_roundg k3
              case measure => have := HJ5.out; have := HK2.out; have := HK3.out; omega
              case rel => exact ⟨(y218), (wrap64 (x10_2 + 1)), ts34_, H', ⟨by have := HJ5.out; have := HK2.out; have := HK3.out; omega⟩, ⟨by (with_reducible repeat (first | apply Kd.N_alloc | apply Kd.N_drewN | apply Kd.N_drew)); exact Kd.N_mono HO220.out (fun _ hk => trivial)⟩, ⟨ts20_ HB.out GE211.out⟩⟩
             rw [if_neg c28] at H
             exact absurd H (by simp)
            rw [if_neg c20] at H
            exact absurd H (by simp)
           rw [if_neg c19] at H
           exact absurd H (by simp)
        rw [if_neg c15] at H
        exact absurd H (by simp)
       rw [if_neg c14] at H
       have c14b0 : decide (x10_2 < (l0.length : Int)) = false := decide_eq_false c14
       clear c14
       by_cases c32 : (l0.length : Int) > 0
       ·rw [if_pos c32] at H
        have c32b0 : decide (0 < (l0.length : Int)) = true := decide_eq_true c32
        have c32b1 : decide (0 < l0.length) = true := decide_eq_true (by omega)
        clear c32
        obtain ⟨ji33, hji33⟩ : ∃ j_ : Int, (wrap64 ((l0.length : Int) - 1)) = j_ := ⟨_, rfl⟩
        replace H : (if 0 ≤ (ji33) then (if (ji33) < (x9_2.length : Int) then ((cupelref35_Bare.f k2 ((rd_T45 x9_2 (ji33)).f0)).bind fun t223 => (if ((rd_T45 x9_2 (ji33)).f0).toList = t223.toList then ((groups_Key.f k2 x9_2 a1).bind fun bt224 => (if bt224.2 = 0 then (some (t207.toList == bt224.1.toList)) else (none))) else (if t223.size + 3 ≤ 9223372036854775807 then ((cupelref26_Differ.f k2 (([(⟨t223 ++ (⟨#[32, 57, 57]⟩ : ByteArray), (⟨(rd_T45 x9_2 (ji33)).f1.f0, (rd_T45 x9_2 (ji33)).f1.f1, (rd_T45 x9_2 (ji33)).f1.f2⟩ : S43)⟩ : S45), (⟨(rd_T45 x9_2 (ji33)).f0, (⟨(rd_T45 x9_2 (ji33)).f1.f0, (rd_T45 x9_2 (ji33)).f1.f1, (rd_T45 x9_2 (ji33)).f1.f2⟩ : S43)⟩ : S45)] : List (S45)))).bind fun bt230 => (if bt230.2 = 0 then (if (bt230.1.length : Int) = 0 then (if x9_2.length < 2513169434916 then ((groups_Key.f k2 (x9_2 ++ [(⟨t223 ++ (⟨#[32, 57, 57]⟩ : ByteArray), (⟨(rd_T45 x9_2 (ji33)).f1.f0, (rd_T45 x9_2 (ji33)).f1.f1, (rd_T45 x9_2 (ji33)).f1.f2⟩ : S43)⟩ : S45)]) a1).bind fun bt237 => (if bt237.2 = 0 then (some (t207.toList == bt237.1.toList)) else (none))) else (none)) else (none)) else (none))) else (none)))) else (none)) else (none)) = some r := by first | (rw [hji33] at H; exact H) | (simp only [hji33] at H ⊢; exact H)
        have hji33w : (IntKind.i64.wrap ((l0.length : Int) - 1)) = ji33 := (i64_w _).trans hji33
        by_cases c34 : 0 ≤ (ji33)
        ·rw [if_pos c34] at H
         have c34b0 : decide (0 ≤ (ji33)) = true := decide_eq_true c34
         clear c34
         by_cases c35 : (ji33) < (x9_2.length : Int)
         ·rw [if_pos c35] at H
          have c35b0 : decide ((ji33) < (x9_2.length : Int)) = true := decide_eq_true c35
          clear c35
          obtain ⟨t223, A36, H⟩ := bsA_ H
          try dsimp only at H
          by_cases c37 : ((rd_T45 x9_2 (ji33)).f0).toList = t223.toList
          ·rw [if_pos c37] at H
           have c37b0 : (((rd_T45 x9_2 (ji33)).f0).toList == t223.toList) = true := beq_iff_eq.mpr c37
           have c37b1 : (((rd_T45 x9_2 (ji33)).f0).toList != t223.toList) = false := bne_eq_false_iff_eq.mpr c37
           clear c37
           obtain ⟨⟨t224, t225⟩, A38, H⟩ := bsA_ H
           try dsimp only at H
           by_cases c39 : t225 = 0
           ·rw [if_pos c39] at H
            have c39b0 : (t225 == 0) = true := beq_iff_eq.mpr c39
            have c39b1 : (t225 != 0) = false := bne_eq_false_iff_eq.mpr c39
            clear c39
            obtain rfl := Option.some.inj H
            obtain ⟨Ao40, co40, eo40⟩ := Kd.N_slice HO_9.out
            subst eo40
            have p221 : 0 ≤ ((ji33) : Int) := of_decide_eq_true ts26_
            have q221 : (ji33) < (x9_2.length : Int) := of_decide_eq_true ts26_
            obtain ⟨ad221, A221_1, c221_1, e221, hx221_0, hx221_1, hx221_2, hx221_3, hl221_1, hi221_1⟩ := at_T45 (Kd.N_reads' HO_9.out).2.2 (ji33) p221 q221
            cases e221
            obtain ⟨ce221, hce221, hMe221, hcc221⟩ := Kd.N_get HO_9.out z45 (ji33) p221 (by first | exact q221 | exact of_decide_eq_true ts26_ | (have e_ := (Kd.N_reads' HO_9.out).1; omega))
            obtain ⟨ua221_1, uc221_1, rfl, ul221_1, ge221_1⟩ := k45_openF hMe221
            have hv221_1 := hcc221 1 _ rfl
            rw [add_field _ _ 1 (by omega)] at hv221_1
            replace hv221_1 := Option.some.inj (hv221_1.symm.trans hx221_1)
            injection hv221_1 with hva_ hvn_ hvc_
            rw [hva_] at ge221_1
            rw [hvc_] at ul221_1
            have HL221_1 := Aside0.mk (show Kd.V (Kd.int .i64) 2 _ w.heap.size _ _ ((rd_T45 x9_2 (ji33)).f1.f0) from Kd.V_mk ul221_1 ge221_1)
            clear hva_ hvn_ hvc_ ge221_1 ul221_1
            clear hcc221 hce221
            have HR221_1 := Aside0.mk hi221_1
            have HC221_1 := Aside0.mk hl221_1
            clear hi221_1 hl221_1
            replace p221 := eq_true p221
            replace q221 := eq_true q221
            go_wp2_with (first | ((with_reducible refine gate_dst (N := 13) rfl ?_); (try (refine gate_guard (by rfl) ?_; dsimp only)); refine box_event ?hg (N := 13) ?hd (cs := #[.string (⟨#[]⟩ : ByteArray), .slice none 0 0, .int .i64 0, .int .i64 0]) (t := 45) ?hr ?_; (case hd => rfl); (case hg => rfl); (case hr => exact ts18_); intro gb222 hg w41 hbox hb; replace HO_9 := Aside0.mk (Kd.N_below (Kd.N_elderB (ts10_ HO_9.out) gb222 (Nat.le_of_eq hg.symm)) hb); replace HL221_1 := Aside0.mk (Kd.V_below (Kd.V_elderB (ts33_ HL221_1.out) gb222 (Nat.le_of_eq hg.symm)) hb); replace HR221_1 := Aside0.mk (Kd.C_below (ts24_ HR221_1.out) hb); have BK222 := Aside0.mk (hbox); have GW222 := Aside0.mk ((ts51_ HB.out : w.heap.size ≤ gb222)); have GE222 := Aside0.mk ((ts51_ HB.out : w.heap.size ≤ gb222)); replace HB := Aside0.mk (below_step (ts35_ HB.out) hb); clear hb hbox hg; have hcz42_0 : w41.cell? ⟨gb222, 0, none⟩ = some (.string (⟨#[]⟩ : ByteArray)) := (blk_cell BK222.out 0).trans rfl; have hcz42_1 : w41.cell? ⟨gb222, 1, none⟩ = some (.slice none 0 0) := (blk_cell BK222.out 1).trans rfl; have hcz42_2 : w41.cell? ⟨gb222, 2, none⟩ = some (.int .i64 0) := (blk_cell BK222.out 2).trans rfl; have hcz42_3 : w41.cell? ⟨gb222, 3, none⟩ = some (.int .i64 0) := (blk_cell BK222.out 3).trans rfl; have hfz42_0 := blk_frozen BK222.out 0; have hfz42_1 := blk_frozen BK222.out 1; have hfz42_2 := blk_frozen BK222.out 2; have hfz42_3 := blk_frozen BK222.out 3) | ((with_reducible refine gate_callee (f := 17) rfl ?_); refine goesL_ (some 102) rfl rfl Tryd.func17 (by kernel_rfl) rfl #[.string ((rd_T45 x9_2 (ji33)).f0)] rfl ts29_ ?_; (with_reducible refine (cupelref35_Bare.calls k2 ((rd_T45 x9_2 (ji33)).f0) t223 _ A36.out).mono ?_); rintro e w' ⟨rfl, ⟨nd, rfl⟩⟩; refine ⟨_, rfl, ?_⟩) | ((with_reducible refine gate_callee (f := 10) rfl ?_); refine goesL_ (some 136) rfl rfl Tryd.func10 (by kernel_rfl) rfl #[.slice (some ad221) x9_2.length co40, .int .i64 a1] rfl ts8_ ?_; (with_reducible refine (groups_Key.calls k2 _ _ x9_2 a1 t224 t225 _ ?side1 ?side2 A38.out).mono ?_); (case side1 => refine (Kd.N_reads' (e := 45) (base := w.heap.size) (ok := fun k_ => (True ∧ k_ ≠ gb222)) (n := x9_2.length) (c := co40) ?_).2.2; exact (ts13_ HO_9.out)); (case side2 => exact (Kd.N_reads' HO_9.out).2.1); rintro e w43 ⟨rfl, hb⟩; refine ⟨_, rfl, ?_⟩; replace HO_9 := Aside0.mk (Kd.N_below (ts13_ HO_9.out) hb); replace HR221_1 := Aside0.mk (Kd.C_below ((Kd.V_reads' (ts16_ HL221_1.out)).2.2) hb); replace HL221_1 := Aside0.mk (Kd.V_below (ts16_ HL221_1.out) hb); replace BK222 := Aside0.mk (blk_below (g := gb222) (o := .cells #[.string ((rd_T45 x9_2 (ji33)).f0), .slice A221_1 ((rd_T45 x9_2 (ji33)).f1.f0).length c221_1, .int .i64 ((rd_T45 x9_2 (ji33)).f1.f1), .int .i64 ((rd_T45 x9_2 (ji33)).f1.f2)] 45 (0, 0)) (by (with_reducible repeat (first | refine blk_drewN ?_ _ | refine blk_drew ?_ | refine blk_alloc ?_ _)); refine blk_put (cs := #[.string ((rd_T45 x9_2 (ji33)).f0), .slice A221_1 ((rd_T45 x9_2 (ji33)).f1.f0).length c221_1, .int .i64 ((rd_T45 x9_2 (ji33)).f1.f1), .int .i64 0]) ?_ 3 _ rfl; (with_reducible repeat (first | refine blk_drewN ?_ _ | refine blk_drew ?_ | refine blk_alloc ?_ _)); refine blk_put (cs := #[.string ((rd_T45 x9_2 (ji33)).f0), .slice A221_1 ((rd_T45 x9_2 (ji33)).f1.f0).length c221_1, .int .i64 0, .int .i64 0]) ?_ 2 _ rfl; (with_reducible repeat (first | refine blk_drewN ?_ _ | refine blk_drew ?_ | refine blk_alloc ?_ _)); refine blk_put (cs := #[.string ((rd_T45 x9_2 (ji33)).f0), .slice none 0 0, .int .i64 0, .int .i64 0]) ?_ 1 _ rfl; (with_reducible repeat (first | refine blk_drewN ?_ _ | refine blk_drew ?_ | refine blk_alloc ?_ _)); refine blk_put (cs := #[.string (⟨#[]⟩ : ByteArray), .slice none 0 0, .int .i64 0, .int .i64 0]) ?_ 0 _ rfl; (with_reducible repeat (first | refine blk_drewN ?_ _ | refine blk_drew ?_ | refine blk_alloc ?_ _)); exact BK222.out) hb); replace HB := Aside0.mk (below_step (ts20_ HB.out GE222.out) hb); clear hb))
            go_ret
            exact ⟨ts2_, ts20_ HB.out GE222.out⟩
           rw [if_neg c39] at H
           exact absurd H (by simp)
          rw [if_neg c37] at H
          have c37b0 : (((rd_T45 x9_2 (ji33)).f0).toList == t223.toList) = false := beq_eq_false_iff_ne.mpr c37
          have c37b1 : (((rd_T45 x9_2 (ji33)).f0).toList != t223.toList) = true := bne_iff_ne.mpr c37
          by_cases c44 : t223.size + 3 ≤ 9223372036854775807
          ·rw [if_pos c44] at H
           have c44b0 := eq_true c44
           have c44b1 : decide (t223.size + 3 ≤ 9223372036854775807) = true := decide_eq_true c44
           try have c44b2 : (9223372036854775807 < t223.size + 3) = False := eq_false (Nat.not_lt.2 c44)
           obtain ⟨y227, hy227⟩ : ∃ y_ : List (S45), y_ = (([(⟨t223 ++ (⟨#[32, 57, 57]⟩ : ByteArray), (⟨(rd_T45 x9_2 (ji33)).f1.f0, (rd_T45 x9_2 (ji33)).f1.f1, (rd_T45 x9_2 (ji33)).f1.f2⟩ : S43)⟩ : S45), (⟨(rd_T45 x9_2 (ji33)).f0, (⟨(rd_T45 x9_2 (ji33)).f1.f0, (rd_T45 x9_2 (ji33)).f1.f1, (rd_T45 x9_2 (ji33)).f1.f2⟩ : S43)⟩ : S45)] : List (S45))) := ⟨_, rfl⟩
           replace H : ((cupelref26_Differ.f k2 y227).bind fun bt230 => (if bt230.2 = 0 then (if (bt230.1.length : Int) = 0 then (if x9_2.length < 2513169434916 then ((groups_Key.f k2 (x9_2 ++ [(⟨t223 ++ (⟨#[32, 57, 57]⟩ : ByteArray), (⟨(rd_T45 x9_2 (ji33)).f1.f0, (rd_T45 x9_2 (ji33)).f1.f1, (rd_T45 x9_2 (ji33)).f1.f2⟩ : S43)⟩ : S45)]) a1).bind fun bt237 => (if bt237.2 = 0 then (some (t207.toList == bt237.1.toList)) else (none))) else (none)) else (none)) else (none))) = some r := by first | (rw [hy227]; with_reducible exact H) | (have H2_ := (Option.bind_some _ _).symm.trans H; rw [hy227]; with_reducible exact H2_) | (have H2_ := (Option.bind_some _ _).symm.trans H; with_reducible exact H2_) | with_reducible exact H | (rw [hy227]; exact H) | exact H
           have Ny227 := Aside0.mk hy227
           clear hy227
           obtain ⟨⟨t230, t231⟩, A45, H⟩ := bsA_ H
           try dsimp only at H
           by_cases c46 : t231 = 0
           ·rw [if_pos c46] at H
            have c46b0 : (t231 == 0) = true := beq_iff_eq.mpr c46
            have c46b1 : (t231 != 0) = false := bne_eq_false_iff_eq.mpr c46
            clear c46
            by_cases c47 : (t230.length : Int) = 0
            ·rw [if_pos c47] at H
             have c47b0 : ((t230.length : Int) == 0) = true := beq_iff_eq.mpr c47
             have c47b1 : ((t230.length : Int) != 0) = false := bne_eq_false_iff_eq.mpr c47
             clear c47
             by_cases c48 : x9_2.length < 2513169434916
             ·rw [if_pos c48] at H
              have LMc48 := Aside0.mk c48
              clear c48
              obtain ⟨y234, hy234⟩ : ∃ y_ : List (S45), y_ = (x9_2 ++ [(⟨t223 ++ (⟨#[32, 57, 57]⟩ : ByteArray), (⟨(rd_T45 x9_2 (ji33)).f1.f0, (rd_T45 x9_2 (ji33)).f1.f1, (rd_T45 x9_2 (ji33)).f1.f2⟩ : S43)⟩ : S45)]) := ⟨_, rfl⟩
              replace H : ((groups_Key.f k2 y234 a1).bind fun bt237 => (if bt237.2 = 0 then (some (t207.toList == bt237.1.toList)) else (none))) = some r := by first | (rw [hy234]; with_reducible exact H) | (have H2_ := (Option.bind_some _ _).symm.trans H; rw [hy234]; with_reducible exact H2_) | (have H2_ := (Option.bind_some _ _).symm.trans H; with_reducible exact H2_) | with_reducible exact H | (rw [hy234]; exact H) | exact H
              have Ny234 := Aside0.mk hy234
              clear hy234
              obtain ⟨⟨t237, t238⟩, A49, H⟩ := bsA_ H
              try dsimp only at H
              by_cases c50 : t238 = 0
              ·rw [if_pos c50] at H
               have c50b0 : (t238 == 0) = true := beq_iff_eq.mpr c50
               have c50b1 : (t238 != 0) = false := bne_eq_false_iff_eq.mpr c50
               clear c50
               obtain rfl := Option.some.inj H
               obtain ⟨Ao51, co51, eo51⟩ := Kd.N_slice HO_9.out
               subst eo51
               have p221 : 0 ≤ ((ji33) : Int) := of_decide_eq_true ts26_
               have q221 : (ji33) < (x9_2.length : Int) := of_decide_eq_true ts26_
               obtain ⟨ad221, A221_1, c221_1, e221, hx221_0, hx221_1, hx221_2, hx221_3, hl221_1, hi221_1⟩ := at_T45 (Kd.N_reads' HO_9.out).2.2 (ji33) p221 q221
               cases e221
               obtain ⟨ce221, hce221, hMe221, hcc221⟩ := Kd.N_get HO_9.out z45 (ji33) p221 (by first | exact q221 | exact of_decide_eq_true ts26_ | (have e_ := (Kd.N_reads' HO_9.out).1; omega))
               obtain ⟨ua221_1, uc221_1, rfl, ul221_1, ge221_1⟩ := k45_openF hMe221
               have hv221_1 := hcc221 1 _ rfl
               rw [add_field _ _ 1 (by omega)] at hv221_1
               replace hv221_1 := Option.some.inj (hv221_1.symm.trans hx221_1)
               injection hv221_1 with hva_ hvn_ hvc_
               rw [hva_] at ge221_1
               rw [hvc_] at ul221_1
               have HL221_1 := Aside0.mk (show Kd.V (Kd.int .i64) 2 _ w.heap.size _ _ ((rd_T45 x9_2 (ji33)).f1.f0) from Kd.V_mk ul221_1 ge221_1)
               clear hva_ hvn_ hvc_ ge221_1 ul221_1
               clear hcc221 hce221
               have HR221_1 := Aside0.mk hi221_1
               have HC221_1 := Aside0.mk hl221_1
               clear hi221_1 hl221_1
               replace p221 := eq_true p221
               replace q221 := eq_true q221
               try go_wp2_with (first | ((with_reducible refine gate_dst (N := 13) rfl ?_); (try (refine gate_guard (by rfl) ?_; dsimp only)); refine box_event ?hg (N := 13) ?hd (cs := #[.string (⟨#[]⟩ : ByteArray), .slice none 0 0, .int .i64 0, .int .i64 0]) (t := 45) ?hr ?_; (case hd => rfl); (case hg => rfl); (case hr => exact ts18_); intro gb222 hg w52 hbox hb; replace HO_9 := Aside0.mk (Kd.N_below (Kd.N_elderB (ts10_ HO_9.out) gb222 (Nat.le_of_eq hg.symm)) hb); replace HL221_1 := Aside0.mk (Kd.V_below (Kd.V_elderB (ts33_ HL221_1.out) gb222 (Nat.le_of_eq hg.symm)) hb); replace HR221_1 := Aside0.mk (Kd.C_below (ts24_ HR221_1.out) hb); have BK222 := Aside0.mk (hbox); have GW222 := Aside0.mk ((ts51_ HB.out : w.heap.size ≤ gb222)); have GE222 := Aside0.mk ((ts51_ HB.out : w.heap.size ≤ gb222)); replace HB := Aside0.mk (below_step (ts35_ HB.out) hb); clear hb hbox hg; have hcz53_0 : w52.cell? ⟨gb222, 0, none⟩ = some (.string (⟨#[]⟩ : ByteArray)) := (blk_cell BK222.out 0).trans rfl; have hcz53_1 : w52.cell? ⟨gb222, 1, none⟩ = some (.slice none 0 0) := (blk_cell BK222.out 1).trans rfl; have hcz53_2 : w52.cell? ⟨gb222, 2, none⟩ = some (.int .i64 0) := (blk_cell BK222.out 2).trans rfl; have hcz53_3 : w52.cell? ⟨gb222, 3, none⟩ = some (.int .i64 0) := (blk_cell BK222.out 3).trans rfl; have hfz53_0 := blk_frozen BK222.out 0; have hfz53_1 := blk_frozen BK222.out 1; have hfz53_2 := blk_frozen BK222.out 2; have hfz53_3 := blk_frozen BK222.out 3) | ((with_reducible refine gate_callee (f := 17) rfl ?_); refine goesL_ (some 102) rfl rfl Tryd.func17 (by kernel_rfl) rfl #[.string ((rd_T45 x9_2 (ji33)).f0)] rfl ts29_ ?_; (with_reducible refine (cupelref35_Bare.calls k2 ((rd_T45 x9_2 (ji33)).f0) t223 _ A36.out).mono ?_); rintro e w' ⟨rfl, ⟨nd, rfl⟩⟩; refine ⟨_, rfl, ?_⟩))
               have n0_ : Aside0 (Kd.N k45 45 ((((((w52.setCell ⟨gb222, 0, none⟩ (.string ((rd_T45 x9_2 (ji33)).f0))).setCell ⟨gb222, 1, none⟩ (.slice A221_1 ((rd_T45 x9_2 (ji33)).f1.f0).length c221_1)).setCell ⟨gb222, 2, none⟩ (.int .i64 ((rd_T45 x9_2 (ji33)).f1.f1))).setCell ⟨gb222, 3, none⟩ (.int .i64 ((rd_T45 x9_2 (ji33)).f1.f2))).drewN nd).setCell ⟨gb222, 0, none⟩ (.string (t223 ++ (⟨#[32, 57, 57]⟩ : ByteArray)))) w.heap.size (fun k_ => k_ ≠ gb222) (.slice (some ad221) x9_2.length co51) x9_2) := ⟨by (with_reducible repeat (first | apply Kd.N_alloc | apply Kd.N_drewN | apply Kd.N_drew)); exact Kd.N_mono (Kd.N_far (p := ⟨gb222, 0, none⟩) (Kd.N_drewN (Kd.N_far (p := ⟨gb222, 3, none⟩) (Kd.N_far (p := ⟨gb222, 2, none⟩) (Kd.N_far (p := ⟨gb222, 1, none⟩) (Kd.N_far (p := ⟨gb222, 0, none⟩) (Kd.N_mono HO_9.out (fun k_ hk => (⟨hk, hk.2⟩ : _ ∧ k_ ≠ gb222))) (fun _ hk => hk.2) (.string ((rd_T45 x9_2 (ji33)).f0))) (fun _ hk => hk.2) (.slice A221_1 ((rd_T45 x9_2 (ji33)).f1.f0).length c221_1)) (fun _ hk => hk.2) (.int .i64 ((rd_T45 x9_2 (ji33)).f1.f1))) (fun _ hk => hk.2) (.int .i64 ((rd_T45 x9_2 (ji33)).f1.f2))) _) (fun _ hk => hk.2) (.string (t223 ++ (⟨#[32, 57, 57]⟩ : ByteArray)))) (fun _ hk => hk.1.2)⟩
               have n1_ : Aside0 (Kd.V (Kd.int .i64) 2 ((((((w52.setCell ⟨gb222, 0, none⟩ (.string ((rd_T45 x9_2 (ji33)).f0))).setCell ⟨gb222, 1, none⟩ (.slice A221_1 ((rd_T45 x9_2 (ji33)).f1.f0).length c221_1)).setCell ⟨gb222, 2, none⟩ (.int .i64 ((rd_T45 x9_2 (ji33)).f1.f1))).setCell ⟨gb222, 3, none⟩ (.int .i64 ((rd_T45 x9_2 (ji33)).f1.f2))).drewN nd).setCell ⟨gb222, 0, none⟩ (.string (t223 ++ (⟨#[32, 57, 57]⟩ : ByteArray)))) w.heap.size (fun k_ => some k_ ≠ (.slice (some ad221) x9_2.length co51 : Value).ownBlock ∧ k_ ≠ gb222) (.slice A221_1 ((rd_T45 x9_2 (ji33)).f1.f0).length c221_1) ((rd_T45 x9_2 (ji33)).f1.f0)) := ⟨by (with_reducible repeat (first | apply Kd.V_alloc | apply Kd.V_drewN | apply Kd.V_drew)); exact Kd.V_mono (Kd.V_far (p := ⟨gb222, 0, none⟩) (Kd.V_drewN (Kd.V_far (p := ⟨gb222, 3, none⟩) (Kd.V_far (p := ⟨gb222, 2, none⟩) (Kd.V_far (p := ⟨gb222, 1, none⟩) (Kd.V_far (p := ⟨gb222, 0, none⟩) (Kd.V_mono HL221_1.out (fun k_ hk => (⟨hk, hk.2⟩ : _ ∧ k_ ≠ gb222))) (fun _ hk => hk.2) (.string ((rd_T45 x9_2 (ji33)).f0))) (fun _ hk => hk.2) (.slice A221_1 ((rd_T45 x9_2 (ji33)).f1.f0).length c221_1)) (fun _ hk => hk.2) (.int .i64 ((rd_T45 x9_2 (ji33)).f1.f1))) (fun _ hk => hk.2) (.int .i64 ((rd_T45 x9_2 (ji33)).f1.f2))) _) (fun _ hk => hk.2) (.string (t223 ++ (⟨#[32, 57, 57]⟩ : ByteArray)))) (fun _ hk => ⟨hk.1.1.2, hk.1.2⟩)⟩
               have n2_ : Aside0 (((((((w52.setCell ⟨gb222, 0, none⟩ (.string ((rd_T45 x9_2 (ji33)).f0))).setCell ⟨gb222, 1, none⟩ (.slice A221_1 ((rd_T45 x9_2 (ji33)).f1.f0).length c221_1)).setCell ⟨gb222, 2, none⟩ (.int .i64 ((rd_T45 x9_2 (ji33)).f1.f1))).setCell ⟨gb222, 3, none⟩ (.int .i64 ((rd_T45 x9_2 (ji33)).f1.f2))).drewN nd).setCell ⟨gb222, 0, none⟩ (.string (t223 ++ (⟨#[32, 57, 57]⟩ : ByteArray)))).heap[gb222]? = some (.cells #[.string (t223 ++ (⟨#[32, 57, 57]⟩ : ByteArray)), .slice A221_1 ((rd_T45 x9_2 (ji33)).f1.f0).length c221_1, .int .i64 ((rd_T45 x9_2 (ji33)).f1.f1), .int .i64 ((rd_T45 x9_2 (ji33)).f1.f2)] 45 (0, 0))) := ⟨by (with_reducible repeat (first | refine blk_drewN ?_ _ | refine blk_drew ?_ | refine blk_alloc ?_ _)); refine blk_put (cs := #[.string ((rd_T45 x9_2 (ji33)).f0), .slice A221_1 ((rd_T45 x9_2 (ji33)).f1.f0).length c221_1, .int .i64 ((rd_T45 x9_2 (ji33)).f1.f1), .int .i64 ((rd_T45 x9_2 (ji33)).f1.f2)]) ?_ 0 _ rfl; (with_reducible repeat (first | refine blk_drewN ?_ _ | refine blk_drew ?_ | refine blk_alloc ?_ _)); refine blk_put (cs := #[.string ((rd_T45 x9_2 (ji33)).f0), .slice A221_1 ((rd_T45 x9_2 (ji33)).f1.f0).length c221_1, .int .i64 ((rd_T45 x9_2 (ji33)).f1.f1), .int .i64 0]) ?_ 3 _ rfl; (with_reducible repeat (first | refine blk_drewN ?_ _ | refine blk_drew ?_ | refine blk_alloc ?_ _)); refine blk_put (cs := #[.string ((rd_T45 x9_2 (ji33)).f0), .slice A221_1 ((rd_T45 x9_2 (ji33)).f1.f0).length c221_1, .int .i64 0, .int .i64 0]) ?_ 2 _ rfl; (with_reducible repeat (first | refine blk_drewN ?_ _ | refine blk_drew ?_ | refine blk_alloc ?_ _)); refine blk_put (cs := #[.string ((rd_T45 x9_2 (ji33)).f0), .slice none 0 0, .int .i64 0, .int .i64 0]) ?_ 1 _ rfl; (with_reducible repeat (first | refine blk_drewN ?_ _ | refine blk_drew ?_ | refine blk_alloc ?_ _)); refine blk_put (cs := #[.string (⟨#[]⟩ : ByteArray), .slice none 0 0, .int .i64 0, .int .i64 0]) ?_ 0 _ rfl; (with_reducible repeat (first | refine blk_drewN ?_ _ | refine blk_drew ?_ | refine blk_alloc ?_ _)); exact BK222.out⟩
               have n3_ : Aside0 (Below w.heap.size w ((((((w52.setCell ⟨gb222, 0, none⟩ (.string ((rd_T45 x9_2 (ji33)).f0))).setCell ⟨gb222, 1, none⟩ (.slice A221_1 ((rd_T45 x9_2 (ji33)).f1.f0).length c221_1)).setCell ⟨gb222, 2, none⟩ (.int .i64 ((rd_T45 x9_2 (ji33)).f1.f1))).setCell ⟨gb222, 3, none⟩ (.int .i64 ((rd_T45 x9_2 (ji33)).f1.f2))).drewN nd).setCell ⟨gb222, 0, none⟩ (.string (t223 ++ (⟨#[32, 57, 57]⟩ : ByteArray))))) := ⟨ts20_ HB.out GE222.out⟩
               (try clear HO_9)
               (try clear HL221_1)
               (try clear BK222)
               (try clear HB)
               generalize ((((((w52.setCell ⟨gb222, 0, none⟩ (.string ((rd_T45 x9_2 (ji33)).f0))).setCell ⟨gb222, 1, none⟩ (.slice A221_1 ((rd_T45 x9_2 (ji33)).f1.f0).length c221_1)).setCell ⟨gb222, 2, none⟩ (.int .i64 ((rd_T45 x9_2 (ji33)).f1.f1))).setCell ⟨gb222, 3, none⟩ (.int .i64 ((rd_T45 x9_2 (ji33)).f1.f2))).drewN nd).setCell ⟨gb222, 0, none⟩ (.string (t223 ++ (⟨#[32, 57, 57]⟩ : ByteArray)))) = w54 at n0_ n1_ n2_ n3_ ⊢
               have HO_9 := n0_
               have HL221_1 := n1_
               have BK222 := n2_
               have HB := n3_
               clear n0_ n1_ n2_ n3_
               (try (rw [drewN_self w54]; generalize hq_ : World.drewN w54 _ = w54; have n0_ : Aside0 (Kd.V (Kd.int .i64) 2 w54 w.heap.size (fun k_ => some k_ ≠ (.slice (some ad221) x9_2.length co51 : Value).ownBlock ∧ k_ ≠ gb222) (.slice A221_1 ((rd_T45 x9_2 (ji33)).f1.f0).length c221_1) ((rd_T45 x9_2 (ji33)).f1.f0)) := ⟨by rw [← hq_]; exact (ts33_ HL221_1.out)⟩; have n1_ : Aside0 (Kd.N k45 45 w54 w.heap.size (fun k_ => k_ ≠ gb222) (.slice (some ad221) x9_2.length co51) x9_2) := ⟨by rw [← hq_]; exact (ts10_ HO_9.out)⟩; have n2_ : Aside0 (w54.heap[gb222]? = some (.cells #[.string (t223 ++ (⟨#[32, 57, 57]⟩ : ByteArray)), .slice A221_1 ((rd_T45 x9_2 (ji33)).f1.f0).length c221_1, .int .i64 ((rd_T45 x9_2 (ji33)).f1.f1), .int .i64 ((rd_T45 x9_2 (ji33)).f1.f2)] 45 (0, 0))) := ⟨by rw [← hq_]; exact (ts17_ BK222.out)⟩; have n3_ : Aside0 (Below w.heap.size w w54) := ⟨by rw [← hq_]; exact (ts20_ HB.out GE222.out)⟩; clear HL221_1 HO_9 BK222 HB hq_; have HL221_1 := n0_; have HO_9 := n1_; have BK222 := n2_; have HB := n3_; clear n0_ n1_ n2_ n3_))
               have n0_ := Aside0.mk (Kd.N_drew HO_9.out)
               have n1_ := Aside0.mk (Kd.V_drew HL221_1.out)
               have n2_ := Aside0.mk (blk_drew BK222.out)
               have n3_ := Aside0.mk (below_drew1 HB.out)
               clear HO_9
               clear HL221_1
               clear BK222
               clear HB
               have HO_9 := n0_
               have HL221_1 := n1_
               have BK222 := n2_
               have HB := n3_
               clear n0_ n1_ n2_ n3_
               have p226 : 0 ≤ ((ji33) : Int) := of_decide_eq_true ts26_
               have q226 : (ji33) < (x9_2.length : Int) := of_decide_eq_true ts26_
               obtain ⟨ad226, A226_1, c226_1, e226, hx226_0, hx226_1, hx226_2, hx226_3, hl226_1, hi226_1⟩ := at_T45 (Kd.N_reads' HO_9.out).2.2 (ji33) p226 q226
               obtain rfl : ad221 = ad226 := (by injection e226)
               obtain ⟨ce226, hce226, hMe226, hcc226⟩ := Kd.N_get HO_9.out z45 (ji33) p226 (by first | exact q226 | exact of_decide_eq_true ts26_ | (have e_ := (Kd.N_reads' HO_9.out).1; omega))
               obtain ⟨ua226_1, uc226_1, rfl, ul226_1, ge226_1⟩ := k45_openF hMe226
               have hv226_1 := hcc226 1 _ rfl
               rw [add_field _ _ 1 (by omega)] at hv226_1
               replace hv226_1 := Option.some.inj (hv226_1.symm.trans hx226_1)
               injection hv226_1 with hva_ hvn_ hvc_
               rw [hva_] at ge226_1
               rw [hvc_] at ul226_1
               have HL226_1 := Aside0.mk (show Kd.V (Kd.int .i64) 2 _ w.heap.size _ _ ((rd_T45 x9_2 (ji33)).f1.f0) from Kd.V_mk ul226_1 ge226_1)
               clear hva_ hvn_ hvc_ ge226_1 ul226_1
               clear hcc226 hce226
               have HR226_1 := Aside0.mk hi226_1
               have HC226_1 := Aside0.mk hl226_1
               clear hi226_1 hl226_1
               replace p226 := eq_true p226
               replace q226 := eq_true q226
               refine start_ (n := 14) (S := fun w' => w'.cell? ⟨gb222, 0, none⟩ = some (.string (t223 ++ (⟨#[32, 57, 57]⟩ : ByteArray))) ∧ w'.cell? ⟨gb222, 1, none⟩ = some (.slice A221_1 ((rd_T45 x9_2 (ji33)).f1.f0).length c221_1) ∧ w'.cell? ⟨gb222, 2, none⟩ = some (.int .i64 ((rd_T45 x9_2 (ji33)).f1.f1)) ∧ w'.cell? ⟨gb222, 3, none⟩ = some (.int .i64 ((rd_T45 x9_2 (ji33)).f1.f2)) ∧ w'.cell? (ad221.add (((ji33)).toNat * 4)) = some (.string ((rd_T45 x9_2 (ji33)).f0)) ∧ w'.cell? ⟨(ad221.add (((ji33)).toNat * 4)).block, (ad221.add (((ji33)).toNat * 4)).off + 1, none⟩ = some (.slice A226_1 ((rd_T45 x9_2 (ji33)).f1.f0).length c226_1) ∧ w'.cell? ⟨(ad221.add (((ji33)).toNat * 4)).block, (ad221.add (((ji33)).toNat * 4)).off + 2, none⟩ = some (.int .i64 ((rd_T45 x9_2 (ji33)).f1.f1)) ∧ w'.cell? ⟨(ad221.add (((ji33)).toNat * 4)).block, (ad221.add (((ji33)).toNat * 4)).off + 3, none⟩ = some (.int .i64 ((rd_T45 x9_2 (ji33)).f1.f2))) (ds := []) #[false, false, false, false, false, false, false, false, false, false, false, false, false, false] (by kernel_rfl) rfl rfl ⟨(blk_cell BK222.out 0).trans rfl, (blk_cell BK222.out 1).trans rfl, (blk_cell BK222.out 2).trans rfl, (blk_cell BK222.out 3).trans rfl, hx226_0, hx226_1, hx226_2, hx226_3⟩ (fun hHeld => ?_); refine with_tabW cupellaw35_GroupsAlike.tab26 cupellaw35_GroupsAlike.bits26 (fun HT_ HW_ => ?_)
               generalize w54.drew = w55 at HO_9 HL221_1 BK222 HB HL226_1 HR226_1 hx226_0 hx226_1 hx226_2 hx226_3 hHeld ⊢
               refine pure_ (i := 1) (N := some 112) (v := ?_) (a' := ?_) #[false, true, false, false, false, false, false, false, false, false, false, false, false, false] rfl rfl (any_of HT_.out (by kernel_rfl)) (fun _ _ _ h => h) (Or.inl ⟨by rfl, ?_⟩) ?_ ?_
               rotate_left
               ·intro w'
                go_simp
                with_reducible rfl
               rotate_left
               ·simp only [Act.put, List.setIfInBounds_toArray, List.set_cons_zero, List.set_cons_succ, i64_w, i32_w]
                rfl
               refine pure_ (i := 2) (N := some 113) (v := ?_) (a' := ?_) #[false, true, true, false, false, false, false, false, false, false, false, false, false, false] rfl rfl (any_of HT_.out (by kernel_rfl)) (fun _ _ _ h => h) (Or.inl ⟨by rfl, ?_⟩) ?_ ?_
               rotate_left
               ·intro w'
                go_simp
                with_reducible rfl
               rotate_left
               ·simp only [Act.put, List.setIfInBounds_toArray, List.set_cons_zero, List.set_cons_succ, i64_w, i32_w]
                rfl
               refine pure_ (i := 3) (N := some 114) (v := ?_) (a' := ?_) #[false, true, true, true, false, false, false, false, false, false, false, false, false, false] rfl rfl (any_of HT_.out (by kernel_rfl)) (fun _ _ _ h => h) (Or.inl ⟨by rfl, ?_⟩) ?_ ?_
               rotate_left
               ·intro w'
                go_simp
                with_reducible rfl
               rotate_left
               ·simp only [Act.put, List.setIfInBounds_toArray, List.set_cons_zero, List.set_cons_succ, i64_w, i32_w]
                rfl
               refine pure_ (i := 4) (N := some 115) (v := ?_) (a' := ?_) #[false, true, true, true, true, false, false, false, false, false, false, false, false, false] rfl rfl (any_of HT_.out (by kernel_rfl)) (fun _ _ _ h => h) (Or.inl ⟨by rfl, ?_⟩) ?_ ?_
               rotate_left
               ·intro w'
                go_simp
                with_reducible rfl
               rotate_left
               ·simp only [Act.put, List.setIfInBounds_toArray, List.set_cons_zero, List.set_cons_succ, i64_w, i32_w]
                rfl
               refine pure_ (i := 5) (N := some 116) (v := ?_) (a' := ?_) #[false, true, true, true, true, true, false, false, false, false, false, false, false, false] rfl rfl (any_of HT_.out (by kernel_rfl)) (fun _ _ _ h => h) (Or.inl ⟨by rfl, ?_⟩) ?_ ?_
               rotate_left
               ·intro w'
                go_simp
                with_reducible rfl
               rotate_left
               ·simp only [Act.put, List.setIfInBounds_toArray, List.set_cons_zero, List.set_cons_succ, i64_w, i32_w]
                rfl
               refine take_ (i := 0) (N := some 111) (v := ?_) (a' := ?_) #[true, true, true, true, true, true, false, false, false, false, false, false, false, false] rfl rfl (take_ofW HT_.out HW_.out (by kernel_rfl)) (fun _ _ _ h => h) (Or.inl ⟨by rfl, ?_⟩) hHeld ?_ ?_
               rotate_left
               ·rintro w' ⟨s0, s1, s2, s3, s4, s5, s6, s7⟩
                go_simp
                with_reducible rfl
               rotate_left
               ·simp only [Act.put, List.setIfInBounds_toArray, List.set_cons_zero, List.set_cons_succ, i64_w, i32_w]
                rfl
               refine take_ (i := 6) (N := some 117) (v := ?_) (a' := ?_) #[true, true, true, true, true, true, true, false, false, false, false, false, false, false] rfl rfl (take_ofW HT_.out HW_.out (by kernel_rfl)) (fun _ _ _ h => h) (Or.inl ⟨by rfl, ?_⟩) hHeld ?_ ?_
               rotate_left
               ·rintro w' ⟨s0, s1, s2, s3, s4, s5, s6, s7⟩
                go_simp
                with_reducible rfl
               rotate_left
               ·simp only [Act.put, List.setIfInBounds_toArray, List.set_cons_zero, List.set_cons_succ, i64_w, i32_w]
                rfl
               refine one_ (i := 7) (N := some 118) #[true, true, true, true, true, true, true, true, false, false, false, false, false, false] rfl rfl (one_of HT_.out (by kernel_rfl)) (by decide) (fun K hK => ?_)
               refine Kd.N_lit_step k45 _ 45 ?hg (N' := 118) ?hd (xs := ([(⟨t223 ++ (⟨#[32, 57, 57]⟩ : ByteArray), (⟨(rd_T45 x9_2 (ji33)).f1.f0, (rd_T45 x9_2 (ji33)).f1.f1, (rd_T45 x9_2 (ji33)).f1.f2⟩ : S43)⟩ : S45), (⟨(rd_T45 x9_2 (ji33)).f0, (⟨(rd_T45 x9_2 (ji33)).f1.f0, (rd_T45 x9_2 (ji33)).f1.f1, (rd_T45 x9_2 (ji33)).f1.f2⟩ : S43)⟩ : S45)] : List (S45))) (inner := [.string (t223 ++ (⟨#[32, 57, 57]⟩ : ByteArray)), .slice A221_1 ((rd_T45 x9_2 (ji33)).f1.f0).length c221_1, .int .i64 ((rd_T45 x9_2 (ji33)).f1.f1), .int .i64 ((rd_T45 x9_2 (ji33)).f1.f2), .string ((rd_T45 x9_2 (ji33)).f0), .slice A226_1 ((rd_T45 x9_2 (ji33)).f1.f0).length c226_1, .int .i64 ((rd_T45 x9_2 (ji33)).f1.f1), .int .i64 ((rd_T45 x9_2 (ji33)).f1.f2)]) (ok := (fun k_ => some k_ ≠ (.slice (some ad221) x9_2.length co51 : Value).ownBlock ∧ k_ ≠ gb222)) (okp := (fun k_ => some k_ ≠ (.slice (some ad221) x9_2.length co51 : Value).ownBlock ∧ k_ ≠ gb222)) ?hr ?hp (fun _ hk => hk) ((show ∀ k_, w55.heap.size ≤ k_ → (fun k_ => some k_ ≠ (.slice (some ad221) x9_2.length co51 : Value).ownBlock ∧ k_ ≠ gb222) k_ from fun k_ hk => ⟨Kd.fresh' (Kd.N_lt (ts10_ HO_9.out)) k_ hk, Kd.freshB (g := gb222) (o := .cells #[.string (t223 ++ (⟨#[32, 57, 57]⟩ : ByteArray)), .slice A221_1 ((rd_T45 x9_2 (ji33)).f1.f0).length c221_1, .int .i64 ((rd_T45 x9_2 (ji33)).f1.f1), .int .i64 ((rd_T45 x9_2 (ji33)).f1.f2)] 45 (0, 0)) (ts17_ BK222.out) k_ hk⟩) _ (Nat.le_refl _)) (Below.refl _ _) (Nat.le_refl _) (by simp) ?_; (case hd => rfl); (case hg => rfl); (case hr => exact ts18_); (case hp => exact (Reps.c4 (show Kd.FK k45 _ _ (⟨t223 ++ (⟨#[32, 57, 57]⟩ : ByteArray), (⟨(rd_T45 x9_2 (ji33)).f1.f0, (rd_T45 x9_2 (ji33)).f1.f1, (rd_T45 x9_2 (ji33)).f1.f2⟩ : S43)⟩ : S45) [.string (t223 ++ (⟨#[32, 57, 57]⟩ : ByteArray)), .slice A221_1 ((rd_T45 x9_2 (ji33)).f1.f0).length c221_1, .int .i64 ((rd_T45 x9_2 (ji33)).f1.f1), .int .i64 ((rd_T45 x9_2 (ji33)).f1.f2)] from (k45_mkF _ _ (⟨t223 ++ (⟨#[32, 57, 57]⟩ : ByteArray), (⟨(rd_T45 x9_2 (ji33)).f1.f0, (rd_T45 x9_2 (ji33)).f1.f1, (rd_T45 x9_2 (ji33)).f1.f2⟩ : S43)⟩ : S45) (Kd.V_reads' (Kd.V_mono (ok' := (fun k_ => some k_ ≠ (.slice (some ad221) x9_2.length co51 : Value).ownBlock ∧ k_ ≠ gb222)) (HL221_1.out) (fun k_ hk => ⟨hk.1, hk.2⟩))).2.1 (Kd.V_F (Kd.V_mono (ok' := (fun k_ => some k_ ≠ (.slice (some ad221) x9_2.length co51 : Value).ownBlock ∧ k_ ≠ gb222)) (HL221_1.out) (fun k_ hk => ⟨hk.1, hk.2⟩))))) (Reps.c4 (show Kd.FK k45 _ _ (⟨(rd_T45 x9_2 (ji33)).f0, (⟨(rd_T45 x9_2 (ji33)).f1.f0, (rd_T45 x9_2 (ji33)).f1.f1, (rd_T45 x9_2 (ji33)).f1.f2⟩ : S43)⟩ : S45) [.string ((rd_T45 x9_2 (ji33)).f0), .slice A226_1 ((rd_T45 x9_2 (ji33)).f1.f0).length c226_1, .int .i64 ((rd_T45 x9_2 (ji33)).f1.f1), .int .i64 ((rd_T45 x9_2 (ji33)).f1.f2)] from (k45_mkF _ _ (⟨(rd_T45 x9_2 (ji33)).f0, (⟨(rd_T45 x9_2 (ji33)).f1.f0, (rd_T45 x9_2 (ji33)).f1.f1, (rd_T45 x9_2 (ji33)).f1.f2⟩ : S43)⟩ : S45) (Kd.V_reads' (Kd.V_mono (ok' := (fun k_ => some k_ ≠ (.slice (some ad221) x9_2.length co51 : Value).ownBlock ∧ k_ ≠ gb222)) (HL226_1.out) (fun k_ hk => ⟨hk.2, hk.1⟩))).2.1 (Kd.V_F (Kd.V_mono (ok' := (fun k_ => some k_ ≠ (.slice (some ad221) x9_2.length co51 : Value).ownBlock ∧ k_ ≠ gb222)) (HL226_1.out) (fun k_ hk => ⟨hk.2, hk.1⟩))))) (Reps.none _ _))))
               intro v228 w56 ho57 hb hg_ hnew_
               have HS4_ := (hb.cell (World.block_lt_of_cell? _ _ (hHeld.2.2.2.2.1))).trans (hHeld.2.2.2.2.1)
               have HS5_ := (hb.cell (World.block_lt_of_cell? _ _ (hHeld.2.2.2.2.2.1))).trans (hHeld.2.2.2.2.2.1)
               have HS6_ := (hb.cell (World.block_lt_of_cell? _ _ (hHeld.2.2.2.2.2.2.1))).trans (hHeld.2.2.2.2.2.2.1)
               have HS7_ := (hb.cell (World.block_lt_of_cell? _ _ (hHeld.2.2.2.2.2.2.2))).trans (hHeld.2.2.2.2.2.2.2)
               clear hg_ hnew_
               (first | rw [← Ny227.out] at ho57 | (simp only [Int.reduceToNat] at ho57; rw [← Ny227.out] at ho57))
               have n0_ := Aside0.mk (Kd.N_elder' (ts10_ HO_9.out) (Kd.N_base ho57) hb)
               have n1_ := Aside0.mk (Kd.V_elder' (ts33_ HL221_1.out) (Kd.N_base ho57) hb)
               have n2_ := Aside0.mk (Kd.V_elder' (ts33_ HL226_1.out) (Kd.N_base ho57) hb)
               have n3_ := Aside0.mk (Kd.N_lower ho57 (below_size (ts20_ HB.out GE222.out)))
               have n4_ := Aside0.mk (blk_below (g := gb222) (o := .cells #[.string (t223 ++ (⟨#[32, 57, 57]⟩ : ByteArray)), .slice A221_1 ((rd_T45 x9_2 (ji33)).f1.f0).length c221_1, .int .i64 ((rd_T45 x9_2 (ji33)).f1.f1), .int .i64 ((rd_T45 x9_2 (ji33)).f1.f2)] 45 (0, 0)) (ts17_ BK222.out) hb)
               have n5_ := Aside0.mk (Kd.C_below (ts24_ HR226_1.out) hb)
               have n6_ := Aside0.mk (below_step (ts20_ HB.out GE222.out) hb)
               clear HO_9
               clear HL221_1
               clear HL226_1
               clear BK222
               clear HR226_1
               clear HB
               have HO_9 := n0_
               have HL221_1 := n1_
               have HL226_1 := n2_
               have HO229 := n3_
               have BK222 := n4_
               have HR226_1 := n5_
               have HB := n6_
               clear n0_ n1_ n2_ n3_ n4_ n5_ n6_
               clear hb ho57
               obtain ⟨Ao58, co58, eo58⟩ := Kd.N_slice HO229.out
               (first | subst eo58 | (injection eo58 with f1_ f2_ f3_; have f4_ := f1_.symm; have f5_ := f3_.symm; clear f1_ f2_ f3_; subst f4_; subst f5_))
               refine hK.out _ _ ⟨(blk_cell BK222.out 0).trans rfl, (blk_cell BK222.out 1).trans rfl, (blk_cell BK222.out 2).trans rfl, (blk_cell BK222.out 3).trans rfl, HS4_, HS5_, HS6_, HS7_⟩ (fun hHeld => ?_)
               clear hK K
               refine norm_ (a' := ?_) ?_ ?_
               rotate_left
               ·show Act.put _ (some 118) _ = _
                simp only [Act.put, List.setIfInBounds_toArray, List.set_cons_zero, List.set_cons_succ, i64_w, i32_w]
                rfl
               refine one_ (i := 8) (N := some 119) #[true, true, true, true, true, true, true, true, true, false, false, false, false, false] rfl rfl (one_of HT_.out (by kernel_rfl)) (by decide) (fun K hK => ?_)
               refine goes_ Tryd.func18 (by kernel_rfl) rfl #[.slice Ao58 y227.length co58] (by rfl) rfl rfl ts8_ ?_
               with_reducible refine (cupelref26_Differ.calls k2 _ _ y227 t230 t231 _ ?side1 ?side2 A45.out).mono ?_
               (case side1 => exact ts32_ HO229.out)
               (case side2 => exact (Kd.N_reads' HO229.out).2.1)
               rintro e w59 ⟨v232, rfl, ho0, hb⟩
               have HS4_ := (hb.cell (World.block_lt_of_cell? _ _ (hHeld.2.2.2.2.1))).trans (hHeld.2.2.2.2.1)
               have HS5_ := (hb.cell (World.block_lt_of_cell? _ _ (hHeld.2.2.2.2.2.1))).trans (hHeld.2.2.2.2.2.1)
               have HS6_ := (hb.cell (World.block_lt_of_cell? _ _ (hHeld.2.2.2.2.2.2.1))).trans (hHeld.2.2.2.2.2.2.1)
               have HS7_ := (hb.cell (World.block_lt_of_cell? _ _ (hHeld.2.2.2.2.2.2.2))).trans (hHeld.2.2.2.2.2.2.2)
               refine ⟨_, rfl, ?_⟩
               have n0_ := Aside0.mk (Kd.N_elder' (ts10_ HO_9.out) (Kd.R_base ho0) hb)
               have n1_ := Aside0.mk (Kd.V_elder' (ts33_ HL221_1.out) (Kd.R_base ho0) hb)
               have n2_ := Aside0.mk (Kd.V_elder' (ts33_ HL226_1.out) (Kd.R_base ho0) hb)
               have n3_ := Aside0.mk (Kd.N_elder' (ts10_ HO229.out) (Kd.R_base ho0) hb)
               have n4_ := Aside0.mk (Kd.R_lower ho0 (below_size (ts20_ HB.out GE222.out)))
               have n5_ := Aside0.mk (blk_below (g := gb222) (o := .cells #[.string (t223 ++ (⟨#[32, 57, 57]⟩ : ByteArray)), .slice A221_1 ((rd_T45 x9_2 (ji33)).f1.f0).length c221_1, .int .i64 ((rd_T45 x9_2 (ji33)).f1.f1), .int .i64 ((rd_T45 x9_2 (ji33)).f1.f2)] 45 (0, 0)) (ts17_ BK222.out) hb)
               have n6_ := Aside0.mk (Kd.C_below (ts24_ HR226_1.out) hb)
               have n7_ := Aside0.mk (below_step (ts20_ HB.out GE222.out) hb)
               clear HO_9
               clear HL221_1
               clear HL226_1
               clear HO229
               clear BK222
               clear HR226_1
               clear HB
               have HO_9 := n0_
               have HL221_1 := n1_
               have HL226_1 := n2_
               have HO229 := n3_
               have HO233 := n4_
               have BK222 := n5_
               have HR226_1 := n6_
               have HB := n7_
               clear n0_ n1_ n2_ n3_ n4_ n5_ n6_ n7_
               (try clear hb)
               (try clear hb2)
               (try clear hk)
               (try clear hi)
               (try clear ho0)
               refine hK.out _ _ ⟨(blk_cell BK222.out 0).trans rfl, (blk_cell BK222.out 1).trans rfl, (blk_cell BK222.out 2).trans rfl, (blk_cell BK222.out 3).trans rfl, HS4_, HS5_, HS6_, HS7_⟩ (fun hHeld => ?_)
               clear hK K
               refine norm_ (a' := ?_) ?_ ?_
               rotate_left
               ·show Act.put _ (some 119) _ = _
                simp only [Act.put, List.setIfInBounds_toArray, List.set_cons_zero, List.set_cons_succ, i64_w, i32_w]
                rfl
               refine pure_ (i := 9) (N := some 110) (v := ?_) (a' := ?_) #[true, true, true, true, true, true, true, true, true, true, false, false, false, false] rfl rfl (any_of HT_.out (by kernel_rfl)) (fun _ _ _ h => h) (Or.inl ⟨by rfl, ?_⟩) ?_ ?_
               rotate_left
               ·intro w'
                go_simp
                with_reducible rfl
               rotate_left
               ·simp only [Act.put, List.setIfInBounds_toArray, List.set_cons_zero, List.set_cons_succ, i64_w, i32_w]
                rfl
               refine pure_ (i := 10) (N := some 120) (v := ?_) (a' := ?_) #[true, true, true, true, true, true, true, true, true, true, true, false, false, false] rfl rfl (any_of HT_.out (by kernel_rfl)) (fun _ _ _ h => h) (Or.inl ⟨by rfl, ?_⟩) ?_ ?_
               rotate_left
               ·intro w'
                go_simp
                with_reducible rfl
               rotate_left
               ·simp only [Act.put, List.setIfInBounds_toArray, List.set_cons_zero, List.set_cons_succ, i64_w, i32_w]
                rfl
               refine pure_ (i := 11) (N := some 121) (v := ?_) (a' := ?_) #[true, true, true, true, true, true, true, true, true, true, true, true, false, false] rfl rfl (any_of HT_.out (by kernel_rfl)) (fun _ _ _ h => h) (Or.inl ⟨by rfl, ?_⟩) ?_ ?_
               rotate_left
               ·intro w'
                go_simp
                with_reducible rfl
               rotate_left
               ·simp only [Act.put, List.setIfInBounds_toArray, List.set_cons_zero, List.set_cons_succ, i64_w, i32_w]
                rfl
               refine pure_ (i := 12) (N := some 15) (v := ?_) (a' := ?_) #[true, true, true, true, true, true, true, true, true, true, true, true, true, false] rfl rfl (any_of HT_.out (by kernel_rfl)) (fun _ _ _ h => h) (Or.inl ⟨by rfl, ?_⟩) ?_ ?_
               rotate_left
               ·intro w'
                go_simp
                with_reducible rfl
               rotate_left
               ·simp only [Act.put, List.setIfInBounds_toArray, List.set_cons_zero, List.set_cons_succ, i64_w, i32_w]
                rfl
               refine pure_ (i := 13) (N := some 16) (v := ?_) (a' := ?_) #[true, true, true, true, true, true, true, true, true, true, true, true, true, true] rfl rfl (any_of HT_.out (by kernel_rfl)) (fun _ _ _ h => h) (Or.inl ⟨by rfl, ?_⟩) ?_ ?_
               rotate_left
               ·intro w'
                go_simp
                with_reducible rfl
               rotate_left
               ·simp only [Act.put, List.setIfInBounds_toArray, List.set_cons_zero, List.set_cons_succ, i64_w, i32_w]
                rfl
               refine done_ (done_of HT_.out (by kernel_rfl)) ?_
               obtain ⟨Ao60, co60, eo60⟩ := Kd.R_slice HO233.out
               subst eo60
               have hcz61_0 : w59.cell? ⟨gb222, 0, none⟩ = some (.string (t223 ++ (⟨#[32, 57, 57]⟩ : ByteArray))) := (blk_cell BK222.out 0).trans rfl
               have hcz61_1 : w59.cell? ⟨gb222, 1, none⟩ = some (.slice A221_1 ((rd_T45 x9_2 (ji33)).f1.f0).length c221_1) := (blk_cell BK222.out 1).trans rfl
               have hcz61_2 : w59.cell? ⟨gb222, 2, none⟩ = some (.int .i64 ((rd_T45 x9_2 (ji33)).f1.f1)) := (blk_cell BK222.out 2).trans rfl
               have hcz61_3 : w59.cell? ⟨gb222, 3, none⟩ = some (.int .i64 ((rd_T45 x9_2 (ji33)).f1.f2)) := (blk_cell BK222.out 3).trans rfl
               have hfz61_0 := blk_frozen BK222.out 0
               have hfz61_1 := blk_frozen BK222.out 1
               have hfz61_2 := blk_frozen BK222.out 2
               have hfz61_3 := blk_frozen BK222.out 3
               try go_wp2_with (first | ((with_reducible refine gate_builtin (b := .append) (xs := #[.tmp 129, .tmp 131]) rfl ?_); (try (refine gate_guard (by rfl) ?_; dsimp only)); at_builtin; refine Kd.N_append k45 (w0 := w) w.heap.size rfl (.tmp 129) (.tmp 131) 22 45 (.agg #[(.string ⟨#[]⟩), (.slice none 0 0), (.int .i64 0), (.int .i64 0)]) 56 rfl Tryd.underlying22 info45 rfl (by decide) (by omega) (.slice (some ad221) x9_2.length co51) x9_2 (⟨t223 ++ (⟨#[32, 57, 57]⟩ : ByteArray), (⟨(rd_T45 x9_2 (ji33)).f1.f0, (rd_T45 x9_2 (ji33)).f1.f1, (rd_T45 x9_2 (ji33)).f1.f2⟩ : S43)⟩ : S45) [.string (t223 ++ (⟨#[32, 57, 57]⟩ : ByteArray)), .slice A221_1 ((rd_T45 x9_2 (ji33)).f1.f0).length c221_1, .int .i64 ((rd_T45 x9_2 (ji33)).f1.f1), .int .i64 ((rd_T45 x9_2 (ji33)).f1.f2)] (fun k_ => some k_ ≠ (.slice Ao58 y227.length co58 : Value).ownBlock ∧ some k_ ≠ (.slice Ao60 t230.length co60 : Value).ownBlock ∧ k_ ≠ gb222) (fun k_ => ((fun k_ => some k_ ≠ (.slice Ao58 y227.length co58 : Value).ownBlock ∧ some k_ ≠ (.slice Ao60 t230.length co60 : Value).ownBlock ∧ k_ ≠ gb222)) k_ ∧ some k_ ≠ (.slice (some ad221) x9_2.length co51 : Value).ownBlock) rfl rfl ?aP (fun _ hk => hk) ?aF ?aO ?aB ?aS ?aL ?_; (case aP => exact (k45_mkF _ _ (⟨t223 ++ (⟨#[32, 57, 57]⟩ : ByteArray), (⟨(rd_T45 x9_2 (ji33)).f1.f0, (rd_T45 x9_2 (ji33)).f1.f1, (rd_T45 x9_2 (ji33)).f1.f2⟩ : S43)⟩ : S45) (Kd.V_reads' (Kd.V_mono (ok' := (fun k_ => ((fun k_ => some k_ ≠ (.slice Ao58 y227.length co58 : Value).ownBlock ∧ some k_ ≠ (.slice Ao60 t230.length co60 : Value).ownBlock ∧ k_ ≠ gb222)) k_ ∧ some k_ ≠ (.slice (some ad221) x9_2.length co51 : Value).ownBlock)) (HL221_1.out) (fun k_ hk => ⟨⟨hk.1.2, ⟨hk.2, hk.1.1.2⟩⟩, hk.1.1.1⟩))).2.1 (Kd.V_F (Kd.V_mono (ok' := (fun k_ => ((fun k_ => some k_ ≠ (.slice Ao58 y227.length co58 : Value).ownBlock ∧ some k_ ≠ (.slice Ao60 t230.length co60 : Value).ownBlock ∧ k_ ≠ gb222)) k_ ∧ some k_ ≠ (.slice (some ad221) x9_2.length co51 : Value).ownBlock)) (HL221_1.out) (fun k_ hk => ⟨⟨hk.1.2, ⟨hk.2, hk.1.1.2⟩⟩, hk.1.1.1⟩))))); (case aB => exact (ts20_ HB.out GE222.out)); (case aF => exact (fun k_ hk => ⟨Kd.fresh' (Kd.N_lt (ts10_ HO229.out)) k_ hk, Kd.fresh' (Kd.R_lt (ts22_ HO233.out)) k_ hk, Kd.freshB (g := gb222) (o := .cells #[.string (t223 ++ (⟨#[32, 57, 57]⟩ : ByteArray)), .slice A221_1 ((rd_T45 x9_2 (ji33)).f1.f0).length c221_1, .int .i64 ((rd_T45 x9_2 (ji33)).f1.f1), .int .i64 ((rd_T45 x9_2 (ji33)).f1.f2)] 45 (0, 0)) (ts17_ BK222.out) k_ hk⟩)); (case aO => exact (by (with_reducible repeat (first | apply Kd.N_alloc | apply Kd.N_drewN | apply Kd.N_drew)); exact Kd.N_mono HO_9.out (fun _ hk => ⟨hk.1.2, ⟨hk.2, hk.1.1⟩⟩))); (case aS => exact (below_size (ts20_ HB.out GE222.out))); (case aL => have := LMc48.out; omega); intro v235 w62 ho hb hg hat; rw [← Ny234.out] at ho; replace HL221_1 := Aside0.mk (Kd.V_afterv (ok := (fun k_ => some k_ ≠ (.slice Ao58 y227.length co58 : Value).ownBlock ∧ some k_ ≠ (.slice Ao60 t230.length co60 : Value).ownBlock ∧ k_ ≠ gb222)) (by (with_reducible repeat (first | apply Kd.V_alloc | apply Kd.V_drewN | apply Kd.V_drew)); exact Kd.V_mono HL221_1.out (fun _ hk => ⟨⟨hk.1.2, ⟨hk.2, hk.1.1.2⟩⟩, hk.1.1.1⟩)) hg hat); replace BK222 := Aside0.mk (blk_grown (g := gb222) (o := .cells #[.string (t223 ++ (⟨#[32, 57, 57]⟩ : ByteArray)), .slice A221_1 ((rd_T45 x9_2 (ji33)).f1.f0).length c221_1, .int .i64 ((rd_T45 x9_2 (ji33)).f1.f1), .int .i64 ((rd_T45 x9_2 (ji33)).f1.f2)] 45 (0, 0)) (ts17_ BK222.out) hg (Kd.N_away HO_9.out (fun _ hk => hk.1.1))); replace HL226_1 := Aside0.mk (Kd.V_afterv (ok := (fun k_ => some k_ ≠ (.slice Ao58 y227.length co58 : Value).ownBlock ∧ some k_ ≠ (.slice Ao60 t230.length co60 : Value).ownBlock ∧ k_ ≠ gb222)) (by (with_reducible repeat (first | apply Kd.V_alloc | apply Kd.V_drewN | apply Kd.V_drew)); exact Kd.V_mono HL226_1.out (fun _ hk => ⟨⟨hk.1.2, ⟨hk.2, hk.1.1.1⟩⟩, hk.1.1.2⟩)) hg hat); replace HO229 := Aside0.mk (Kd.N_afterv (ok := (fun k_ => some k_ ≠ (.slice Ao60 t230.length co60 : Value).ownBlock ∧ k_ ≠ gb222)) (by (with_reducible repeat (first | apply Kd.N_alloc | apply Kd.N_drewN | apply Kd.N_drew)); exact Kd.N_mono HO229.out (fun _ hk => ⟨⟨hk.2, hk.1.2⟩, hk.1.1⟩)) hg hat); replace HO233 := Aside0.mk (Kd.R_over' (ts22_ HO233.out) (Kd.N_typed (ts10_ HO_9.out)) (by decide) hg); replace HB := Aside0.mk (hb); have HO236 := Aside0.mk (ho); clear HO_9; clear ho hb hg hat; obtain ⟨Ao63, co63, eo63⟩ := Kd.N_slice HO236.out; subst eo63) | ((with_reducible refine gate_callee (f := 10) rfl ?_); refine goesL_ (some 136) rfl rfl Tryd.func10 (by kernel_rfl) rfl #[.slice Ao63 y234.length co63, .int .i64 a1] rfl ts8_ ?_; (with_reducible refine (groups_Key.calls k2 _ _ y234 a1 t237 t238 _ ?side1 ?side2 A49.out).mono ?_); (case side1 => exact ts32_ HO236.out); (case side2 => exact (Kd.N_reads' HO236.out).2.1); rintro e w64 ⟨rfl, hb⟩; refine ⟨_, rfl, ?_⟩; replace HL221_1 := Aside0.mk (Kd.V_below (ts33_ HL221_1.out) hb); replace HL226_1 := Aside0.mk (Kd.V_below (ts33_ HL226_1.out) hb); replace HO229 := Aside0.mk (Kd.N_below (ts10_ HO229.out) hb); replace HO233 := Aside0.mk (Kd.R_below (ts22_ HO233.out) hb); replace HO236 := Aside0.mk (Kd.N_below (ts10_ HO236.out) hb); replace BK222 := Aside0.mk (blk_below (g := gb222) (o := .cells #[.string (t223 ++ (⟨#[32, 57, 57]⟩ : ByteArray)), .slice A221_1 ((rd_T45 x9_2 (ji33)).f1.f0).length c221_1, .int .i64 ((rd_T45 x9_2 (ji33)).f1.f1), .int .i64 ((rd_T45 x9_2 (ji33)).f1.f2)] 45 (0, 0)) (ts17_ BK222.out) hb); replace HB := Aside0.mk (below_step (ts20_ HB.out GE222.out) hb); clear hb))
               go_ret
               exact ⟨ts2_, ts20_ HB.out GE222.out⟩
              rw [if_neg c50] at H
              exact absurd H (by simp)
             rw [if_neg c48] at H
             exact absurd H (by simp)
            rw [if_neg c47] at H
            exact absurd H (by simp)
           rw [if_neg c46] at H
           exact absurd H (by simp)
          rw [if_neg c44] at H
          exact absurd H (by simp)
         rw [if_neg c35] at H
         exact absurd H (by simp)
        rw [if_neg c34] at H
        exact absurd H (by simp)
       rw [if_neg c32] at H
       have c32b0 : decide (0 < (l0.length : Int)) = false := decide_eq_false c32
       have c32b1 : decide (0 < l0.length) = false := decide_eq_false (by omega)
       clear c32
       obtain ⟨⟨t239, t240⟩, A65, H⟩ := bsA_ H
       try dsimp only at H
       by_cases c66 : t240 = 0
       ·rw [if_pos c66] at H
        have c66b0 : (t240 == 0) = true := beq_iff_eq.mpr c66
        have c66b1 : (t240 != 0) = false := bne_eq_false_iff_eq.mpr c66
        clear c66
        obtain rfl := Option.some.inj H
        obtain ⟨Ao67, co67, eo67⟩ := Kd.N_slice HO_9.out
        subst eo67
        go_wp2_with (first | ((with_reducible refine gate_callee (f := 10) rfl ?_); refine goesL_ (some 136) rfl rfl Tryd.func10 (by kernel_rfl) rfl #[.slice Ao67 x9_2.length co67, .int .i64 a1] rfl ts8_ ?_; (with_reducible refine (groups_Key.calls k2 _ _ x9_2 a1 t239 t240 _ ?side1 ?side2 A65.out).mono ?_); (case side1 => exact ts32_ HO_9.out); (case side2 => exact (Kd.N_reads' HO_9.out).2.1); rintro e w68 ⟨rfl, hb⟩; refine ⟨_, rfl, ?_⟩; replace HO_9 := Aside0.mk (Kd.N_below (ts10_ HO_9.out) hb); replace HB := Aside0.mk (below_step (ts35_ HB.out) hb); clear hb))
        go_ret
        exact ⟨ts30_, ts35_ HB.out⟩
       rw [if_neg c66] at H
       exact absurd H (by simp)
    rw [if_neg c12] at H
    have c12b0 : (t208 == 0) = false := beq_eq_false_iff_ne.mpr c12
    have c12b1 : (t208 != 0) = true := bne_iff_ne.mpr c12
    obtain rfl := Option.some.inj H
    go_wp2_with (first | ((with_reducible refine gate_callee (f := 10) rfl ?_); refine goesL_ (some 31) rfl rfl Tryd.func10 (by kernel_rfl) rfl #[.slice A0 l0.length c0, .int .i64 a1] rfl ts8_ ?_; (with_reducible refine (groups_Key.calls kj5 _ _ l0 a1 t207 t208 _ ?side1 ?side2 A11.out).mono ?_); (case side1 => exact ts9_ HR0.out HB.out); (case side2 => exact HC0.out); rintro e w69 ⟨rfl, hb⟩; refine ⟨_, rfl, ?_⟩; replace HB := Aside0.mk (below_step (ts35_ HB.out) hb); clear hb))
    go_ret
    exact ⟨ts30_, ts35_ HB.out⟩
 replace c5 := Bool.eq_false_iff.mpr c5
 subst c5
 rw [if_neg Bool.false_ne_true] at H
 exact absurd H (by simp)
end Go.Proofs.YtndennmpnomjnaaDoor.A
