/- Written by wip/tools/xprint.py, a program of this session that drives the kit's printer. Not trusted: Lean checks it. -/
import Derived.Test.YtndennmpnomjnaaDoorAx0
import Derived.Test.YtndennmpnomjnaaDoorAx5
import Derived.Test.YtndennmpnomjnaaDoorAx6
import Derived.Test.YtndennmpnomjnaaDoorAx7
set_option linter.all false
set_option maxHeartbeats 8000000
set_option maxRecDepth 100000
namespace Go.Proofs.YtndennmpnomjnaaDoor.A
open Go.RowKit Go.Proofs.YtndennmpnomjnaaDoorW.PrintWords Go.Proofs.YtndennmpnomjnaaDoorW.PrintLast Go.Proofs.YtndennmpnomjnaaDoorW.PrintMore
attribute [local go_sem] max2_int min2_int max_two min_two max_three min_three max_four min_four   -- for this text's walks alone
set_option linter.unusedVariables false
set_option linter.unusedSimpArgs false
/-! ### cupelref35_Key: function 11 -/
mutual
def cupelref35_Key.j0 : Nat → List (S45) → Int → List (S57) → Bool → Option (ByteArray × Int)
 | 0, _, _, _, _ => none
 | k + 1, x0, x1, x6, x28 => if x28 = true then (some ((⟨#[]⟩ : ByteArray), 2)) else (cupelref35_Key.l0 k x0 x1 x6 0)
def cupelref35_Key.l0 : Nat → List (S45) → Int → List (S57) → Int → Option (ByteArray × Int)
 | 0, _, _, _, _ => none
 | k + 1, x0, x1, x6, x8 => if x8 < (x0.length : Int) then (if 0 ≤ x8 then ((cupelref35_way.f k ((rd_T45 x0 x8).f0)).bind fun t242 => (if t242 = true then (cupelref35_Key.l0 k x0 x1 x6 (wrap64 (x8 + 1))) else (some ((⟨#[]⟩ : ByteArray), 2)))) else (none)) else ((cupelref35_decimal.f k x1).bind fun t243 => (if 5 + t243.size ≤ 9223372036854775807 then (cupelref35_Key.l1 k x0 x6 ((⟨#[112, 97, 115, 115, 32]⟩ : ByteArray) ++ t243) ([] : List ByteArray) 0) else (none)))
def cupelref35_Key.l1 : Nat → List (S45) → List (S57) → ByteArray → List ByteArray → Int → Option (ByteArray × Int)
 | 0, _, _, _, _, _ => none
 | k + 1, x0, x6, x9, x10, x11 => if x11 < (x6.length : Int) then (if 0 ≤ x11 then ((cupelref35_part.f k x0 ((rd_T57 x6 x11).f0) ((rd_T57 x6 x11).f1) ((rd_T57 x6 x11).f2) ((rd_T57 x6 x11).f3)).bind fun t245 => (cupelref35_Key.l2 k x0 x6 x9 x10 x11 t245 false 0)) else (none)) else (some (x9, 0))
def cupelref35_Key.l2 : Nat → List (S45) → List (S57) → ByteArray → List ByteArray → Int → ByteArray → Bool → Int → Option (ByteArray × Int)
 | 0, _, _, _, _, _, _, _, _ => none
 | k + 1, x0, x6, x9, x10, x11, x12, x13, x14 => if x14 < (x10.length : Int) then (if x13 = true then (cupelref35_Key.l2 k x0 x6 x9 x10 x11 x12 true (wrap64 (x14 + 1))) else (if 0 ≤ x14 then (cupelref35_Key.l2 k x0 x6 x9 x10 x11 x12 ((rdOf ByteArray.empty x10 x14).toList == x12.toList) (wrap64 (x14 + 1))) else (none))) else (if x13 = true then (cupelref35_Key.l1 k x0 x6 x9 x10 (wrap64 (x11 + 1))) else (if x10.length < 8796093022208 then (if x9.size + 2 ≤ 9223372036854775807 then (if (x9 ++ (⟨#[59, 32]⟩ : ByteArray)).size + x12.size ≤ 9223372036854775807 then (cupelref35_Key.l1 k x0 x6 ((x9 ++ (⟨#[59, 32]⟩ : ByteArray)) ++ x12) (x10 ++ [x12]) (wrap64 (x11 + 1))) else (none)) else (none)) else (none)))
end
def cupelref35_Key.f (k : Nat) (l0 : List (S45)) (a1 : Int) : Option (ByteArray × Int) := (cupelref26_Differ.f k l0).bind fun bt237 => (if bt237.2 = 0 then (if a1 < (-1) then (cupelref35_Key.j0 k l0 a1 bt237.1 true) else (cupelref35_Key.j0 k l0 a1 bt237.1 (decide (a1 > 9)))) else (some ((⟨#[]⟩ : ByteArray), bt237.2)))
theorem cupelref35_Key.mono_l : ∀ k, (∀ y0 y1 y2 y3, LeO (cupelref35_Key.j0 k y0 y1 y2 y3) (cupelref35_Key.j0 (k + 1) y0 y1 y2 y3)) ∧ (∀ y0 y1 y2 y3, LeO (cupelref35_Key.l0 k y0 y1 y2 y3) (cupelref35_Key.l0 (k + 1) y0 y1 y2 y3)) ∧ (∀ y0 y1 y2 y3 y4, LeO (cupelref35_Key.l1 k y0 y1 y2 y3 y4) (cupelref35_Key.l1 (k + 1) y0 y1 y2 y3 y4)) ∧ (∀ y0 y1 y2 y3 y4 y5 y6 y7, LeO (cupelref35_Key.l2 k y0 y1 y2 y3 y4 y5 y6 y7) (cupelref35_Key.l2 (k + 1) y0 y1 y2 y3 y4 y5 y6 y7))
 | 0 => ⟨fun _ _ _ _ r h => by simp [cupelref35_Key.j0] at h, fun _ _ _ _ r h => by simp [cupelref35_Key.l0] at h, fun _ _ _ _ _ r h => by simp [cupelref35_Key.l1] at h, fun _ _ _ _ _ _ _ _ r h => by simp [cupelref35_Key.l2] at h⟩
 | k + 1 => by
  obtain ⟨ih0, ih1, ih2, ih3⟩ := cupelref35_Key.mono_l k
  refine ⟨?_, ?_, ?_, ?_⟩
  ·intro y0 y1 y2 y3
   unfold cupelref35_Key.j0
   repeat' first
   | (with_reducible exact ih0 _ _ _ _)
   | (with_reducible exact ih1 _ _ _ _)
   | (with_reducible exact ih2 _ _ _ _ _)
   | (with_reducible exact ih3 _ _ _ _ _ _ _ _)
   | (with_reducible exact cupelref26_Differ.mono _ _)
   | (with_reducible exact cupelref35_decimal.mono _ _)
   | (with_reducible exact cupelref35_part.mono _ _ _ _ _ _)
   | (with_reducible exact cupelref35_way.mono _ _)
   | (with_reducible exact LeO.refl _)
   | (with_reducible exact LeO.none _)
   | (with_reducible refine LeO.ite ?_ ?_)
   | (with_reducible refine LeO.bind ?_ (fun _ => ?_))
   | exact LeO.none _
   | refine LeO.ite ?_ ?_
   | refine LeO.bind ?_ (fun _ => ?_)
  ·intro y0 y1 y2 y3
   unfold cupelref35_Key.l0
   repeat' first
   | (with_reducible exact ih0 _ _ _ _)
   | (with_reducible exact ih1 _ _ _ _)
   | (with_reducible exact ih2 _ _ _ _ _)
   | (with_reducible exact ih3 _ _ _ _ _ _ _ _)
   | (with_reducible exact cupelref26_Differ.mono _ _)
   | (with_reducible exact cupelref35_decimal.mono _ _)
   | (with_reducible exact cupelref35_part.mono _ _ _ _ _ _)
   | (with_reducible exact cupelref35_way.mono _ _)
   | (with_reducible exact LeO.refl _)
   | (with_reducible exact LeO.none _)
   | (with_reducible refine LeO.ite ?_ ?_)
   | (with_reducible refine LeO.bind ?_ (fun _ => ?_))
   | exact LeO.none _
   | refine LeO.ite ?_ ?_
   | refine LeO.bind ?_ (fun _ => ?_)
  ·intro y0 y1 y2 y3 y4
   unfold cupelref35_Key.l1
   repeat' first
   | (with_reducible exact ih0 _ _ _ _)
   | (with_reducible exact ih1 _ _ _ _)
   | (with_reducible exact ih2 _ _ _ _ _)
   | (with_reducible exact ih3 _ _ _ _ _ _ _ _)
   | (with_reducible exact cupelref26_Differ.mono _ _)
   | (with_reducible exact cupelref35_decimal.mono _ _)
   | (with_reducible exact cupelref35_part.mono _ _ _ _ _ _)
   | (with_reducible exact cupelref35_way.mono _ _)
   | (with_reducible exact LeO.refl _)
   | (with_reducible exact LeO.none _)
   | (with_reducible refine LeO.ite ?_ ?_)
   | (with_reducible refine LeO.bind ?_ (fun _ => ?_))
   | exact LeO.none _
   | refine LeO.ite ?_ ?_
   | refine LeO.bind ?_ (fun _ => ?_)
  intro y0 y1 y2 y3 y4 y5 y6 y7
  unfold cupelref35_Key.l2
  repeat' first
  | (with_reducible exact ih0 _ _ _ _)
  | (with_reducible exact ih1 _ _ _ _)
  | (with_reducible exact ih2 _ _ _ _ _)
  | (with_reducible exact ih3 _ _ _ _ _ _ _ _)
  | (with_reducible exact cupelref26_Differ.mono _ _)
  | (with_reducible exact cupelref35_decimal.mono _ _)
  | (with_reducible exact cupelref35_part.mono _ _ _ _ _ _)
  | (with_reducible exact cupelref35_way.mono _ _)
  | (with_reducible exact LeO.refl _)
  | (with_reducible exact LeO.none _)
  | (with_reducible refine LeO.ite ?_ ?_)
  | (with_reducible refine LeO.bind ?_ (fun _ => ?_))
  | exact LeO.none _
  | refine LeO.ite ?_ ?_
  | refine LeO.bind ?_ (fun _ => ?_)
theorem cupelref35_Key.mono : ∀ a0 a1 k, LeO (cupelref35_Key.f k a0 a1) (cupelref35_Key.f (k + 1) a0 a1) := by
 intro a0 a1 k
 obtain ⟨ih0, ih1, ih2, ih3⟩ := cupelref35_Key.mono_l k
 unfold cupelref35_Key.f
 repeat' first
   | (with_reducible exact ih0 _ _ _ _)
   | (with_reducible exact ih1 _ _ _ _)
   | (with_reducible exact ih2 _ _ _ _ _)
   | (with_reducible exact ih3 _ _ _ _ _ _ _ _)
   | (with_reducible exact cupelref26_Differ.mono _ _)
   | (with_reducible exact cupelref35_decimal.mono _ _)
   | (with_reducible exact cupelref35_part.mono _ _ _ _ _ _)
   | (with_reducible exact cupelref35_way.mono _ _)
   | (with_reducible exact LeO.refl _)
   | (with_reducible exact LeO.none _)
   | (with_reducible refine LeO.ite ?_ ?_)
   | (with_reducible refine LeO.bind ?_ (fun _ => ?_))
   | exact LeO.none _
   | refine LeO.ite ?_ ?_
   | refine LeO.bind ?_ (fun _ => ?_)
theorem cupelref35_Key.calls (k : Nat) (A0 : Option Addr) (c0 : Nat) (l0 : List (S45)) (a1 : Int) (r1 : ByteArray) (r2 : Int) (w : World) (hr0 : Kd.C k45 w A0 l0.length l0) (hc0 : l0.length ≤ c0) (h : cupelref35_Key.f k l0 a1 = some (r1, r2)) :
  Calls Tryd.prog 11 #[.slice A0 l0.length c0, .int .i64 a1] w fun e w' => e = .returned (.tuple #[.string r1, .int .i64 r2]) ∧ Below w.heap.size w w' := by
 have hu57 := Tryd.underlying57
 have HR0 := Aside0.mk hr0
 have HC0 := Aside0.mk hc0
 clear hr0 hc0
 have HB := Aside0.mk (Below.refl w.heap.size w)
 have H : ((cupelref26_Differ.f k l0).bind fun bt237 => (if bt237.2 = 0 then (if a1 < (-1) then (cupelref35_Key.j0 k l0 a1 bt237.1 true) else (cupelref35_Key.j0 k l0 a1 bt237.1 (decide (a1 > 9)))) else (some ((⟨#[]⟩ : ByteArray), bt237.2)))) = some (r1, r2) := h
 clear h
 obtain ⟨⟨t237, t238⟩, A3, H⟩ := bsA_ H
 try dsimp only at H
 by_cases c4 : t238 = 0
 ·rw [if_pos c4] at H
  have c4b0 : (t238 == 0) = true := beq_iff_eq.mpr c4
  have c4b1 : (t238 != 0) = false := bne_eq_false_iff_eq.mpr c4
  clear c4
  have HC5 := Aside0.mk H
  clear H
  go_enter Tryd.func11, Tryd.ntmps11
  go_upto_region 4 with (first | ((with_reducible refine gate_callee (f := 18) rfl ?_); refine goesL_ (some 17) rfl rfl Tryd.func18 (by kernel_rfl) rfl #[.slice A0 l0.length c0] rfl ts10_ ?_; (with_reducible refine (cupelref26_Differ.calls k _ _ l0 t237 t238 _ ?side1 ?side2 A3.out).mono ?_); (case side1 => exact ts36_ HR0.out); (case side2 => exact HC0.out); rintro e w6 ⟨v239, rfl, ho0, hb⟩; refine ⟨_, rfl, ?_⟩; have HO240 := Aside0.mk (Kd.R_lower ho0 (below_size (ts41_ HB.out))); replace HB := Aside0.mk (below_step (ts41_ HB.out) hb); clear hb; (try clear ho0)))
  (try simp only [Act.put, List.setIfInBounds_toArray, List.set_cons_zero, List.set_cons_succ])
  go_cut [28] (fun v28 wc => ∃ (kq : Nat) (x28_4 : Bool), v28 = .bool x28_4 ∧ Aside0 (cupelref35_Key.j0 kq l0 a1 t237 x28_4 = some (r1, r2)) ∧ Aside0 (kq ≤ k) ∧ Aside0 (Kd.R k57 57 wc w.heap.size (fun _ => True) v239 t237) ∧ Aside0 (Below w.heap.size w wc))
  case first =>
   have H := HC5.out
   clear HC5
   by_cases c7 : a1 < (-1)
   ·rw [if_pos c7] at H
    have c7b0 : decide (a1 < (-1)) = true := decide_eq_true c7
    clear c7
    (first | rw [c7b0] | (simp only [i64_w, i32_w]; rw [c7b0]) | skip)
    have H' := Aside0.mk H
    clear H
    go_wp2
    go_meet
    case rel => exact ⟨_, (true), ts40_, H', ⟨ts1_⟩, ⟨ts24_ HO240.out⟩, ⟨ts41_ HB.out⟩⟩
   rw [if_neg c7] at H
   have c7b0 : decide (a1 < (-1)) = false := decide_eq_false c7
   clear c7
   (first | rw [c7b0] | (simp only [i64_w, i32_w]; rw [c7b0]) | skip)
   have H' := Aside0.mk H
   clear H
   go_wp2
   go_meet
   case rel => exact ⟨_, (decide (a1 > 9)), ts40_, H', ⟨ts1_⟩, ⟨ts24_ HO240.out⟩, ⟨ts41_ HB.out⟩⟩
  case rest =>
   clear HC5
   try clear c1
   try clear p2
   try clear c4
   try clear c4b0
   try clear c4b1
   try clear c7
   try clear c7b0
   obtain ⟨kq, x28_4, rfl, HA, HJ4, HO_6, HB⟩ := hcut
   cases kq with
   | zero => exact absurd HA.out (by simp [cupelref35_Key.j0])
   | succ kj4 =>
    have H := HA.out
    clear HA
    simp only [cupelref35_Key.j0] at H
    by_cases c8 : x28_4 = true
    ·subst c8
     rw [if_pos rfl] at H
     simp only [Option.some.injEq, Prod.mk.injEq] at H
     obtain ⟨rfl, rfl⟩ := H
     go_wp2
     go_ret2
     exact ⟨ts33_, ts41_ HB.out⟩
    replace c8 := Bool.eq_false_iff.mpr c8
    subst c8
    rw [if_neg Bool.false_ne_true] at H
    have H' := Aside0.mk H
    clear H
    go_wp2
    go_loopg [8] kj4 (fun kq v8 w' => ∃ (x8_2 : Int), v8 = .int .i64 x8_2 ∧ Aside0 (cupelref35_Key.l0 kq l0 a1 t237 x8_2 = some (r1, r2)) ∧ Aside0 (kq ≤ kj4) ∧ Aside0 (Kd.R k57 57 w' w.heap.size (fun _ => True) v239 t237) ∧ Aside0 (Below w.heap.size w w'))
    case atStart => exact ⟨(0), ts40_, H', ⟨Nat.le_refl _⟩, ⟨ts24_ HO_6.out⟩, ⟨ts41_ HB.out⟩⟩
    case round =>
     clear H'
     try clear c1
     try clear p2
     try clear c4
     try clear c4b0
     try clear c4b1
     try clear c7
     try clear c7b0
     try clear c8
     try clear p2
     obtain ⟨x8_2, rfl, HA, HK2, HO_6, HB⟩ := hrel
     cases gk with
     | zero => exact absurd HA.out (by simp [cupelref35_Key.l0])
     | succ k2 =>
      have H := HA.out
      clear HA
      simp only [cupelref35_Key.l0] at H
      by_cases c9 : x8_2 < (l0.length : Int)
      ·rw [if_pos c9] at H
       have c9b0 : decide (x8_2 < (l0.length : Int)) = true := decide_eq_true c9
       clear c9
       by_cases c10 : 0 ≤ x8_2
       ·rw [if_pos c10] at H
        have c10b0 : decide (0 ≤ x8_2) = true := decide_eq_true c10
        clear c10
        obtain ⟨t242, A11, H⟩ := bsA_ H
        try dsimp only at H
        by_cases c12 : t242 = true
        ·subst c12
         rw [if_pos rfl] at H
         have H' := Aside0.mk H
         clear H
         have p241 : 0 ≤ (x8_2 : Int) := of_decide_eq_true ts30_
         have q241 : x8_2 < (l0.length : Int) := of_decide_eq_true ts30_
         obtain ⟨ad241, A241_1, c241_1, e241, hx241_0, hx241_1, hx241_2, hx241_3, hl241_1, hi241_1⟩ := at_T45 HR0.out x8_2 p241 q241
         cases e241
         replace hx241_0 := (HB.out.cell (World.block_lt_of_cell? w _ hx241_0)).trans hx241_0
         replace hx241_1 := (HB.out.cell (World.block_lt_of_cell? w _ hx241_1)).trans hx241_1
         replace hx241_2 := (HB.out.cell (World.block_lt_of_cell? w _ hx241_2)).trans hx241_2
         replace hx241_3 := (HB.out.cell (World.block_lt_of_cell? w _ hx241_3)).trans hx241_3
         have HR241_1 := Aside0.mk hi241_1
         have HC241_1 := Aside0.mk hl241_1
         clear hi241_1 hl241_1
         replace p241 := eq_true p241
         replace q241 := eq_true q241
         go_wp2_with (first | ((with_reducible refine gate_callee (f := 28) rfl ?_); refine goesL_ (some 40) rfl rfl Tryd.func28 (by kernel_rfl) rfl #[.string ((rd_T45 l0 x8_2).f0)] rfl ts10_ ?_; (with_reducible refine (cupelref35_way.calls k2 ((rd_T45 l0 x8_2).f0) true _ A11.out).mono ?_); rintro e w' ⟨rfl, ⟨nd, rfl⟩⟩; refine ⟨_, rfl, ?_⟩))
         go_roundg k2
         case measure => have := HJ4.out; have := HK2.out; omega
         case rel => exact ⟨(wrap64 (x8_2 + 1)), ts40_, H', ⟨by have := HJ4.out; have := HK2.out; omega⟩, ⟨ts24_ HO_6.out⟩, ⟨ts41_ HB.out⟩⟩
        replace c12 := Bool.eq_false_iff.mpr c12
        subst c12
        rw [if_neg Bool.false_ne_true] at H
        simp only [Option.some.injEq, Prod.mk.injEq] at H
        obtain ⟨rfl, rfl⟩ := H
        have p241 : 0 ≤ (x8_2 : Int) := of_decide_eq_true ts30_
        have q241 : x8_2 < (l0.length : Int) := of_decide_eq_true ts30_
        obtain ⟨ad241, A241_1, c241_1, e241, hx241_0, hx241_1, hx241_2, hx241_3, hl241_1, hi241_1⟩ := at_T45 HR0.out x8_2 p241 q241
        cases e241
        replace hx241_0 := (HB.out.cell (World.block_lt_of_cell? w _ hx241_0)).trans hx241_0
        replace hx241_1 := (HB.out.cell (World.block_lt_of_cell? w _ hx241_1)).trans hx241_1
        replace hx241_2 := (HB.out.cell (World.block_lt_of_cell? w _ hx241_2)).trans hx241_2
        replace hx241_3 := (HB.out.cell (World.block_lt_of_cell? w _ hx241_3)).trans hx241_3
        have HR241_1 := Aside0.mk hi241_1
        have HC241_1 := Aside0.mk hl241_1
        clear hi241_1 hl241_1
        replace p241 := eq_true p241
        replace q241 := eq_true q241
        go_wp2_with (first | ((with_reducible refine gate_callee (f := 28) rfl ?_); refine goesL_ (some 40) rfl rfl Tryd.func28 (by kernel_rfl) rfl #[.string ((rd_T45 l0 x8_2).f0)] rfl ts10_ ?_; (with_reducible refine (cupelref35_way.calls k2 ((rd_T45 l0 x8_2).f0) false _ A11.out).mono ?_); rintro e w' ⟨rfl, ⟨nd, rfl⟩⟩; refine ⟨_, rfl, ?_⟩))
        go_ret2
        exact ⟨ts33_, ts41_ HB.out⟩
       rw [if_neg c10] at H
       exact absurd H (by simp)
      rw [if_neg c9] at H
      have c9b0 : decide (x8_2 < (l0.length : Int)) = false := decide_eq_false c9
      clear c9
      obtain ⟨t243, A13, H⟩ := bsA_ H
      try dsimp only at H
      by_cases c14 : 5 + t243.size ≤ 9223372036854775807
      ·rw [if_pos c14] at H
       have c14b0 := eq_true c14
       have c14b1 : decide (5 + t243.size ≤ 9223372036854775807) = true := decide_eq_true c14
       try have c14b2 : (9223372036854775807 < 5 + t243.size) = False := eq_false (Nat.not_lt.2 c14)
       have H' := Aside0.mk H
       clear H
       go_wp2_with (first | ((with_reducible refine gate_callee (f := 29) rfl ?_); refine goesL_ (some 43) rfl rfl Tryd.func29 (by kernel_rfl) rfl #[.int .i64 a1] rfl ts10_ ?_; (with_reducible refine (cupelref35_decimal.calls k2 a1 t243 _ A13.out).mono ?_); rintro e w15 ⟨rfl, hb⟩; refine ⟨_, rfl, ?_⟩; replace HO_6 := Aside0.mk (Kd.R_below (ts24_ HO_6.out) hb); replace HB := Aside0.mk (below_step (ts41_ HB.out) hb); clear hb))
       go_loopg [9, 10, 11] k2 (fun kq v9 v10 v11 w' => ∃ (x9_3 : ByteArray) (x10_3 : List ByteArray) (x11_3 : Int), v9 = .string x9_3 ∧ v11 = .int .i64 x11_3 ∧ Aside0 (cupelref35_Key.l1 kq l0 t237 x9_3 x10_3 x11_3 = some (r1, r2)) ∧ Aside0 (kq ≤ k2) ∧ Aside0 (Kd.R k57 57 w' w.heap.size (fun _ => True) v239 t237) ∧ Aside0 (Kd.R Kd.string 9 w' w.heap.size (fun _ => True) v10 x10_3) ∧ Aside0 (Below w.heap.size w w'))
       case atStart => exact ⟨((⟨#[112, 97, 115, 115, 32]⟩ : ByteArray) ++ t243), (([] : List ByteArray)), (0), ts40_, ts40_, H', ⟨Nat.le_refl _⟩, ⟨ts24_ HO_6.out⟩, ⟨ts27_⟩, ⟨ts41_ HB.out⟩⟩
       case round =>
        clear H'
        try clear c1
        try clear c2
        try clear p2
        try clear q2
        try clear hx2
        try clear c4
        try clear c4b0
        try clear c4b1
        try clear p6
        try clear c7
        try clear c7b0
        try clear c8
        try clear c9
        try clear c9b0
        try clear c10
        try clear c10b0
        try clear c11
        try clear c12
        try clear c14
        try clear c14b0
        try clear c14b1
        try clear c14b2
        try clear hx241_0
        try clear hx241_1
        try clear hx241_2
        try clear hx241_3
        try clear p2
        try clear p241
        try clear q241
        obtain ⟨x9_3, x10_3, x11_3, rfl, rfl, HA, HK3, HO_6, HO_10, HB⟩ := hrel
        cases gk with
        | zero => exact absurd HA.out (by simp [cupelref35_Key.l1])
        | succ k3 =>
         have H := HA.out
         clear HA
         simp only [cupelref35_Key.l1] at H
         by_cases c16 : x11_3 < (t237.length : Int)
         ·rw [if_pos c16] at H
          have c16b0 : decide (x11_3 < (t237.length : Int)) = true := decide_eq_true c16
          clear c16
          by_cases c17 : 0 ≤ x11_3
          ·rw [if_pos c17] at H
           have c17b0 : decide (0 ≤ x11_3) = true := decide_eq_true c17
           clear c17
           obtain ⟨t245, A18, H⟩ := bsA_ H
           try dsimp only at H
           have H' := Aside0.mk H
           clear H
           obtain ⟨Ao19, co19, eo19⟩ := Kd.R_slice HO_6.out
           subst eo19
           have p244 : 0 ≤ (x11_3 : Int) := of_decide_eq_true ts30_
           have q244 : x11_3 < (t237.length : Int) := of_decide_eq_true ts30_
           obtain ⟨ad244, e244, hx244_0, hx244_1, hx244_2, hx244_3⟩ := at_T57 (Kd.R_reads' HO_6.out).2.2 x11_3 p244 q244
           cases e244
           replace p244 := eq_true p244
           replace q244 := eq_true q244
           go_wp2_with (first | ((with_reducible refine gate_callee (f := 30) rfl ?_); refine goesL_ (some 56) rfl rfl Tryd.func30 (by kernel_rfl) rfl #[.slice A0 l0.length c0, .agg #[.int .i64 ((rd_T57 t237 x11_3).f0), .int .i64 ((rd_T57 t237 x11_3).f1), .int .i64 ((rd_T57 t237 x11_3).f2), .int .i64 ((rd_T57 t237 x11_3).f3)]] rfl ts10_ ?_; (with_reducible refine (cupelref35_part.calls k3 _ _ l0 ((rd_T57 t237 x11_3).f0) ((rd_T57 t237 x11_3).f1) ((rd_T57 t237 x11_3).f2) ((rd_T57 t237 x11_3).f3) t245 _ ?side1 ?side2 A18.out).mono ?_); (case side1 => exact ts43_ HR0.out HB.out); (case side2 => exact HC0.out); rintro e w20 ⟨rfl, hb⟩; refine ⟨_, rfl, ?_⟩; replace HO_6 := Aside0.mk (Kd.R_below (ts24_ HO_6.out) hb); replace HO_10 := Aside0.mk (Kd.R_below (ts24_ HO_10.out) hb); replace HB := Aside0.mk (below_step (ts41_ HB.out) hb); clear hb))
           go_loopg [13, 14] k3 (fun kq v13 v14 w' => ∃ (x13_4 : Bool) (x14_4 : Int), v13 = .bool x13_4 ∧ v14 = .int .i64 x14_4 ∧ Aside0 (cupelref35_Key.l2 kq l0 t237 x9_3 x10_3 x11_3 t245 x13_4 x14_4 = some (r1, r2)) ∧ Aside0 (kq ≤ k3) ∧ Aside0 (Kd.R k57 57 w' w.heap.size (fun _ => True) (.slice (some ad244) t237.length co19) t237) ∧ Aside0 (Kd.R Kd.string 9 w' w.heap.size (fun _ => True) u10 x10_3) ∧ Aside0 (Below w.heap.size w w'))
           case atStart => exact ⟨(false), (0), ts40_, ts40_, H', ⟨Nat.le_refl _⟩, ⟨ts24_ HO_6.out⟩, ⟨ts24_ HO_10.out⟩, ⟨ts41_ HB.out⟩⟩
           case round =>
            clear H'
            try clear c1
            try clear c2
            try clear p2
            try clear q2
            try clear hx2
            try clear c3
            try clear c4
            try clear c4b0
            try clear c4b1
            try clear p6
            try clear c7
            try clear c7b0
            try clear c8
            try clear c9
            try clear c9b0
            try clear c10
            try clear c10b0
            try clear c11
            try clear c12
            try clear c14
            try clear c14b0
            try clear c14b1
            try clear c14b2
            try clear c16
            try clear c16b0
            try clear c17
            try clear c17b0
            try clear c18
            try clear hx241_0
            try clear hx241_1
            try clear hx241_2
            try clear hx241_3
            try clear hx244_0
            try clear hx244_1
            try clear hx244_2
            try clear hx244_3
            try clear p2
            try clear p241
            try clear p244
            try clear p6
            try clear q2
            try clear q241
            try clear q244
            obtain ⟨x13_4, x14_4, rfl, rfl, HA, HK4, HO_6, HO_10, HB⟩ := hrel
            cases gk with
            | zero => exact absurd HA.out (by simp [cupelref35_Key.l2])
            | succ k4 =>
             have H := HA.out
             clear HA
             simp only [cupelref35_Key.l2] at H
             by_cases c21 : x14_4 < (x10_3.length : Int)
             ·rw [if_pos c21] at H
              have c21b0 : decide (x14_4 < (x10_3.length : Int)) = true := decide_eq_true c21
              clear c21
              by_cases c22 : x13_4 = true
              ·subst c22
               rw [if_pos rfl] at H
               have H' := Aside0.mk H
               clear H
               obtain ⟨Ao23, co23, eo23⟩ := Kd.R_slice HO_10.out
               subst eo23
               go_wp2
               go_roundg k4
               case measure => have := HJ4.out; have := HK2.out; have := HK3.out; have := HK4.out; omega
               case rel => exact ⟨(true), (wrap64 (x14_4 + 1)), ts40_, ts40_, H', ⟨by have := HJ4.out; have := HK2.out; have := HK3.out; have := HK4.out; omega⟩, ⟨ts24_ HO_6.out⟩, ⟨ts24_ HO_10.out⟩, ⟨ts41_ HB.out⟩⟩
              replace c22 := Bool.eq_false_iff.mpr c22
              subst c22
              rw [if_neg Bool.false_ne_true] at H
              by_cases c24 : 0 ≤ x14_4
              ·rw [if_pos c24] at H
               have c24b0 : decide (0 ≤ x14_4) = true := decide_eq_true c24
               clear c24
               have H' := Aside0.mk H
               clear H
               obtain ⟨Ao25, co25, eo25⟩ := Kd.R_slice HO_10.out
               subst eo25
               have p246 : 0 ≤ (x14_4 : Int) := of_decide_eq_true ts30_
               have q246 : x14_4 < (x10_3.length : Int) := of_decide_eq_true ts30_
               obtain ⟨ad246, e246, hx246_0⟩ := Kd.at_string (Kd.R_reads' HO_10.out).2.2 x14_4 p246 q246
               cases e246
               replace p246 := eq_true p246
               replace q246 := eq_true q246
               go_wp2
               go_roundg k4
               case measure => have := HJ4.out; have := HK2.out; have := HK3.out; have := HK4.out; omega
               case rel => exact ⟨(((rdOf ByteArray.empty x10_3 x14_4).toList == t245.toList)), (wrap64 (x14_4 + 1)), ts40_, ts40_, H', ⟨by have := HJ4.out; have := HK2.out; have := HK3.out; have := HK4.out; omega⟩, ⟨ts24_ HO_6.out⟩, ⟨ts24_ HO_10.out⟩, ⟨ts41_ HB.out⟩⟩
              rw [if_neg c24] at H
              exact absurd H (by simp)
             rw [if_neg c21] at H
             have c21b0 : decide (x14_4 < (x10_3.length : Int)) = false := decide_eq_false c21
             clear c21
             by_cases c26 : x13_4 = true
             ·subst c26
              rw [if_pos rfl] at H
              have H' := Aside0.mk H
              clear H
              obtain ⟨Ao27, co27, eo27⟩ := Kd.R_slice HO_10.out
              subst eo27
              go_wp2
              go_roundg k4
              case measure => have := HJ4.out; have := HK2.out; have := HK3.out; have := HK4.out; omega
              case rel => exact ⟨(x9_3), (x10_3), (wrap64 (x11_3 + 1)), ts40_, ts40_, H', ⟨by have := HJ4.out; have := HK2.out; have := HK3.out; have := HK4.out; omega⟩, ⟨ts24_ HO_6.out⟩, ⟨ts24_ HO_10.out⟩, ⟨ts41_ HB.out⟩⟩
             replace c26 := Bool.eq_false_iff.mpr c26
             subst c26
             rw [if_neg Bool.false_ne_true] at H
             by_cases c28 : x10_3.length < 8796093022208
             ·rw [if_pos c28] at H
              have LMc28 := Aside0.mk c28
              clear c28
              obtain ⟨y247, hy247⟩ : ∃ y_ : List ByteArray, y_ = (x10_3 ++ [t245]) := ⟨_, rfl⟩
              replace H : (if x9_3.size + 2 ≤ 9223372036854775807 then (if (x9_3 ++ (⟨#[59, 32]⟩ : ByteArray)).size + t245.size ≤ 9223372036854775807 then (cupelref35_Key.l1 k4 l0 t237 ((x9_3 ++ (⟨#[59, 32]⟩ : ByteArray)) ++ t245) y247 (wrap64 (x11_3 + 1))) else (none)) else (none)) = some (r1, r2) := by first | (rw [hy247]; with_reducible exact H) | (have H2_ := (Option.bind_some _ _).symm.trans H; rw [hy247]; with_reducible exact H2_) | (have H2_ := (Option.bind_some _ _).symm.trans H; with_reducible exact H2_) | with_reducible exact H | (rw [hy247]; exact H) | exact H
              have Ny247 := Aside0.mk hy247
              clear hy247
              by_cases c29 : x9_3.size + 2 ≤ 9223372036854775807
              ·rw [if_pos c29] at H
               have c29b0 := eq_true c29
               have c29b1 : decide (x9_3.size + 2 ≤ 9223372036854775807) = true := decide_eq_true c29
               try have c29b2 : (9223372036854775807 < x9_3.size + 2) = False := eq_false (Nat.not_lt.2 c29)
               by_cases c30 : (x9_3 ++ (⟨#[59, 32]⟩ : ByteArray)).size + t245.size ≤ 9223372036854775807
               ·rw [if_pos c30] at H
                have c30b0 := eq_true c30
                have c30b1 : decide ((x9_3 ++ (⟨#[59, 32]⟩ : ByteArray)).size + t245.size ≤ 9223372036854775807) = true := decide_eq_true c30
                try have c30b2 : (9223372036854775807 < (x9_3 ++ (⟨#[59, 32]⟩ : ByteArray)).size + t245.size) = False := eq_false (Nat.not_lt.2 c30)
                have H' := Aside0.mk H
                clear H
                obtain ⟨Ao31, co31, eo31⟩ := Kd.R_slice HO_10.out
                subst eo31
                go_wp2_with (first | ((with_reducible refine gate_builtin (b := .append) (xs := #[.tmp 74, .tmp 76]) rfl ?_); at_builtin; refine Kd.R_append Kd.string (w0 := w) w.heap.size rfl (.tmp 74) (.tmp 76) 29 9 (.string ⟨#[]⟩) 16 rfl Tryd.underlying29 info9 rfl (by decide) (by omega) (.slice Ao31 x10_3.length co31) x10_3 t245 [.string t245] (fun _ => True) (fun _ => False) rfl rfl ?aP (fun _ hk => hk.elim) ?aF ?aO ?aB ?aS ?aL ?_; (case aP => exact rfl); (case aB => exact (ts41_ HB.out)); (case aF => exact (fun _ _ => trivial)); (case aO => exact (ts24_ HO_10.out)); (case aS => exact (below_size (ts41_ HB.out))); (case aL => have := LMc28.out; omega); intro v248 w32 ho hb hg hat; rw [← Ny247.out] at ho; replace HO_6 := Aside0.mk (Kd.R_over' (ts24_ HO_6.out) (Kd.R_typed (ts24_ HO_10.out)) (by decide) hg); replace HB := Aside0.mk (hb); have HO249 := Aside0.mk (ho); clear HO_10; clear ho hb hg hat))
                go_roundg k4
                case measure => have := HJ4.out; have := HK2.out; have := HK3.out; have := HK4.out; omega
                case rel => exact ⟨((x9_3 ++ (⟨#[59, 32]⟩ : ByteArray)) ++ t245), (y247), (wrap64 (x11_3 + 1)), ts40_, ts40_, H', ⟨by have := HJ4.out; have := HK2.out; have := HK3.out; have := HK4.out; omega⟩, ⟨ts24_ HO_6.out⟩, ⟨ts24_ HO249.out⟩, ⟨ts41_ HB.out⟩⟩
               rw [if_neg c30] at H
               exact absurd H (by simp)
              rw [if_neg c29] at H
              exact absurd H (by simp)
             rw [if_neg c28] at H
             exact absurd H (by simp)
          rw [if_neg c17] at H
          exact absurd H (by simp)
         rw [if_neg c16] at H
         have c16b0 : decide (x11_3 < (t237.length : Int)) = false := decide_eq_false c16
         clear c16
         simp only [Option.some.injEq, Prod.mk.injEq] at H
         obtain ⟨rfl, rfl⟩ := H
         obtain ⟨Ao33, co33, eo33⟩ := Kd.R_slice HO_6.out
         subst eo33
         go_wp2
         go_ret2
         exact ⟨ts33_, ts41_ HB.out⟩
      rw [if_neg c14] at H
      exact absurd H (by simp)
 rw [if_neg c4] at H
 have c4b0 : (t238 == 0) = false := beq_eq_false_iff_ne.mpr c4
 have c4b1 : (t238 != 0) = true := bne_iff_ne.mpr c4
 simp only [Option.some.injEq, Prod.mk.injEq] at H
 obtain ⟨rfl, rfl⟩ := H
 go_enter Tryd.func11, Tryd.ntmps11
 go_wp2_with (first | ((with_reducible refine gate_callee (f := 18) rfl ?_); refine goesL_ (some 17) rfl rfl Tryd.func18 (by kernel_rfl) rfl #[.slice A0 l0.length c0] rfl ts10_ ?_; (with_reducible refine (cupelref26_Differ.calls k _ _ l0 t237 t238 _ ?side1 ?side2 A3.out).mono ?_); (case side1 => exact ts36_ HR0.out); (case side2 => exact HC0.out); rintro e w34 ⟨v239, rfl, ho0, hb⟩; refine ⟨_, rfl, ?_⟩; have HO240 := Aside0.mk (Kd.R_lower ho0 (below_size (ts41_ HB.out))); replace HB := Aside0.mk (below_step (ts41_ HB.out) hb); clear hb; (try clear ho0)))
 go_ret2
 exact ⟨ts33_, ts41_ HB.out⟩
-- NOT PRINTED: function 3 (cupellaw35_GroupsKeys)
end Go.Proofs.YtndennmpnomjnaaDoor.A
