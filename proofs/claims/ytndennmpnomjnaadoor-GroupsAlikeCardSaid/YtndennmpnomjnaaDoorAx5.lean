/- Written by wip/tools/xprint.py, a program of this session that drives the kit's printer. Not trusted: Lean checks it. -/
import Derived.Test.YtndennmpnomjnaaDoorAx0
import Derived.Test.YtndennmpnomjnaaDoorAx3
import Derived.Test.YtndennmpnomjnaaDoorAx4
set_option linter.all false
set_option maxHeartbeats 8000000
set_option maxRecDepth 100000
namespace Go.Proofs.YtndennmpnomjnaaDoor.A
open Go.RowKit Go.Proofs.YtndennmpnomjnaaDoorW.PrintWords Go.Proofs.YtndennmpnomjnaaDoorW.PrintLast Go.Proofs.YtndennmpnomjnaaDoorW.PrintMore
attribute [local go_sem] max2_int min2_int max_two min_two max_three min_three max_four min_four   -- for this text's walks alone
set_option linter.unusedVariables false
set_option linter.unusedSimpArgs false
/-! ### cupelref26_Differ: function 18 -/
mutual
def cupelref26_Differ.l0 : Nat → List (S45) → List (S57) → Int → Option ((List (S57)) × Int)
 | 0, _, _, _ => none
 | k + 1, x0, x4, x5 => if x5 < (x0.length : Int) then (cupelref26_Differ.l1 k x0 x4 x5 (wrap64 (x5 + 1))) else (some (x4, 0))
def cupelref26_Differ.l1 : Nat → List (S45) → List (S57) → Int → Int → Option ((List (S57)) × Int)
 | 0, _, _, _, _ => none
 | k + 1, x0, x4, x5, x6 => if x6 < (x0.length : Int) then (if 0 ≤ x5 then (if x5 < (x0.length : Int) then (if 0 ≤ x6 then (if ((rd_T45 x0 x5).f1.f1) = 3 then (cupelref26_Differ.l1 k x0 x4 x5 (wrap64 (x6 + 1))) else (if ((rd_T45 x0 x6).f1.f1) = 3 then (cupelref26_Differ.l1 k x0 x4 x5 (wrap64 (x6 + 1))) else ((cupelref10_Agree.f k ((rd_T45 x0 x5).f1.f0) ((rd_T45 x0 x5).f1.f1) ((rd_T45 x0 x5).f1.f2) ((rd_T45 x0 x6).f1.f0) ((rd_T45 x0 x6).f1.f1) ((rd_T45 x0 x6).f1.f2)).bind fun t211 => (if t211 = true then (cupelref26_Differ.l1 k x0 x4 x5 (wrap64 (x6 + 1))) else ((cupelref26_differ.f k ((rd_T45 x0 x5).f1.f0) ((rd_T45 x0 x5).f1.f1) ((rd_T45 x0 x5).f1.f2) ((rd_T45 x0 x6).f1.f0) ((rd_T45 x0 x6).f1.f1) ((rd_T45 x0 x6).f1.f2)).bind fun bt212 => (if x4.length < 4398046511104 then (cupelref26_Differ.l1 k x0 (x4 ++ [(⟨x5, x6, bt212.1, bt212.2⟩ : S57)]) x5 (wrap64 (x6 + 1))) else (none))))))) else (none)) else (none)) else (none)) else (cupelref26_Differ.l0 k x0 x4 (wrap64 (x5 + 1)))
end
def cupelref26_Differ.f (k : Nat) (l0 : List (S45)) : Option ((List (S57)) × Int) := if (l0.length : Int) > 100 then (some (([] : List (S57)), 3)) else (cupelref26_Differ.l0 k l0 ([] : List (S57)) 0)
theorem cupelref26_Differ.mono_l : ∀ k, (∀ y0 y1 y2, LeO (cupelref26_Differ.l0 k y0 y1 y2) (cupelref26_Differ.l0 (k + 1) y0 y1 y2)) ∧ (∀ y0 y1 y2 y3, LeO (cupelref26_Differ.l1 k y0 y1 y2 y3) (cupelref26_Differ.l1 (k + 1) y0 y1 y2 y3))
 | 0 => ⟨fun _ _ _ r h => by simp [cupelref26_Differ.l0] at h, fun _ _ _ _ r h => by simp [cupelref26_Differ.l1] at h⟩
 | k + 1 => by
  obtain ⟨ih0, ih1⟩ := cupelref26_Differ.mono_l k
  refine ⟨?_, ?_⟩
  ·intro y0 y1 y2
   unfold cupelref26_Differ.l0
   repeat' first
   | (with_reducible exact ih0 _ _ _)
   | (with_reducible exact ih1 _ _ _ _)
   | (with_reducible exact cupelref10_Agree.mono _ _ _ _ _ _ _)
   | (with_reducible exact cupelref26_differ.mono _ _ _ _ _ _ _)
   | (with_reducible exact LeO.refl _)
   | (with_reducible exact LeO.none _)
   | (with_reducible refine LeO.ite ?_ ?_)
   | (with_reducible refine LeO.bind ?_ (fun _ => ?_))
   | exact LeO.none _
   | refine LeO.ite ?_ ?_
   | refine LeO.bind ?_ (fun _ => ?_)
  intro y0 y1 y2 y3
  unfold cupelref26_Differ.l1
  repeat' first
  | (with_reducible exact ih0 _ _ _)
  | (with_reducible exact ih1 _ _ _ _)
  | (with_reducible exact cupelref10_Agree.mono _ _ _ _ _ _ _)
  | (with_reducible exact cupelref26_differ.mono _ _ _ _ _ _ _)
  | (with_reducible exact LeO.refl _)
  | (with_reducible exact LeO.none _)
  | (with_reducible refine LeO.ite ?_ ?_)
  | (with_reducible refine LeO.bind ?_ (fun _ => ?_))
  | exact LeO.none _
  | refine LeO.ite ?_ ?_
  | refine LeO.bind ?_ (fun _ => ?_)
theorem cupelref26_Differ.mono : ∀ a0 k, LeO (cupelref26_Differ.f k a0) (cupelref26_Differ.f (k + 1) a0) := by
 intro a0 k
 obtain ⟨ih0, ih1⟩ := cupelref26_Differ.mono_l k
 unfold cupelref26_Differ.f
 repeat' first
   | (with_reducible exact ih0 _ _ _)
   | (with_reducible exact ih1 _ _ _ _)
   | (with_reducible exact cupelref10_Agree.mono _ _ _ _ _ _ _)
   | (with_reducible exact cupelref26_differ.mono _ _ _ _ _ _ _)
   | (with_reducible exact LeO.refl _)
   | (with_reducible exact LeO.none _)
   | (with_reducible refine LeO.ite ?_ ?_)
   | (with_reducible refine LeO.bind ?_ (fun _ => ?_))
   | exact LeO.none _
   | refine LeO.ite ?_ ?_
   | refine LeO.bind ?_ (fun _ => ?_)
def cupelref26_Differ.T10 : Bool × List (List Nat × List Nat) := (true, [([], []), ([], []), ([0, 1], [0, 1]), ([2], [2]), ([3], [3]), ([], []), ([], []), ([5, 6], [5, 6]), ([7], [7]), ([8], [8]), ([], []), ([], []), ([10, 4, 0, 1, 2, 3, 4, 10, 11], [4, 10]), ([11, 9, 12, 0, 1, 2, 3, 4, 5, 6, 7, 8, 9, 10, 11, 12], [9, 11])])
def cupelref26_Differ.B10 : List Nat := [0, 0, 3, 7, 15, 0, 0, 96, 224, 480, 0, 0, 3103, 8191]
theorem cupelref26_Differ.tab10 : rtab .any (opsOf Tryd.f18 10) = cupelref26_Differ.T10 := by kernel_rfl
theorem cupelref26_Differ.bits10 : waitsOk cupelref26_Differ.T10.2 cupelref26_Differ.B10 = true := by kernel_rfl
theorem cupelref26_Differ.calls (k : Nat) (A0 : Option Addr) (c0 : Nat) (l0 : List (S45)) (r1 : List (S57)) (r2 : Int) (w : World) (hr0 : Kd.C k45 w A0 l0.length l0) (hc0 : l0.length ≤ c0) (h : cupelref26_Differ.f k l0 = some (r1, r2)) :
  Calls Tryd.prog 18 #[.slice A0 l0.length c0] w fun e w' => ∃ v0_ : Value, e = .returned (.tuple #[v0_, .int .i64 r2]) ∧ Kd.R k57 57 w' w.heap.size (fun _ => True) v0_ r1 ∧ Below w.heap.size w w' := by
 have hu43 := Tryd.underlying43
 have hu57 := Tryd.underlying57
 have HR0 := Aside0.mk hr0
 have HC0 := Aside0.mk hc0
 clear hr0 hc0
 have HB := Aside0.mk (Below.refl w.heap.size w)
 have H : (if (l0.length : Int) > 100 then (some (([] : List (S57)), 3)) else (cupelref26_Differ.l0 k l0 ([] : List (S57)) 0)) = some (r1, r2) := h
 clear h
 by_cases c2 : (l0.length : Int) > 100
 ·rw [if_pos c2] at H
  have c2b0 : decide (100 < (l0.length : Int)) = true := decide_eq_true c2
  have c2b1 : decide (100 < l0.length) = true := decide_eq_true (by omega)
  clear c2
  simp only [Option.some.injEq, Prod.mk.injEq] at H
  obtain ⟨rfl, rfl⟩ := H
  go_enter Tryd.func18, Tryd.ntmps18
  go_wp2
  go_ret2
  exact ⟨_, ts30_, ts36_, ts35_ HB.out⟩
 rw [if_neg c2] at H
 have c2b0 : decide (100 < (l0.length : Int)) = false := decide_eq_false c2
 have c2b1 : decide (100 < l0.length) = false := decide_eq_false (by omega)
 clear c2
 have H' := Aside0.mk H
 clear H
 go_enter Tryd.func18, Tryd.ntmps18
 go_wp2
 go_loopg [4, 5] k (fun kq v4 v5 w' => ∃ (x4_1 : List (S57)) (x5_1 : Int), v5 = .int .i64 x5_1 ∧ Aside0 (cupelref26_Differ.l0 kq l0 x4_1 x5_1 = some (r1, r2)) ∧ Aside0 (kq ≤ k) ∧ Aside0 (Kd.R k57 57 w' w.heap.size (fun _ => True) v4 x4_1) ∧ Aside0 (Below w.heap.size w w'))
 case atStart => exact ⟨(([] : List (S57))), (0), ts34_, H', ⟨Nat.le_refl _⟩, ⟨ts36_⟩, ⟨ts35_ HB.out⟩⟩
 case round =>
  clear H'
  try clear c1
  try clear c2
  try clear c2b0
  try clear c2b1
  try clear p2
  obtain ⟨x4_1, x5_1, rfl, HA, HK1, HO_4, HB⟩ := hrel
  cases gk with
  | zero => exact absurd HA.out (by simp [cupelref26_Differ.l0])
  | succ k1 =>
   have H := HA.out
   clear HA
   simp only [cupelref26_Differ.l0] at H
   by_cases c3 : x5_1 < (l0.length : Int)
   ·rw [if_pos c3] at H
    have c3b0 : decide (x5_1 < (l0.length : Int)) = true := decide_eq_true c3
    clear c3
    have H' := Aside0.mk H
    clear H
    go_wp2
    go_loopg [4, 6] k1 (fun kq v4 v6 w' => ∃ (x4_2 : List (S57)) (x6_2 : Int), v6 = .int .i64 x6_2 ∧ Aside0 (cupelref26_Differ.l1 kq l0 x4_2 x5_1 x6_2 = some (r1, r2)) ∧ Aside0 (kq ≤ k1) ∧ Aside0 (Kd.R k57 57 w' w.heap.size (fun _ => True) v4 x4_2) ∧ Aside0 (Below w.heap.size w w'))
    case atStart => exact ⟨(x4_1), (wrap64 (x5_1 + 1)), ts34_, H', ⟨Nat.le_refl _⟩, ⟨ts22_ HO_4.out⟩, ⟨ts35_ HB.out⟩⟩
    case round =>
     clear H'
     try clear c1
     try clear c2
     try clear c2b0
     try clear c2b1
     try clear p2
     try clear c3
     try clear c3b0
     try clear p2
     obtain ⟨x4_2, x6_2, rfl, HA, HK2, HO_4, HB⟩ := hrel
     cases gk with
     | zero => exact absurd HA.out (by simp [cupelref26_Differ.l1])
     | succ k2 =>
      have H := HA.out
      clear HA
      simp only [cupelref26_Differ.l1] at H
      by_cases c4 : x6_2 < (l0.length : Int)
      ·rw [if_pos c4] at H
       have c4b0 : decide (x6_2 < (l0.length : Int)) = true := decide_eq_true c4
       clear c4
       by_cases c5 : 0 ≤ x5_1
       ·rw [if_pos c5] at H
        have c5b0 : decide (0 ≤ x5_1) = true := decide_eq_true c5
        clear c5
        by_cases c6 : x5_1 < (l0.length : Int)
        ·rw [if_pos c6] at H
         have c6b0 : decide (x5_1 < (l0.length : Int)) = true := decide_eq_true c6
         clear c6
         by_cases c7 : 0 ≤ x6_2
         ·rw [if_pos c7] at H
          have c7b0 : decide (0 ≤ x6_2) = true := decide_eq_true c7
          clear c7
          by_cases c8 : ((rd_T45 l0 x5_1).f1.f1) = 3
          ·rw [if_pos c8] at H
           have c8b0 : (((rd_T45 l0 x5_1).f1.f1) == 3) = true := beq_iff_eq.mpr c8
           have c8b1 : (((rd_T45 l0 x5_1).f1.f1) != 3) = false := bne_eq_false_iff_eq.mpr c8
           clear c8
           have H' := Aside0.mk H
           clear H
           try go_wp2
           have n0_ := Aside0.mk (Kd.R_drew HO_4.out)
           have n1_ := Aside0.mk (below_drew1 HB.out)
           clear HO_4
           clear HB
           have HO_4 := n0_
           have HB := n1_
           clear n0_ n1_
           have p207 : 0 ≤ (x5_1 : Int) := of_decide_eq_true ts26_
           have q207 : x5_1 < (l0.length : Int) := of_decide_eq_true ts26_
           obtain ⟨ad207, A207_1, c207_1, e207, hx207_0, hx207_1, hx207_2, hx207_3, hl207_1, hi207_1⟩ := at_T45 HR0.out x5_1 p207 q207
           have hw207_3 := hx207_3
           have hw207_2 := hx207_2
           have hw207_1 := hx207_1
           have hw207_0 := hx207_0
           cases e207
           replace hx207_0 := (HB.out.cell (World.block_lt_of_cell? w _ hx207_0)).trans hx207_0
           replace hx207_1 := (HB.out.cell (World.block_lt_of_cell? w _ hx207_1)).trans hx207_1
           replace hx207_2 := (HB.out.cell (World.block_lt_of_cell? w _ hx207_2)).trans hx207_2
           replace hx207_3 := (HB.out.cell (World.block_lt_of_cell? w _ hx207_3)).trans hx207_3
           have HR207_1 := Aside0.mk hi207_1
           have HC207_1 := Aside0.mk hl207_1
           clear hi207_1 hl207_1
           replace p207 := eq_true p207
           replace q207 := eq_true q207
           have p208 : 0 ≤ (x6_2 : Int) := of_decide_eq_true ts26_
           have q208 : x6_2 < (l0.length : Int) := of_decide_eq_true ts26_
           obtain ⟨ad208, A208_1, c208_1, e208, hx208_0, hx208_1, hx208_2, hx208_3, hl208_1, hi208_1⟩ := at_T45 HR0.out x6_2 p208 q208
           have hw208_3 := hx208_3
           have hw208_2 := hx208_2
           have hw208_1 := hx208_1
           have hw208_0 := hx208_0
           obtain rfl : ad207 = ad208 := (by injection e208)
           replace hx208_0 := (HB.out.cell (World.block_lt_of_cell? w _ hx208_0)).trans hx208_0
           replace hx208_1 := (HB.out.cell (World.block_lt_of_cell? w _ hx208_1)).trans hx208_1
           replace hx208_2 := (HB.out.cell (World.block_lt_of_cell? w _ hx208_2)).trans hx208_2
           replace hx208_3 := (HB.out.cell (World.block_lt_of_cell? w _ hx208_3)).trans hx208_3
           have HR208_1 := Aside0.mk hi208_1
           have HC208_1 := Aside0.mk hl208_1
           clear hi208_1 hl208_1
           replace p208 := eq_true p208
           replace q208 := eq_true q208
           refine start_ (n := 14) (S := fun w' => w'.cell? (ad207.add ((x5_1).toNat * 4)) = some (.string ((rd_T45 l0 x5_1).f0)) ∧ w'.cell? ⟨(ad207.add ((x5_1).toNat * 4)).block, (ad207.add ((x5_1).toNat * 4)).off + 1, none⟩ = some (.slice A207_1 ((rd_T45 l0 x5_1).f1.f0).length c207_1) ∧ w'.cell? ⟨(ad207.add ((x5_1).toNat * 4)).block, (ad207.add ((x5_1).toNat * 4)).off + 2, none⟩ = some (.int .i64 ((rd_T45 l0 x5_1).f1.f1)) ∧ w'.cell? ⟨(ad207.add ((x5_1).toNat * 4)).block, (ad207.add ((x5_1).toNat * 4)).off + 3, none⟩ = some (.int .i64 ((rd_T45 l0 x5_1).f1.f2)) ∧ w'.cell? (ad207.add ((x6_2).toNat * 4)) = some (.string ((rd_T45 l0 x6_2).f0)) ∧ w'.cell? ⟨(ad207.add ((x6_2).toNat * 4)).block, (ad207.add ((x6_2).toNat * 4)).off + 1, none⟩ = some (.slice A208_1 ((rd_T45 l0 x6_2).f1.f0).length c208_1) ∧ w'.cell? ⟨(ad207.add ((x6_2).toNat * 4)).block, (ad207.add ((x6_2).toNat * 4)).off + 2, none⟩ = some (.int .i64 ((rd_T45 l0 x6_2).f1.f1)) ∧ w'.cell? ⟨(ad207.add ((x6_2).toNat * 4)).block, (ad207.add ((x6_2).toNat * 4)).off + 3, none⟩ = some (.int .i64 ((rd_T45 l0 x6_2).f1.f2))) (ds := []) #[false, false, false, false, false, false, false, false, false, false, false, false, false, false] (by kernel_rfl) rfl rfl ⟨((HB.out.cell (World.block_lt_of_cell? w _ hw207_0)).trans hw207_0), ((HB.out.cell (World.block_lt_of_cell? w _ hw207_1)).trans hw207_1), ((HB.out.cell (World.block_lt_of_cell? w _ hw207_2)).trans hw207_2), ((HB.out.cell (World.block_lt_of_cell? w _ hw207_3)).trans hw207_3), ((HB.out.cell (World.block_lt_of_cell? w _ hw208_0)).trans hw208_0), ((HB.out.cell (World.block_lt_of_cell? w _ hw208_1)).trans hw208_1), ((HB.out.cell (World.block_lt_of_cell? w _ hw208_2)).trans hw208_2), ((HB.out.cell (World.block_lt_of_cell? w _ hw208_3)).trans hw208_3)⟩ (fun hHeld => ?_); refine with_tabW cupelref26_Differ.tab10 cupelref26_Differ.bits10 (fun HT_ HW_ => ?_)
           generalize wr.drew = w9 at HO_4 HB HR207_1 HR208_1 hx207_0 hx207_1 hx207_2 hx207_3 hx208_0 hx208_1 hx208_2 hx208_3 hHeld ⊢
           refine pure_ (i := 0) (N := some 28) (v := ?_) (a' := ?_) #[true, false, false, false, false, false, false, false, false, false, false, false, false, false] rfl rfl (any_of HT_.out (by kernel_rfl)) (fun _ _ _ h => h) (Or.inl ⟨by rfl, ?_⟩) ?_ ?_
           rotate_left
           ·intro w'
            go_simp
            with_reducible rfl
           rotate_left
           ·simp only [Act.put, List.setIfInBounds_toArray, List.set_cons_zero, List.set_cons_succ, i64_w, i32_w]
            rfl
           refine pure_ (i := 1) (N := some 29) (v := ?_) (a' := ?_) #[true, true, false, false, false, false, false, false, false, false, false, false, false, false] rfl rfl (any_of HT_.out (by kernel_rfl)) (fun _ _ _ h => h) (Or.inl ⟨by rfl, ?_⟩) ?_ ?_
           rotate_left
           ·intro w'
            go_simp
            with_reducible rfl
           rotate_left
           ·simp only [Act.put, List.setIfInBounds_toArray, List.set_cons_zero, List.set_cons_succ, i64_w, i32_w]
            rfl
           refine pure_ (i := 2) (N := some 30) (v := ?_) (a' := ?_) #[true, true, true, false, false, false, false, false, false, false, false, false, false, false] rfl rfl (any_of HT_.out (by kernel_rfl)) (fun _ _ _ h => h) (Or.inl ⟨by rfl, ?_⟩) ?_ ?_
           rotate_left
           ·intro w'
            go_simp
            with_reducible rfl
           rotate_left
           ·simp only [Act.put, List.setIfInBounds_toArray, List.set_cons_zero, List.set_cons_succ, i64_w, i32_w]
            rfl
           refine pure_ (i := 3) (N := some 31) (v := ?_) (a' := ?_) #[true, true, true, true, false, false, false, false, false, false, false, false, false, false] rfl rfl (any_of HT_.out (by kernel_rfl)) (fun _ _ _ h => h) (Or.inl ⟨by rfl, ?_⟩) ?_ ?_
           rotate_left
           ·intro w'
            go_simp
            with_reducible rfl
           rotate_left
           ·simp only [Act.put, List.setIfInBounds_toArray, List.set_cons_zero, List.set_cons_succ, i64_w, i32_w]
            rfl
           refine pure_ (i := 5) (N := some 33) (v := ?_) (a' := ?_) #[true, true, true, true, false, true, false, false, false, false, false, false, false, false] rfl rfl (any_of HT_.out (by kernel_rfl)) (fun _ _ _ h => h) (Or.inl ⟨by rfl, ?_⟩) ?_ ?_
           rotate_left
           ·intro w'
            go_simp
            with_reducible rfl
           rotate_left
           ·simp only [Act.put, List.setIfInBounds_toArray, List.set_cons_zero, List.set_cons_succ, i64_w, i32_w]
            rfl
           refine pure_ (i := 6) (N := some 34) (v := ?_) (a' := ?_) #[true, true, true, true, false, true, true, false, false, false, false, false, false, false] rfl rfl (any_of HT_.out (by kernel_rfl)) (fun _ _ _ h => h) (Or.inl ⟨by rfl, ?_⟩) ?_ ?_
           rotate_left
           ·intro w'
            go_simp
            with_reducible rfl
           rotate_left
           ·simp only [Act.put, List.setIfInBounds_toArray, List.set_cons_zero, List.set_cons_succ, i64_w, i32_w]
            rfl
           refine pure_ (i := 7) (N := some 35) (v := ?_) (a' := ?_) #[true, true, true, true, false, true, true, true, false, false, false, false, false, false] rfl rfl (any_of HT_.out (by kernel_rfl)) (fun _ _ _ h => h) (Or.inl ⟨by rfl, ?_⟩) ?_ ?_
           rotate_left
           ·intro w'
            go_simp
            with_reducible rfl
           rotate_left
           ·simp only [Act.put, List.setIfInBounds_toArray, List.set_cons_zero, List.set_cons_succ, i64_w, i32_w]
            rfl
           refine pure_ (i := 8) (N := some 36) (v := ?_) (a' := ?_) #[true, true, true, true, false, true, true, true, true, false, false, false, false, false] rfl rfl (any_of HT_.out (by kernel_rfl)) (fun _ _ _ h => h) (Or.inl ⟨by rfl, ?_⟩) ?_ ?_
           rotate_left
           ·intro w'
            go_simp
            with_reducible rfl
           rotate_left
           ·simp only [Act.put, List.setIfInBounds_toArray, List.set_cons_zero, List.set_cons_succ, i64_w, i32_w]
            rfl
           refine take_ (i := 4) (N := some 32) (v := ?_) (a' := ?_) #[true, true, true, true, true, true, true, true, true, false, false, false, false, false] rfl rfl (take_ofW HT_.out HW_.out (by kernel_rfl)) (fun _ _ _ h => h) (Or.inl ⟨by rfl, ?_⟩) hHeld ?_ ?_
           rotate_left
           ·rintro w' ⟨s0, s1, s2, s3, s4, s5, s6, s7⟩
            go_simp
            with_reducible rfl
           rotate_left
           ·simp only [Act.put, List.setIfInBounds_toArray, List.set_cons_zero, List.set_cons_succ, i64_w, i32_w]
            rfl
           refine take_ (i := 9) (N := some 37) (v := ?_) (a' := ?_) #[true, true, true, true, true, true, true, true, true, true, false, false, false, false] rfl rfl (take_ofW HT_.out HW_.out (by kernel_rfl)) (fun _ _ _ h => h) (Or.inl ⟨by rfl, ?_⟩) hHeld ?_ ?_
           rotate_left
           ·rintro w' ⟨s0, s1, s2, s3, s4, s5, s6, s7⟩
            go_simp
            with_reducible rfl
           rotate_left
           ·simp only [Act.put, List.setIfInBounds_toArray, List.set_cons_zero, List.set_cons_succ, i64_w, i32_w]
            rfl
           refine join_ (σ := Nat × Nat) 2 #[true, true, true, true, true, true, true, true, true, true, true, true, false, false] (fun s_ => [(7, .pointer (some ⟨s_.1, 0, none⟩)), (8, .pointer (some ⟨s_.2, 0, none⟩))]) (fun s_ w' => (w'.cell? (ad207.add ((x5_1).toNat * 4)) = some (.string ((rd_T45 l0 x5_1).f0)) ∧ w'.cell? ⟨(ad207.add ((x5_1).toNat * 4)).block, (ad207.add ((x5_1).toNat * 4)).off + 1, none⟩ = some (.slice A207_1 ((rd_T45 l0 x5_1).f1.f0).length c207_1) ∧ w'.cell? ⟨(ad207.add ((x5_1).toNat * 4)).block, (ad207.add ((x5_1).toNat * 4)).off + 2, none⟩ = some (.int .i64 ((rd_T45 l0 x5_1).f1.f1)) ∧ w'.cell? ⟨(ad207.add ((x5_1).toNat * 4)).block, (ad207.add ((x5_1).toNat * 4)).off + 3, none⟩ = some (.int .i64 ((rd_T45 l0 x5_1).f1.f2)) ∧ w'.cell? (ad207.add ((x6_2).toNat * 4)) = some (.string ((rd_T45 l0 x6_2).f0)) ∧ w'.cell? ⟨(ad207.add ((x6_2).toNat * 4)).block, (ad207.add ((x6_2).toNat * 4)).off + 1, none⟩ = some (.slice A208_1 ((rd_T45 l0 x6_2).f1.f0).length c208_1) ∧ w'.cell? ⟨(ad207.add ((x6_2).toNat * 4)).block, (ad207.add ((x6_2).toNat * 4)).off + 2, none⟩ = some (.int .i64 ((rd_T45 l0 x6_2).f1.f1)) ∧ w'.cell? ⟨(ad207.add ((x6_2).toNat * 4)).block, (ad207.add ((x6_2).toNat * 4)).off + 3, none⟩ = some (.int .i64 ((rd_T45 l0 x6_2).f1.f2))) ∧ (Kd.R k57 57 w' w.heap.size (fun _ => True) u4 x4_2) ∧ (w'.heap[s_.1]? = some (.cells #[.slice none 0 0, .int .i64 0, .int .i64 0] 43 (0, 0))) ∧ (w'.heap[s_.2]? = some (.cells #[.slice none 0 0, .int .i64 0, .int .i64 0] 43 (0, 0))) ∧ (w.heap.size ≤ s_.1) ∧ (w.heap.size ≤ s_.1) ∧ (s_.2 ≠ s_.1) ∧ (s_.1 ≠ s_.2) ∧ (w.heap.size ≤ s_.2) ∧ (w.heap.size ≤ s_.2) ∧ (Below w.heap.size w w')) ?_ ?_
           rotate_left
           ·intro hCont
            refine two_ (i := 10) (j := 11) (Ni := some 7) (Nj := some 8) #[true, true, true, true, true, true, true, true, true, true, true, false, false, false] #[true, true, true, true, true, true, true, true, true, true, false, true, false, false] rfl rfl rfl rfl (two_of HT_.out (by kernel_rfl)) (by decide) (by decide) (fun K hK => ?_) (fun K hK => ?_)
            ·skip
             refine box_step ?hg (N := 7) ?hd (cs := #[.slice none 0 0, .int .i64 0, .int .i64 0]) (t := 43) ?hr ?_; (case hd => rfl); (case hg => rfl); (case hr => exact ts18_)
             intro gb209 hg w10 hbox hb
             have n0_ := Aside0.mk (Kd.R_below (ts22_ HO_4.out) hb)
             have n1_ := Aside0.mk (below_step (ts35_ HB.out) hb)
             have n2_ := Aside0.mk (hbox)
             have n3_ := Aside0.mk ((ts51_ HB.out : w.heap.size ≤ gb209))
             have n4_ := Aside0.mk ((ts51_ HB.out : w.heap.size ≤ gb209))
             clear HO_4
             clear HB
             have HO_4 := n0_
             have HB := n1_
             have BK209 := n2_
             have GW209 := n3_
             have GE209 := n4_
             clear n0_ n1_ n2_ n3_ n4_
             clear hb hbox hg
             refine hK.out _ _ ⟨((HB.out.cell (World.block_lt_of_cell? w _ hw207_0)).trans hw207_0), ((HB.out.cell (World.block_lt_of_cell? w _ hw207_1)).trans hw207_1), ((HB.out.cell (World.block_lt_of_cell? w _ hw207_2)).trans hw207_2), ((HB.out.cell (World.block_lt_of_cell? w _ hw207_3)).trans hw207_3), ((HB.out.cell (World.block_lt_of_cell? w _ hw208_0)).trans hw208_0), ((HB.out.cell (World.block_lt_of_cell? w _ hw208_1)).trans hw208_1), ((HB.out.cell (World.block_lt_of_cell? w _ hw208_2)).trans hw208_2), ((HB.out.cell (World.block_lt_of_cell? w _ hw208_3)).trans hw208_3)⟩ (fun hHeld => ?_)
             clear hK K
             refine norm_ (a' := ?_) ?_ ?_
             rotate_left
             ·show Act.put _ (some 7) _ = _
              simp only [Act.put, List.setIfInBounds_toArray, List.set_cons_zero, List.set_cons_succ, i64_w, i32_w]
              rfl
             refine one_ (i := 11) (N := some 8) #[true, true, true, true, true, true, true, true, true, true, true, true, false, false] rfl rfl (one_of HT_.out (by kernel_rfl)) (by decide) (fun K hK => ?_)
             refine box_step ?hg (N := 8) ?hd (cs := #[.slice none 0 0, .int .i64 0, .int .i64 0]) (t := 43) ?hr ?_; (case hd => rfl); (case hg => rfl); (case hr => exact ts18_)
             intro gb210 hg w11 hbox hb
             have n0_ := Aside0.mk (Kd.R_below (ts22_ HO_4.out) hb)
             have n1_ := Aside0.mk (blk_below (g := gb209) (o := .cells #[.slice none 0 0, .int .i64 0, .int .i64 0] 43 (0, 0)) (ts17_ BK209.out) hb)
             have n2_ := Aside0.mk (below_step (ts20_ HB.out GE209.out) hb)
             have n3_ := Aside0.mk (hbox)
             have n4_ := Aside0.mk ((ts45_ HB.out GE209.out : w.heap.size ≤ gb210))
             have n5_ := Aside0.mk ((ts45_ HB.out GE209.out : w.heap.size ≤ gb210))
             have n6_ := Aside0.mk ((ts59_ BK209.out : gb209 ≠ gb210))
             have n7_ := Aside0.mk ((ts40_ BK209.out : gb210 ≠ gb209))
             clear HO_4
             clear BK209
             clear HB
             have HO_4 := n0_
             have BK209 := n1_
             have HB := n2_
             have BK210 := n3_
             have GW210 := n4_
             have GE210 := n5_
             have NB209_210 := n6_
             have NB210_209 := n7_
             clear n0_ n1_ n2_ n3_ n4_ n5_ n6_ n7_
             clear hb hbox hg
             refine hK.out _ _ ⟨((HB.out.cell (World.block_lt_of_cell? w _ hw207_0)).trans hw207_0), ((HB.out.cell (World.block_lt_of_cell? w _ hw207_1)).trans hw207_1), ((HB.out.cell (World.block_lt_of_cell? w _ hw207_2)).trans hw207_2), ((HB.out.cell (World.block_lt_of_cell? w _ hw207_3)).trans hw207_3), ((HB.out.cell (World.block_lt_of_cell? w _ hw208_0)).trans hw208_0), ((HB.out.cell (World.block_lt_of_cell? w _ hw208_1)).trans hw208_1), ((HB.out.cell (World.block_lt_of_cell? w _ hw208_2)).trans hw208_2), ((HB.out.cell (World.block_lt_of_cell? w _ hw208_3)).trans hw208_3)⟩ (fun hHeld => ?_)
             clear hK K
             refine norm_ (a' := ?_) ?_ ?_
             rotate_left
             ·show Act.put _ (some 8) _ = _
              simp only [Act.put, List.setIfInBounds_toArray, List.set_cons_zero, List.set_cons_succ, i64_w, i32_w]
              rfl
             exact norm_ ts5_ (hCont (gb209, gb210) _ ⟨hHeld, (ts22_ HO_4.out), (ts17_ BK209.out), (ts17_ BK210.out), GW209.out, GE209.out, NB210_209.out, NB209_210.out, GW210.out, GE210.out, (ts27_ HB.out GE209.out GE210.out)⟩)
            skip
            refine box_step ?hg (N := 8) ?hd (cs := #[.slice none 0 0, .int .i64 0, .int .i64 0]) (t := 43) ?hr ?_; (case hd => rfl); (case hg => rfl); (case hr => exact ts18_)
            intro gb210 hg w10 hbox hb
            have n0_ := Aside0.mk (Kd.R_below (ts22_ HO_4.out) hb)
            have n1_ := Aside0.mk (below_step (ts35_ HB.out) hb)
            have n2_ := Aside0.mk (hbox)
            have n3_ := Aside0.mk ((ts51_ HB.out : w.heap.size ≤ gb210))
            have n4_ := Aside0.mk ((ts51_ HB.out : w.heap.size ≤ gb210))
            clear HO_4
            clear HB
            have HO_4 := n0_
            have HB := n1_
            have BK210 := n2_
            have GW210 := n3_
            have GE210 := n4_
            clear n0_ n1_ n2_ n3_ n4_
            clear hb hbox hg
            refine hK.out _ _ ⟨((HB.out.cell (World.block_lt_of_cell? w _ hw207_0)).trans hw207_0), ((HB.out.cell (World.block_lt_of_cell? w _ hw207_1)).trans hw207_1), ((HB.out.cell (World.block_lt_of_cell? w _ hw207_2)).trans hw207_2), ((HB.out.cell (World.block_lt_of_cell? w _ hw207_3)).trans hw207_3), ((HB.out.cell (World.block_lt_of_cell? w _ hw208_0)).trans hw208_0), ((HB.out.cell (World.block_lt_of_cell? w _ hw208_1)).trans hw208_1), ((HB.out.cell (World.block_lt_of_cell? w _ hw208_2)).trans hw208_2), ((HB.out.cell (World.block_lt_of_cell? w _ hw208_3)).trans hw208_3)⟩ (fun hHeld => ?_)
            clear hK K
            refine norm_ (a' := ?_) ?_ ?_
            rotate_left
            ·show Act.put _ (some 8) _ = _
             simp only [Act.put, List.setIfInBounds_toArray, List.set_cons_zero, List.set_cons_succ, i64_w, i32_w]
             rfl
            refine one_ (i := 10) (N := some 7) #[true, true, true, true, true, true, true, true, true, true, true, true, false, false] rfl rfl (one_of HT_.out (by kernel_rfl)) (by decide) (fun K hK => ?_)
            refine box_step ?hg (N := 7) ?hd (cs := #[.slice none 0 0, .int .i64 0, .int .i64 0]) (t := 43) ?hr ?_; (case hd => rfl); (case hg => rfl); (case hr => exact ts18_)
            intro gb209 hg w11 hbox hb
            have n0_ := Aside0.mk (Kd.R_below (ts22_ HO_4.out) hb)
            have n1_ := Aside0.mk (blk_below (g := gb210) (o := .cells #[.slice none 0 0, .int .i64 0, .int .i64 0] 43 (0, 0)) (ts17_ BK210.out) hb)
            have n2_ := Aside0.mk (below_step (ts20_ HB.out GE210.out) hb)
            have n3_ := Aside0.mk (hbox)
            have n4_ := Aside0.mk ((ts45_ HB.out GE210.out : w.heap.size ≤ gb209))
            have n5_ := Aside0.mk ((ts45_ HB.out GE210.out : w.heap.size ≤ gb209))
            have n6_ := Aside0.mk ((ts42_ BK210.out : gb210 ≠ gb209))
            have n7_ := Aside0.mk ((ts49_ BK210.out : gb209 ≠ gb210))
            clear HO_4
            clear BK210
            clear HB
            have HO_4 := n0_
            have BK210 := n1_
            have HB := n2_
            have BK209 := n3_
            have GW209 := n4_
            have GE209 := n5_
            have NB210_209 := n6_
            have NB209_210 := n7_
            clear n0_ n1_ n2_ n3_ n4_ n5_ n6_ n7_
            clear hb hbox hg
            refine hK.out _ _ ⟨((HB.out.cell (World.block_lt_of_cell? w _ hw207_0)).trans hw207_0), ((HB.out.cell (World.block_lt_of_cell? w _ hw207_1)).trans hw207_1), ((HB.out.cell (World.block_lt_of_cell? w _ hw207_2)).trans hw207_2), ((HB.out.cell (World.block_lt_of_cell? w _ hw207_3)).trans hw207_3), ((HB.out.cell (World.block_lt_of_cell? w _ hw208_0)).trans hw208_0), ((HB.out.cell (World.block_lt_of_cell? w _ hw208_1)).trans hw208_1), ((HB.out.cell (World.block_lt_of_cell? w _ hw208_2)).trans hw208_2), ((HB.out.cell (World.block_lt_of_cell? w _ hw208_3)).trans hw208_3)⟩ (fun hHeld => ?_)
            clear hK K
            refine norm_ (a' := ?_) ?_ ?_
            rotate_left
            ·show Act.put _ (some 7) _ = _
             simp only [Act.put, List.setIfInBounds_toArray, List.set_cons_zero, List.set_cons_succ, i64_w, i32_w]
             rfl
            exact norm_ ts5_ (hCont (gb209, gb210) _ ⟨hHeld, (ts22_ HO_4.out), (ts17_ BK209.out), (ts17_ BK210.out), GW209.out, GE209.out, NB210_209.out, NB209_210.out, GW210.out, GE210.out, (ts27_ HB.out GE210.out GE209.out)⟩)
           rintro ⟨gb209, gb210⟩ w12 ⟨hS_, h0_, h1_, h2_, h3_, h4_, h5_, h6_, h7_, h8_, h9_⟩
           have n0_ : Aside0 (Kd.R k57 57 w12 w.heap.size (fun _ => True) u4 x4_2) := ⟨h0_⟩
           have n1_ : Aside0 (w12.heap[gb209]? = some (.cells #[.slice none 0 0, .int .i64 0, .int .i64 0] 43 (0, 0))) := ⟨h1_⟩
           have n2_ : Aside0 (w12.heap[gb210]? = some (.cells #[.slice none 0 0, .int .i64 0, .int .i64 0] 43 (0, 0))) := ⟨h2_⟩
           have n3_ : Aside0 (w.heap.size ≤ gb209) := ⟨h3_⟩
           have n4_ : Aside0 (w.heap.size ≤ gb209) := ⟨h4_⟩
           have n5_ : Aside0 (gb210 ≠ gb209) := ⟨h5_⟩
           have n6_ : Aside0 (gb209 ≠ gb210) := ⟨h6_⟩
           have n7_ : Aside0 (w.heap.size ≤ gb210) := ⟨h7_⟩
           have n8_ : Aside0 (w.heap.size ≤ gb210) := ⟨h8_⟩
           have n9_ : Aside0 (Below w.heap.size w w12) := ⟨h9_⟩
           clear HO_4
           clear HB
           clear h0_ h1_ h2_ h3_ h4_ h5_ h6_ h7_ h8_ h9_
           have HO_4 := n0_
           have BK209 := n1_
           have BK210 := n2_
           have GW209 := n3_
           have GE209 := n4_
           have NB210_209 := n5_
           have NB209_210 := n6_
           have GW210 := n7_
           have GE210 := n8_
           have HB := n9_
           clear n0_ n1_ n2_ n3_ n4_ n5_ n6_ n7_ n8_ n9_
           have hHeld : w12.cell? (ad207.add ((x5_1).toNat * 4)) = some (.string ((rd_T45 l0 x5_1).f0)) ∧ w12.cell? ⟨(ad207.add ((x5_1).toNat * 4)).block, (ad207.add ((x5_1).toNat * 4)).off + 1, none⟩ = some (.slice A207_1 ((rd_T45 l0 x5_1).f1.f0).length c207_1) ∧ w12.cell? ⟨(ad207.add ((x5_1).toNat * 4)).block, (ad207.add ((x5_1).toNat * 4)).off + 2, none⟩ = some (.int .i64 ((rd_T45 l0 x5_1).f1.f1)) ∧ w12.cell? ⟨(ad207.add ((x5_1).toNat * 4)).block, (ad207.add ((x5_1).toNat * 4)).off + 3, none⟩ = some (.int .i64 ((rd_T45 l0 x5_1).f1.f2)) ∧ w12.cell? (ad207.add ((x6_2).toNat * 4)) = some (.string ((rd_T45 l0 x6_2).f0)) ∧ w12.cell? ⟨(ad207.add ((x6_2).toNat * 4)).block, (ad207.add ((x6_2).toNat * 4)).off + 1, none⟩ = some (.slice A208_1 ((rd_T45 l0 x6_2).f1.f0).length c208_1) ∧ w12.cell? ⟨(ad207.add ((x6_2).toNat * 4)).block, (ad207.add ((x6_2).toNat * 4)).off + 2, none⟩ = some (.int .i64 ((rd_T45 l0 x6_2).f1.f1)) ∧ w12.cell? ⟨(ad207.add ((x6_2).toNat * 4)).block, (ad207.add ((x6_2).toNat * 4)).off + 3, none⟩ = some (.int .i64 ((rd_T45 l0 x6_2).f1.f2)) := hS_
           refine norm_ (a' := ?_) ?_ ?_
           rotate_left
           ·simp only [putAll, Act.put, List.setIfInBounds_toArray, List.set_cons_zero, List.set_cons_succ]
            rfl
           refine one_ (i := 12) (N := none) #[true, true, true, true, true, true, true, true, true, true, true, true, true, false] rfl rfl (one_of HT_.out (by kernel_rfl)) (by decide) (fun K hK => ?_)
           have hs13 : w12.cell? ⟨gb209, 0, none⟩ = some (.slice none 0 0) := (blk_cell BK209.out 0).trans rfl
           have hfs13 := blk_frozen BK209.out 0
           have hns13_1 := NB210_209.out
           have hms13_1 := NB209_210.out
           have hs14 : w12.cell? ⟨gb209, 1, none⟩ = some (.int .i64 0) := (blk_cell BK209.out 1).trans rfl
           have hfs14 := blk_frozen BK209.out 1
           have hns14_1 := NB210_209.out
           have hms14_1 := NB209_210.out
           have hs15 : w12.cell? ⟨gb209, 2, none⟩ = some (.int .i64 0) := (blk_cell BK209.out 2).trans rfl
           have hfs15 := blk_frozen BK209.out 2
           have hns15_1 := NB210_209.out
           have hms15_1 := NB209_210.out
           refine skip_ (w1 := ?_) (by rfl) rfl ?_ ?_
           rotate_left
           ·go_simp
            rfl
           refine hK.out _ _ ⟨((cell_far (p := ⟨gb209, _, none⟩) (ts56_ GW209.out) _).trans (((cell_far (p := ⟨gb209, _, none⟩) (ts56_ GW209.out) _).trans (((cell_far (p := ⟨gb209, _, none⟩) (ts56_ GW209.out) _).trans (hHeld.1)))))), ((cell_far (p := ⟨gb209, _, none⟩) (ts54_ GW209.out) _).trans (((cell_far (p := ⟨gb209, _, none⟩) (ts54_ GW209.out) _).trans (((cell_far (p := ⟨gb209, _, none⟩) (ts54_ GW209.out) _).trans (hHeld.2.1)))))), ((cell_far (p := ⟨gb209, _, none⟩) (ts39_ GW209.out) _).trans (((cell_far (p := ⟨gb209, _, none⟩) (ts39_ GW209.out) _).trans (((cell_far (p := ⟨gb209, _, none⟩) (ts39_ GW209.out) _).trans (hHeld.2.2.1)))))), ((cell_far (p := ⟨gb209, _, none⟩) (ts60_ GW209.out) _).trans (((cell_far (p := ⟨gb209, _, none⟩) (ts60_ GW209.out) _).trans (((cell_far (p := ⟨gb209, _, none⟩) (ts60_ GW209.out) _).trans (hHeld.2.2.2.1)))))), ((cell_far (p := ⟨gb209, _, none⟩) (ts43_ GW209.out) _).trans (((cell_far (p := ⟨gb209, _, none⟩) (ts43_ GW209.out) _).trans (((cell_far (p := ⟨gb209, _, none⟩) (ts43_ GW209.out) _).trans (hHeld.2.2.2.2.1)))))), ((cell_far (p := ⟨gb209, _, none⟩) (ts50_ GW209.out) _).trans (((cell_far (p := ⟨gb209, _, none⟩) (ts50_ GW209.out) _).trans (((cell_far (p := ⟨gb209, _, none⟩) (ts50_ GW209.out) _).trans (hHeld.2.2.2.2.2.1)))))), ((cell_far (p := ⟨gb209, _, none⟩) (ts47_ GW209.out) _).trans (((cell_far (p := ⟨gb209, _, none⟩) (ts47_ GW209.out) _).trans (((cell_far (p := ⟨gb209, _, none⟩) (ts47_ GW209.out) _).trans (hHeld.2.2.2.2.2.2.1)))))), ((cell_far (p := ⟨gb209, _, none⟩) (ts53_ GW209.out) _).trans (((cell_far (p := ⟨gb209, _, none⟩) (ts53_ GW209.out) _).trans (((cell_far (p := ⟨gb209, _, none⟩) (ts53_ GW209.out) _).trans (hHeld.2.2.2.2.2.2.2))))))⟩ (fun hHeld => ?_)
           clear hK K
           refine one_ (i := 13) (N := none) #[true, true, true, true, true, true, true, true, true, true, true, true, true, true] rfl rfl (one_of HT_.out (by kernel_rfl)) (by decide) (fun K hK => ?_)
           have hs16 : w12.cell? ⟨gb210, 0, none⟩ = some (.slice none 0 0) := (blk_cell BK210.out 0).trans rfl
           have hfs16 := blk_frozen BK210.out 0
           have hns16_0 := NB209_210.out
           have hms16_0 := NB210_209.out
           have hs17 : w12.cell? ⟨gb210, 1, none⟩ = some (.int .i64 0) := (blk_cell BK210.out 1).trans rfl
           have hfs17 := blk_frozen BK210.out 1
           have hns17_0 := NB209_210.out
           have hms17_0 := NB210_209.out
           have hs18 : w12.cell? ⟨gb210, 2, none⟩ = some (.int .i64 0) := (blk_cell BK210.out 2).trans rfl
           have hfs18 := blk_frozen BK210.out 2
           have hns18_0 := NB209_210.out
           have hms18_0 := NB210_209.out
           refine skip_ (w1 := ?_) (by rfl) rfl ?_ ?_
           rotate_left
           ·go_simp
            rfl
           refine hK.out _ _ ⟨((cell_far (p := ⟨gb210, _, none⟩) (ts56_ GW210.out) _).trans (((cell_far (p := ⟨gb210, _, none⟩) (ts56_ GW210.out) _).trans (((cell_far (p := ⟨gb210, _, none⟩) (ts56_ GW210.out) _).trans (hHeld.1)))))), ((cell_far (p := ⟨gb210, _, none⟩) (ts54_ GW210.out) _).trans (((cell_far (p := ⟨gb210, _, none⟩) (ts54_ GW210.out) _).trans (((cell_far (p := ⟨gb210, _, none⟩) (ts54_ GW210.out) _).trans (hHeld.2.1)))))), ((cell_far (p := ⟨gb210, _, none⟩) (ts39_ GW210.out) _).trans (((cell_far (p := ⟨gb210, _, none⟩) (ts39_ GW210.out) _).trans (((cell_far (p := ⟨gb210, _, none⟩) (ts39_ GW210.out) _).trans (hHeld.2.2.1)))))), ((cell_far (p := ⟨gb210, _, none⟩) (ts60_ GW210.out) _).trans (((cell_far (p := ⟨gb210, _, none⟩) (ts60_ GW210.out) _).trans (((cell_far (p := ⟨gb210, _, none⟩) (ts60_ GW210.out) _).trans (hHeld.2.2.2.1)))))), ((cell_far (p := ⟨gb210, _, none⟩) (ts43_ GW210.out) _).trans (((cell_far (p := ⟨gb210, _, none⟩) (ts43_ GW210.out) _).trans (((cell_far (p := ⟨gb210, _, none⟩) (ts43_ GW210.out) _).trans (hHeld.2.2.2.2.1)))))), ((cell_far (p := ⟨gb210, _, none⟩) (ts50_ GW210.out) _).trans (((cell_far (p := ⟨gb210, _, none⟩) (ts50_ GW210.out) _).trans (((cell_far (p := ⟨gb210, _, none⟩) (ts50_ GW210.out) _).trans (hHeld.2.2.2.2.2.1)))))), ((cell_far (p := ⟨gb210, _, none⟩) (ts47_ GW210.out) _).trans (((cell_far (p := ⟨gb210, _, none⟩) (ts47_ GW210.out) _).trans (((cell_far (p := ⟨gb210, _, none⟩) (ts47_ GW210.out) _).trans (hHeld.2.2.2.2.2.2.1)))))), ((cell_far (p := ⟨gb210, _, none⟩) (ts53_ GW210.out) _).trans (((cell_far (p := ⟨gb210, _, none⟩) (ts53_ GW210.out) _).trans (((cell_far (p := ⟨gb210, _, none⟩) (ts53_ GW210.out) _).trans (hHeld.2.2.2.2.2.2.2))))))⟩ (fun hHeld => ?_)
           clear hK K
           refine done_ (done_of HT_.out (by kernel_rfl)) ?_
           have hnb19 := NB209_210.out
           have hnc19 := NB210_209.out
           have hcz20_0 : w12.cell? ⟨gb209, 0, none⟩ = some (.slice none 0 0) := (blk_cell BK209.out 0).trans rfl
           have hcz20_1 : w12.cell? ⟨gb209, 1, none⟩ = some (.int .i64 0) := (blk_cell BK209.out 1).trans rfl
           have hcz20_2 : w12.cell? ⟨gb209, 2, none⟩ = some (.int .i64 0) := (blk_cell BK209.out 2).trans rfl
           have hfz20_0 := blk_frozen BK209.out 0
           have hfz20_1 := blk_frozen BK209.out 1
           have hfz20_2 := blk_frozen BK209.out 2
           try go_wp2
           go_roundg k2
           case measure => have := HK1.out; have := HK2.out; omega
           case rel => exact ⟨(x4_2), (wrap64 (x6_2 + 1)), ts34_, H', ⟨by have := HK1.out; have := HK2.out; omega⟩, ⟨ts6_ HO_4.out BK209.out BK210.out⟩, ⟨ts27_ HB.out GE209.out GE210.out⟩⟩
          rw [if_neg c8] at H
          have c8b0 : (((rd_T45 l0 x5_1).f1.f1) == 3) = false := beq_eq_false_iff_ne.mpr c8
          have c8b1 : (((rd_T45 l0 x5_1).f1.f1) != 3) = true := bne_iff_ne.mpr c8
          by_cases c21 : ((rd_T45 l0 x6_2).f1.f1) = 3
          ·rw [if_pos c21] at H
           have c21b0 : (((rd_T45 l0 x6_2).f1.f1) == 3) = true := beq_iff_eq.mpr c21
           have c21b1 : (((rd_T45 l0 x6_2).f1.f1) != 3) = false := bne_eq_false_iff_eq.mpr c21
           clear c21
           have H' := Aside0.mk H
           clear H
           try go_wp2
           have n0_ := Aside0.mk (Kd.R_drew HO_4.out)
           have n1_ := Aside0.mk (below_drew1 HB.out)
           clear HO_4
           clear HB
           have HO_4 := n0_
           have HB := n1_
           clear n0_ n1_
           have p207 : 0 ≤ (x5_1 : Int) := of_decide_eq_true ts26_
           have q207 : x5_1 < (l0.length : Int) := of_decide_eq_true ts26_
           obtain ⟨ad207, A207_1, c207_1, e207, hx207_0, hx207_1, hx207_2, hx207_3, hl207_1, hi207_1⟩ := at_T45 HR0.out x5_1 p207 q207
           have hw207_3 := hx207_3
           have hw207_2 := hx207_2
           have hw207_1 := hx207_1
           have hw207_0 := hx207_0
           cases e207
           replace hx207_0 := (HB.out.cell (World.block_lt_of_cell? w _ hx207_0)).trans hx207_0
           replace hx207_1 := (HB.out.cell (World.block_lt_of_cell? w _ hx207_1)).trans hx207_1
           replace hx207_2 := (HB.out.cell (World.block_lt_of_cell? w _ hx207_2)).trans hx207_2
           replace hx207_3 := (HB.out.cell (World.block_lt_of_cell? w _ hx207_3)).trans hx207_3
           have HR207_1 := Aside0.mk hi207_1
           have HC207_1 := Aside0.mk hl207_1
           clear hi207_1 hl207_1
           replace p207 := eq_true p207
           replace q207 := eq_true q207
           have p208 : 0 ≤ (x6_2 : Int) := of_decide_eq_true ts26_
           have q208 : x6_2 < (l0.length : Int) := of_decide_eq_true ts26_
           obtain ⟨ad208, A208_1, c208_1, e208, hx208_0, hx208_1, hx208_2, hx208_3, hl208_1, hi208_1⟩ := at_T45 HR0.out x6_2 p208 q208
           have hw208_3 := hx208_3
           have hw208_2 := hx208_2
           have hw208_1 := hx208_1
           have hw208_0 := hx208_0
           obtain rfl : ad207 = ad208 := (by injection e208)
           replace hx208_0 := (HB.out.cell (World.block_lt_of_cell? w _ hx208_0)).trans hx208_0
           replace hx208_1 := (HB.out.cell (World.block_lt_of_cell? w _ hx208_1)).trans hx208_1
           replace hx208_2 := (HB.out.cell (World.block_lt_of_cell? w _ hx208_2)).trans hx208_2
           replace hx208_3 := (HB.out.cell (World.block_lt_of_cell? w _ hx208_3)).trans hx208_3
           have HR208_1 := Aside0.mk hi208_1
           have HC208_1 := Aside0.mk hl208_1
           clear hi208_1 hl208_1
           replace p208 := eq_true p208
           replace q208 := eq_true q208
           refine start_ (n := 14) (S := fun w' => w'.cell? (ad207.add ((x5_1).toNat * 4)) = some (.string ((rd_T45 l0 x5_1).f0)) ∧ w'.cell? ⟨(ad207.add ((x5_1).toNat * 4)).block, (ad207.add ((x5_1).toNat * 4)).off + 1, none⟩ = some (.slice A207_1 ((rd_T45 l0 x5_1).f1.f0).length c207_1) ∧ w'.cell? ⟨(ad207.add ((x5_1).toNat * 4)).block, (ad207.add ((x5_1).toNat * 4)).off + 2, none⟩ = some (.int .i64 ((rd_T45 l0 x5_1).f1.f1)) ∧ w'.cell? ⟨(ad207.add ((x5_1).toNat * 4)).block, (ad207.add ((x5_1).toNat * 4)).off + 3, none⟩ = some (.int .i64 ((rd_T45 l0 x5_1).f1.f2)) ∧ w'.cell? (ad207.add ((x6_2).toNat * 4)) = some (.string ((rd_T45 l0 x6_2).f0)) ∧ w'.cell? ⟨(ad207.add ((x6_2).toNat * 4)).block, (ad207.add ((x6_2).toNat * 4)).off + 1, none⟩ = some (.slice A208_1 ((rd_T45 l0 x6_2).f1.f0).length c208_1) ∧ w'.cell? ⟨(ad207.add ((x6_2).toNat * 4)).block, (ad207.add ((x6_2).toNat * 4)).off + 2, none⟩ = some (.int .i64 ((rd_T45 l0 x6_2).f1.f1)) ∧ w'.cell? ⟨(ad207.add ((x6_2).toNat * 4)).block, (ad207.add ((x6_2).toNat * 4)).off + 3, none⟩ = some (.int .i64 ((rd_T45 l0 x6_2).f1.f2))) (ds := []) #[false, false, false, false, false, false, false, false, false, false, false, false, false, false] (by kernel_rfl) rfl rfl ⟨((HB.out.cell (World.block_lt_of_cell? w _ hw207_0)).trans hw207_0), ((HB.out.cell (World.block_lt_of_cell? w _ hw207_1)).trans hw207_1), ((HB.out.cell (World.block_lt_of_cell? w _ hw207_2)).trans hw207_2), ((HB.out.cell (World.block_lt_of_cell? w _ hw207_3)).trans hw207_3), ((HB.out.cell (World.block_lt_of_cell? w _ hw208_0)).trans hw208_0), ((HB.out.cell (World.block_lt_of_cell? w _ hw208_1)).trans hw208_1), ((HB.out.cell (World.block_lt_of_cell? w _ hw208_2)).trans hw208_2), ((HB.out.cell (World.block_lt_of_cell? w _ hw208_3)).trans hw208_3)⟩ (fun hHeld => ?_); refine with_tabW cupelref26_Differ.tab10 cupelref26_Differ.bits10 (fun HT_ HW_ => ?_)
           generalize wr.drew = w22 at HO_4 HB HR207_1 HR208_1 hx207_0 hx207_1 hx207_2 hx207_3 hx208_0 hx208_1 hx208_2 hx208_3 hHeld ⊢
           refine pure_ (i := 0) (N := some 28) (v := ?_) (a' := ?_) #[true, false, false, false, false, false, false, false, false, false, false, false, false, false] rfl rfl (any_of HT_.out (by kernel_rfl)) (fun _ _ _ h => h) (Or.inl ⟨by rfl, ?_⟩) ?_ ?_
           rotate_left
           ·intro w'
            go_simp
            with_reducible rfl
           rotate_left
           ·simp only [Act.put, List.setIfInBounds_toArray, List.set_cons_zero, List.set_cons_succ, i64_w, i32_w]
            rfl
           refine pure_ (i := 1) (N := some 29) (v := ?_) (a' := ?_) #[true, true, false, false, false, false, false, false, false, false, false, false, false, false] rfl rfl (any_of HT_.out (by kernel_rfl)) (fun _ _ _ h => h) (Or.inl ⟨by rfl, ?_⟩) ?_ ?_
           rotate_left
           ·intro w'
            go_simp
            with_reducible rfl
           rotate_left
           ·simp only [Act.put, List.setIfInBounds_toArray, List.set_cons_zero, List.set_cons_succ, i64_w, i32_w]
            rfl
           refine pure_ (i := 2) (N := some 30) (v := ?_) (a' := ?_) #[true, true, true, false, false, false, false, false, false, false, false, false, false, false] rfl rfl (any_of HT_.out (by kernel_rfl)) (fun _ _ _ h => h) (Or.inl ⟨by rfl, ?_⟩) ?_ ?_
           rotate_left
           ·intro w'
            go_simp
            with_reducible rfl
           rotate_left
           ·simp only [Act.put, List.setIfInBounds_toArray, List.set_cons_zero, List.set_cons_succ, i64_w, i32_w]
            rfl
           refine pure_ (i := 3) (N := some 31) (v := ?_) (a' := ?_) #[true, true, true, true, false, false, false, false, false, false, false, false, false, false] rfl rfl (any_of HT_.out (by kernel_rfl)) (fun _ _ _ h => h) (Or.inl ⟨by rfl, ?_⟩) ?_ ?_
           rotate_left
           ·intro w'
            go_simp
            with_reducible rfl
           rotate_left
           ·simp only [Act.put, List.setIfInBounds_toArray, List.set_cons_zero, List.set_cons_succ, i64_w, i32_w]
            rfl
           refine pure_ (i := 5) (N := some 33) (v := ?_) (a' := ?_) #[true, true, true, true, false, true, false, false, false, false, false, false, false, false] rfl rfl (any_of HT_.out (by kernel_rfl)) (fun _ _ _ h => h) (Or.inl ⟨by rfl, ?_⟩) ?_ ?_
           rotate_left
           ·intro w'
            go_simp
            with_reducible rfl
           rotate_left
           ·simp only [Act.put, List.setIfInBounds_toArray, List.set_cons_zero, List.set_cons_succ, i64_w, i32_w]
            rfl
           refine pure_ (i := 6) (N := some 34) (v := ?_) (a' := ?_) #[true, true, true, true, false, true, true, false, false, false, false, false, false, false] rfl rfl (any_of HT_.out (by kernel_rfl)) (fun _ _ _ h => h) (Or.inl ⟨by rfl, ?_⟩) ?_ ?_
           rotate_left
           ·intro w'
            go_simp
            with_reducible rfl
           rotate_left
           ·simp only [Act.put, List.setIfInBounds_toArray, List.set_cons_zero, List.set_cons_succ, i64_w, i32_w]
            rfl
           refine pure_ (i := 7) (N := some 35) (v := ?_) (a' := ?_) #[true, true, true, true, false, true, true, true, false, false, false, false, false, false] rfl rfl (any_of HT_.out (by kernel_rfl)) (fun _ _ _ h => h) (Or.inl ⟨by rfl, ?_⟩) ?_ ?_
           rotate_left
           ·intro w'
            go_simp
            with_reducible rfl
           rotate_left
           ·simp only [Act.put, List.setIfInBounds_toArray, List.set_cons_zero, List.set_cons_succ, i64_w, i32_w]
            rfl
           refine pure_ (i := 8) (N := some 36) (v := ?_) (a' := ?_) #[true, true, true, true, false, true, true, true, true, false, false, false, false, false] rfl rfl (any_of HT_.out (by kernel_rfl)) (fun _ _ _ h => h) (Or.inl ⟨by rfl, ?_⟩) ?_ ?_
           rotate_left
           ·intro w'
            go_simp
            with_reducible rfl
           rotate_left
           ·simp only [Act.put, List.setIfInBounds_toArray, List.set_cons_zero, List.set_cons_succ, i64_w, i32_w]
            rfl
           refine take_ (i := 4) (N := some 32) (v := ?_) (a' := ?_) #[true, true, true, true, true, true, true, true, true, false, false, false, false, false] rfl rfl (take_ofW HT_.out HW_.out (by kernel_rfl)) (fun _ _ _ h => h) (Or.inl ⟨by rfl, ?_⟩) hHeld ?_ ?_
           rotate_left
           ·rintro w' ⟨s0, s1, s2, s3, s4, s5, s6, s7⟩
            go_simp
            with_reducible rfl
           rotate_left
           ·simp only [Act.put, List.setIfInBounds_toArray, List.set_cons_zero, List.set_cons_succ, i64_w, i32_w]
            rfl
           refine take_ (i := 9) (N := some 37) (v := ?_) (a' := ?_) #[true, true, true, true, true, true, true, true, true, true, false, false, false, false] rfl rfl (take_ofW HT_.out HW_.out (by kernel_rfl)) (fun _ _ _ h => h) (Or.inl ⟨by rfl, ?_⟩) hHeld ?_ ?_
           rotate_left
           ·rintro w' ⟨s0, s1, s2, s3, s4, s5, s6, s7⟩
            go_simp
            with_reducible rfl
           rotate_left
           ·simp only [Act.put, List.setIfInBounds_toArray, List.set_cons_zero, List.set_cons_succ, i64_w, i32_w]
            rfl
           refine join_ (σ := Nat × Nat) 2 #[true, true, true, true, true, true, true, true, true, true, true, true, false, false] (fun s_ => [(7, .pointer (some ⟨s_.1, 0, none⟩)), (8, .pointer (some ⟨s_.2, 0, none⟩))]) (fun s_ w' => (w'.cell? (ad207.add ((x5_1).toNat * 4)) = some (.string ((rd_T45 l0 x5_1).f0)) ∧ w'.cell? ⟨(ad207.add ((x5_1).toNat * 4)).block, (ad207.add ((x5_1).toNat * 4)).off + 1, none⟩ = some (.slice A207_1 ((rd_T45 l0 x5_1).f1.f0).length c207_1) ∧ w'.cell? ⟨(ad207.add ((x5_1).toNat * 4)).block, (ad207.add ((x5_1).toNat * 4)).off + 2, none⟩ = some (.int .i64 ((rd_T45 l0 x5_1).f1.f1)) ∧ w'.cell? ⟨(ad207.add ((x5_1).toNat * 4)).block, (ad207.add ((x5_1).toNat * 4)).off + 3, none⟩ = some (.int .i64 ((rd_T45 l0 x5_1).f1.f2)) ∧ w'.cell? (ad207.add ((x6_2).toNat * 4)) = some (.string ((rd_T45 l0 x6_2).f0)) ∧ w'.cell? ⟨(ad207.add ((x6_2).toNat * 4)).block, (ad207.add ((x6_2).toNat * 4)).off + 1, none⟩ = some (.slice A208_1 ((rd_T45 l0 x6_2).f1.f0).length c208_1) ∧ w'.cell? ⟨(ad207.add ((x6_2).toNat * 4)).block, (ad207.add ((x6_2).toNat * 4)).off + 2, none⟩ = some (.int .i64 ((rd_T45 l0 x6_2).f1.f1)) ∧ w'.cell? ⟨(ad207.add ((x6_2).toNat * 4)).block, (ad207.add ((x6_2).toNat * 4)).off + 3, none⟩ = some (.int .i64 ((rd_T45 l0 x6_2).f1.f2))) ∧ (Kd.R k57 57 w' w.heap.size (fun _ => True) u4 x4_2) ∧ (w'.heap[s_.1]? = some (.cells #[.slice none 0 0, .int .i64 0, .int .i64 0] 43 (0, 0))) ∧ (w'.heap[s_.2]? = some (.cells #[.slice none 0 0, .int .i64 0, .int .i64 0] 43 (0, 0))) ∧ (w.heap.size ≤ s_.1) ∧ (w.heap.size ≤ s_.1) ∧ (s_.2 ≠ s_.1) ∧ (s_.1 ≠ s_.2) ∧ (w.heap.size ≤ s_.2) ∧ (w.heap.size ≤ s_.2) ∧ (Below w.heap.size w w')) ?_ ?_
           rotate_left
           ·intro hCont
            refine two_ (i := 10) (j := 11) (Ni := some 7) (Nj := some 8) #[true, true, true, true, true, true, true, true, true, true, true, false, false, false] #[true, true, true, true, true, true, true, true, true, true, false, true, false, false] rfl rfl rfl rfl (two_of HT_.out (by kernel_rfl)) (by decide) (by decide) (fun K hK => ?_) (fun K hK => ?_)
            ·skip
             refine box_step ?hg (N := 7) ?hd (cs := #[.slice none 0 0, .int .i64 0, .int .i64 0]) (t := 43) ?hr ?_; (case hd => rfl); (case hg => rfl); (case hr => exact ts18_)
             intro gb209 hg w23 hbox hb
             have n0_ := Aside0.mk (Kd.R_below (ts22_ HO_4.out) hb)
             have n1_ := Aside0.mk (below_step (ts35_ HB.out) hb)
             have n2_ := Aside0.mk (hbox)
             have n3_ := Aside0.mk ((ts51_ HB.out : w.heap.size ≤ gb209))
             have n4_ := Aside0.mk ((ts51_ HB.out : w.heap.size ≤ gb209))
             clear HO_4
             clear HB
             have HO_4 := n0_
             have HB := n1_
             have BK209 := n2_
             have GW209 := n3_
             have GE209 := n4_
             clear n0_ n1_ n2_ n3_ n4_
             clear hb hbox hg
             refine hK.out _ _ ⟨((HB.out.cell (World.block_lt_of_cell? w _ hw207_0)).trans hw207_0), ((HB.out.cell (World.block_lt_of_cell? w _ hw207_1)).trans hw207_1), ((HB.out.cell (World.block_lt_of_cell? w _ hw207_2)).trans hw207_2), ((HB.out.cell (World.block_lt_of_cell? w _ hw207_3)).trans hw207_3), ((HB.out.cell (World.block_lt_of_cell? w _ hw208_0)).trans hw208_0), ((HB.out.cell (World.block_lt_of_cell? w _ hw208_1)).trans hw208_1), ((HB.out.cell (World.block_lt_of_cell? w _ hw208_2)).trans hw208_2), ((HB.out.cell (World.block_lt_of_cell? w _ hw208_3)).trans hw208_3)⟩ (fun hHeld => ?_)
             clear hK K
             refine norm_ (a' := ?_) ?_ ?_
             rotate_left
             ·show Act.put _ (some 7) _ = _
              simp only [Act.put, List.setIfInBounds_toArray, List.set_cons_zero, List.set_cons_succ, i64_w, i32_w]
              rfl
             refine one_ (i := 11) (N := some 8) #[true, true, true, true, true, true, true, true, true, true, true, true, false, false] rfl rfl (one_of HT_.out (by kernel_rfl)) (by decide) (fun K hK => ?_)
             refine box_step ?hg (N := 8) ?hd (cs := #[.slice none 0 0, .int .i64 0, .int .i64 0]) (t := 43) ?hr ?_; (case hd => rfl); (case hg => rfl); (case hr => exact ts18_)
             intro gb210 hg w24 hbox hb
             have n0_ := Aside0.mk (Kd.R_below (ts22_ HO_4.out) hb)
             have n1_ := Aside0.mk (blk_below (g := gb209) (o := .cells #[.slice none 0 0, .int .i64 0, .int .i64 0] 43 (0, 0)) (ts17_ BK209.out) hb)
             have n2_ := Aside0.mk (below_step (ts20_ HB.out GE209.out) hb)
             have n3_ := Aside0.mk (hbox)
             have n4_ := Aside0.mk ((ts45_ HB.out GE209.out : w.heap.size ≤ gb210))
             have n5_ := Aside0.mk ((ts45_ HB.out GE209.out : w.heap.size ≤ gb210))
             have n6_ := Aside0.mk ((ts59_ BK209.out : gb209 ≠ gb210))
             have n7_ := Aside0.mk ((ts40_ BK209.out : gb210 ≠ gb209))
             clear HO_4
             clear BK209
             clear HB
             have HO_4 := n0_
             have BK209 := n1_
             have HB := n2_
             have BK210 := n3_
             have GW210 := n4_
             have GE210 := n5_
             have NB209_210 := n6_
             have NB210_209 := n7_
             clear n0_ n1_ n2_ n3_ n4_ n5_ n6_ n7_
             clear hb hbox hg
             refine hK.out _ _ ⟨((HB.out.cell (World.block_lt_of_cell? w _ hw207_0)).trans hw207_0), ((HB.out.cell (World.block_lt_of_cell? w _ hw207_1)).trans hw207_1), ((HB.out.cell (World.block_lt_of_cell? w _ hw207_2)).trans hw207_2), ((HB.out.cell (World.block_lt_of_cell? w _ hw207_3)).trans hw207_3), ((HB.out.cell (World.block_lt_of_cell? w _ hw208_0)).trans hw208_0), ((HB.out.cell (World.block_lt_of_cell? w _ hw208_1)).trans hw208_1), ((HB.out.cell (World.block_lt_of_cell? w _ hw208_2)).trans hw208_2), ((HB.out.cell (World.block_lt_of_cell? w _ hw208_3)).trans hw208_3)⟩ (fun hHeld => ?_)
             clear hK K
             refine norm_ (a' := ?_) ?_ ?_
             rotate_left
             ·show Act.put _ (some 8) _ = _
              simp only [Act.put, List.setIfInBounds_toArray, List.set_cons_zero, List.set_cons_succ, i64_w, i32_w]
              rfl
             exact norm_ ts5_ (hCont (gb209, gb210) _ ⟨hHeld, (ts22_ HO_4.out), (ts17_ BK209.out), (ts17_ BK210.out), GW209.out, GE209.out, NB210_209.out, NB209_210.out, GW210.out, GE210.out, (ts27_ HB.out GE209.out GE210.out)⟩)
            skip
            refine box_step ?hg (N := 8) ?hd (cs := #[.slice none 0 0, .int .i64 0, .int .i64 0]) (t := 43) ?hr ?_; (case hd => rfl); (case hg => rfl); (case hr => exact ts18_)
            intro gb210 hg w23 hbox hb
            have n0_ := Aside0.mk (Kd.R_below (ts22_ HO_4.out) hb)
            have n1_ := Aside0.mk (below_step (ts35_ HB.out) hb)
            have n2_ := Aside0.mk (hbox)
            have n3_ := Aside0.mk ((ts51_ HB.out : w.heap.size ≤ gb210))
            have n4_ := Aside0.mk ((ts51_ HB.out : w.heap.size ≤ gb210))
            clear HO_4
            clear HB
            have HO_4 := n0_
            have HB := n1_
            have BK210 := n2_
            have GW210 := n3_
            have GE210 := n4_
            clear n0_ n1_ n2_ n3_ n4_
            clear hb hbox hg
            refine hK.out _ _ ⟨((HB.out.cell (World.block_lt_of_cell? w _ hw207_0)).trans hw207_0), ((HB.out.cell (World.block_lt_of_cell? w _ hw207_1)).trans hw207_1), ((HB.out.cell (World.block_lt_of_cell? w _ hw207_2)).trans hw207_2), ((HB.out.cell (World.block_lt_of_cell? w _ hw207_3)).trans hw207_3), ((HB.out.cell (World.block_lt_of_cell? w _ hw208_0)).trans hw208_0), ((HB.out.cell (World.block_lt_of_cell? w _ hw208_1)).trans hw208_1), ((HB.out.cell (World.block_lt_of_cell? w _ hw208_2)).trans hw208_2), ((HB.out.cell (World.block_lt_of_cell? w _ hw208_3)).trans hw208_3)⟩ (fun hHeld => ?_)
            clear hK K
            refine norm_ (a' := ?_) ?_ ?_
            rotate_left
            ·show Act.put _ (some 8) _ = _
             simp only [Act.put, List.setIfInBounds_toArray, List.set_cons_zero, List.set_cons_succ, i64_w, i32_w]
             rfl
            refine one_ (i := 10) (N := some 7) #[true, true, true, true, true, true, true, true, true, true, true, true, false, false] rfl rfl (one_of HT_.out (by kernel_rfl)) (by decide) (fun K hK => ?_)
            refine box_step ?hg (N := 7) ?hd (cs := #[.slice none 0 0, .int .i64 0, .int .i64 0]) (t := 43) ?hr ?_; (case hd => rfl); (case hg => rfl); (case hr => exact ts18_)
            intro gb209 hg w24 hbox hb
            have n0_ := Aside0.mk (Kd.R_below (ts22_ HO_4.out) hb)
            have n1_ := Aside0.mk (blk_below (g := gb210) (o := .cells #[.slice none 0 0, .int .i64 0, .int .i64 0] 43 (0, 0)) (ts17_ BK210.out) hb)
            have n2_ := Aside0.mk (below_step (ts20_ HB.out GE210.out) hb)
            have n3_ := Aside0.mk (hbox)
            have n4_ := Aside0.mk ((ts45_ HB.out GE210.out : w.heap.size ≤ gb209))
            have n5_ := Aside0.mk ((ts45_ HB.out GE210.out : w.heap.size ≤ gb209))
            have n6_ := Aside0.mk ((ts42_ BK210.out : gb210 ≠ gb209))
            have n7_ := Aside0.mk ((ts49_ BK210.out : gb209 ≠ gb210))
            clear HO_4
            clear BK210
            clear HB
            have HO_4 := n0_
            have BK210 := n1_
            have HB := n2_
            have BK209 := n3_
            have GW209 := n4_
            have GE209 := n5_
            have NB210_209 := n6_
            have NB209_210 := n7_
            clear n0_ n1_ n2_ n3_ n4_ n5_ n6_ n7_
            clear hb hbox hg
            refine hK.out _ _ ⟨((HB.out.cell (World.block_lt_of_cell? w _ hw207_0)).trans hw207_0), ((HB.out.cell (World.block_lt_of_cell? w _ hw207_1)).trans hw207_1), ((HB.out.cell (World.block_lt_of_cell? w _ hw207_2)).trans hw207_2), ((HB.out.cell (World.block_lt_of_cell? w _ hw207_3)).trans hw207_3), ((HB.out.cell (World.block_lt_of_cell? w _ hw208_0)).trans hw208_0), ((HB.out.cell (World.block_lt_of_cell? w _ hw208_1)).trans hw208_1), ((HB.out.cell (World.block_lt_of_cell? w _ hw208_2)).trans hw208_2), ((HB.out.cell (World.block_lt_of_cell? w _ hw208_3)).trans hw208_3)⟩ (fun hHeld => ?_)
            clear hK K
            refine norm_ (a' := ?_) ?_ ?_
            rotate_left
            ·show Act.put _ (some 7) _ = _
             simp only [Act.put, List.setIfInBounds_toArray, List.set_cons_zero, List.set_cons_succ, i64_w, i32_w]
             rfl
            exact norm_ ts5_ (hCont (gb209, gb210) _ ⟨hHeld, (ts22_ HO_4.out), (ts17_ BK209.out), (ts17_ BK210.out), GW209.out, GE209.out, NB210_209.out, NB209_210.out, GW210.out, GE210.out, (ts27_ HB.out GE210.out GE209.out)⟩)
           rintro ⟨gb209, gb210⟩ w25 ⟨hS_, h0_, h1_, h2_, h3_, h4_, h5_, h6_, h7_, h8_, h9_⟩
           have n0_ : Aside0 (Kd.R k57 57 w25 w.heap.size (fun _ => True) u4 x4_2) := ⟨h0_⟩
           have n1_ : Aside0 (w25.heap[gb209]? = some (.cells #[.slice none 0 0, .int .i64 0, .int .i64 0] 43 (0, 0))) := ⟨h1_⟩
           have n2_ : Aside0 (w25.heap[gb210]? = some (.cells #[.slice none 0 0, .int .i64 0, .int .i64 0] 43 (0, 0))) := ⟨h2_⟩
           have n3_ : Aside0 (w.heap.size ≤ gb209) := ⟨h3_⟩
           have n4_ : Aside0 (w.heap.size ≤ gb209) := ⟨h4_⟩
           have n5_ : Aside0 (gb210 ≠ gb209) := ⟨h5_⟩
           have n6_ : Aside0 (gb209 ≠ gb210) := ⟨h6_⟩
           have n7_ : Aside0 (w.heap.size ≤ gb210) := ⟨h7_⟩
           have n8_ : Aside0 (w.heap.size ≤ gb210) := ⟨h8_⟩
           have n9_ : Aside0 (Below w.heap.size w w25) := ⟨h9_⟩
           clear HO_4
           clear HB
           clear h0_ h1_ h2_ h3_ h4_ h5_ h6_ h7_ h8_ h9_
           have HO_4 := n0_
           have BK209 := n1_
           have BK210 := n2_
           have GW209 := n3_
           have GE209 := n4_
           have NB210_209 := n5_
           have NB209_210 := n6_
           have GW210 := n7_
           have GE210 := n8_
           have HB := n9_
           clear n0_ n1_ n2_ n3_ n4_ n5_ n6_ n7_ n8_ n9_
           have hHeld : w25.cell? (ad207.add ((x5_1).toNat * 4)) = some (.string ((rd_T45 l0 x5_1).f0)) ∧ w25.cell? ⟨(ad207.add ((x5_1).toNat * 4)).block, (ad207.add ((x5_1).toNat * 4)).off + 1, none⟩ = some (.slice A207_1 ((rd_T45 l0 x5_1).f1.f0).length c207_1) ∧ w25.cell? ⟨(ad207.add ((x5_1).toNat * 4)).block, (ad207.add ((x5_1).toNat * 4)).off + 2, none⟩ = some (.int .i64 ((rd_T45 l0 x5_1).f1.f1)) ∧ w25.cell? ⟨(ad207.add ((x5_1).toNat * 4)).block, (ad207.add ((x5_1).toNat * 4)).off + 3, none⟩ = some (.int .i64 ((rd_T45 l0 x5_1).f1.f2)) ∧ w25.cell? (ad207.add ((x6_2).toNat * 4)) = some (.string ((rd_T45 l0 x6_2).f0)) ∧ w25.cell? ⟨(ad207.add ((x6_2).toNat * 4)).block, (ad207.add ((x6_2).toNat * 4)).off + 1, none⟩ = some (.slice A208_1 ((rd_T45 l0 x6_2).f1.f0).length c208_1) ∧ w25.cell? ⟨(ad207.add ((x6_2).toNat * 4)).block, (ad207.add ((x6_2).toNat * 4)).off + 2, none⟩ = some (.int .i64 ((rd_T45 l0 x6_2).f1.f1)) ∧ w25.cell? ⟨(ad207.add ((x6_2).toNat * 4)).block, (ad207.add ((x6_2).toNat * 4)).off + 3, none⟩ = some (.int .i64 ((rd_T45 l0 x6_2).f1.f2)) := hS_
           refine norm_ (a' := ?_) ?_ ?_
           rotate_left
           ·simp only [putAll, Act.put, List.setIfInBounds_toArray, List.set_cons_zero, List.set_cons_succ]
            rfl
           refine one_ (i := 12) (N := none) #[true, true, true, true, true, true, true, true, true, true, true, true, true, false] rfl rfl (one_of HT_.out (by kernel_rfl)) (by decide) (fun K hK => ?_)
           have hs26 : w25.cell? ⟨gb209, 0, none⟩ = some (.slice none 0 0) := (blk_cell BK209.out 0).trans rfl
           have hfs26 := blk_frozen BK209.out 0
           have hns26_1 := NB210_209.out
           have hms26_1 := NB209_210.out
           have hs27 : w25.cell? ⟨gb209, 1, none⟩ = some (.int .i64 0) := (blk_cell BK209.out 1).trans rfl
           have hfs27 := blk_frozen BK209.out 1
           have hns27_1 := NB210_209.out
           have hms27_1 := NB209_210.out
           have hs28 : w25.cell? ⟨gb209, 2, none⟩ = some (.int .i64 0) := (blk_cell BK209.out 2).trans rfl
           have hfs28 := blk_frozen BK209.out 2
           have hns28_1 := NB210_209.out
           have hms28_1 := NB209_210.out
           refine skip_ (w1 := ?_) (by rfl) rfl ?_ ?_
           rotate_left
           ·go_simp
            rfl
           refine hK.out _ _ ⟨((cell_far (p := ⟨gb209, _, none⟩) (ts56_ GW209.out) _).trans (((cell_far (p := ⟨gb209, _, none⟩) (ts56_ GW209.out) _).trans (((cell_far (p := ⟨gb209, _, none⟩) (ts56_ GW209.out) _).trans (hHeld.1)))))), ((cell_far (p := ⟨gb209, _, none⟩) (ts54_ GW209.out) _).trans (((cell_far (p := ⟨gb209, _, none⟩) (ts54_ GW209.out) _).trans (((cell_far (p := ⟨gb209, _, none⟩) (ts54_ GW209.out) _).trans (hHeld.2.1)))))), ((cell_far (p := ⟨gb209, _, none⟩) (ts39_ GW209.out) _).trans (((cell_far (p := ⟨gb209, _, none⟩) (ts39_ GW209.out) _).trans (((cell_far (p := ⟨gb209, _, none⟩) (ts39_ GW209.out) _).trans (hHeld.2.2.1)))))), ((cell_far (p := ⟨gb209, _, none⟩) (ts60_ GW209.out) _).trans (((cell_far (p := ⟨gb209, _, none⟩) (ts60_ GW209.out) _).trans (((cell_far (p := ⟨gb209, _, none⟩) (ts60_ GW209.out) _).trans (hHeld.2.2.2.1)))))), ((cell_far (p := ⟨gb209, _, none⟩) (ts43_ GW209.out) _).trans (((cell_far (p := ⟨gb209, _, none⟩) (ts43_ GW209.out) _).trans (((cell_far (p := ⟨gb209, _, none⟩) (ts43_ GW209.out) _).trans (hHeld.2.2.2.2.1)))))), ((cell_far (p := ⟨gb209, _, none⟩) (ts50_ GW209.out) _).trans (((cell_far (p := ⟨gb209, _, none⟩) (ts50_ GW209.out) _).trans (((cell_far (p := ⟨gb209, _, none⟩) (ts50_ GW209.out) _).trans (hHeld.2.2.2.2.2.1)))))), ((cell_far (p := ⟨gb209, _, none⟩) (ts47_ GW209.out) _).trans (((cell_far (p := ⟨gb209, _, none⟩) (ts47_ GW209.out) _).trans (((cell_far (p := ⟨gb209, _, none⟩) (ts47_ GW209.out) _).trans (hHeld.2.2.2.2.2.2.1)))))), ((cell_far (p := ⟨gb209, _, none⟩) (ts53_ GW209.out) _).trans (((cell_far (p := ⟨gb209, _, none⟩) (ts53_ GW209.out) _).trans (((cell_far (p := ⟨gb209, _, none⟩) (ts53_ GW209.out) _).trans (hHeld.2.2.2.2.2.2.2))))))⟩ (fun hHeld => ?_)
           clear hK K
           refine one_ (i := 13) (N := none) #[true, true, true, true, true, true, true, true, true, true, true, true, true, true] rfl rfl (one_of HT_.out (by kernel_rfl)) (by decide) (fun K hK => ?_)
           have hs29 : w25.cell? ⟨gb210, 0, none⟩ = some (.slice none 0 0) := (blk_cell BK210.out 0).trans rfl
           have hfs29 := blk_frozen BK210.out 0
           have hns29_0 := NB209_210.out
           have hms29_0 := NB210_209.out
           have hs30 : w25.cell? ⟨gb210, 1, none⟩ = some (.int .i64 0) := (blk_cell BK210.out 1).trans rfl
           have hfs30 := blk_frozen BK210.out 1
           have hns30_0 := NB209_210.out
           have hms30_0 := NB210_209.out
           have hs31 : w25.cell? ⟨gb210, 2, none⟩ = some (.int .i64 0) := (blk_cell BK210.out 2).trans rfl
           have hfs31 := blk_frozen BK210.out 2
           have hns31_0 := NB209_210.out
           have hms31_0 := NB210_209.out
           refine skip_ (w1 := ?_) (by rfl) rfl ?_ ?_
           rotate_left
           ·go_simp
            rfl
           refine hK.out _ _ ⟨((cell_far (p := ⟨gb210, _, none⟩) (ts56_ GW210.out) _).trans (((cell_far (p := ⟨gb210, _, none⟩) (ts56_ GW210.out) _).trans (((cell_far (p := ⟨gb210, _, none⟩) (ts56_ GW210.out) _).trans (hHeld.1)))))), ((cell_far (p := ⟨gb210, _, none⟩) (ts54_ GW210.out) _).trans (((cell_far (p := ⟨gb210, _, none⟩) (ts54_ GW210.out) _).trans (((cell_far (p := ⟨gb210, _, none⟩) (ts54_ GW210.out) _).trans (hHeld.2.1)))))), ((cell_far (p := ⟨gb210, _, none⟩) (ts39_ GW210.out) _).trans (((cell_far (p := ⟨gb210, _, none⟩) (ts39_ GW210.out) _).trans (((cell_far (p := ⟨gb210, _, none⟩) (ts39_ GW210.out) _).trans (hHeld.2.2.1)))))), ((cell_far (p := ⟨gb210, _, none⟩) (ts60_ GW210.out) _).trans (((cell_far (p := ⟨gb210, _, none⟩) (ts60_ GW210.out) _).trans (((cell_far (p := ⟨gb210, _, none⟩) (ts60_ GW210.out) _).trans (hHeld.2.2.2.1)))))), ((cell_far (p := ⟨gb210, _, none⟩) (ts43_ GW210.out) _).trans (((cell_far (p := ⟨gb210, _, none⟩) (ts43_ GW210.out) _).trans (((cell_far (p := ⟨gb210, _, none⟩) (ts43_ GW210.out) _).trans (hHeld.2.2.2.2.1)))))), ((cell_far (p := ⟨gb210, _, none⟩) (ts50_ GW210.out) _).trans (((cell_far (p := ⟨gb210, _, none⟩) (ts50_ GW210.out) _).trans (((cell_far (p := ⟨gb210, _, none⟩) (ts50_ GW210.out) _).trans (hHeld.2.2.2.2.2.1)))))), ((cell_far (p := ⟨gb210, _, none⟩) (ts47_ GW210.out) _).trans (((cell_far (p := ⟨gb210, _, none⟩) (ts47_ GW210.out) _).trans (((cell_far (p := ⟨gb210, _, none⟩) (ts47_ GW210.out) _).trans (hHeld.2.2.2.2.2.2.1)))))), ((cell_far (p := ⟨gb210, _, none⟩) (ts53_ GW210.out) _).trans (((cell_far (p := ⟨gb210, _, none⟩) (ts53_ GW210.out) _).trans (((cell_far (p := ⟨gb210, _, none⟩) (ts53_ GW210.out) _).trans (hHeld.2.2.2.2.2.2.2))))))⟩ (fun hHeld => ?_)
           clear hK K
           refine done_ (done_of HT_.out (by kernel_rfl)) ?_
           have hnb32 := NB209_210.out
           have hnc32 := NB210_209.out
           have hcz33_0 : w25.cell? ⟨gb209, 0, none⟩ = some (.slice none 0 0) := (blk_cell BK209.out 0).trans rfl
           have hcz33_1 : w25.cell? ⟨gb209, 1, none⟩ = some (.int .i64 0) := (blk_cell BK209.out 1).trans rfl
           have hcz33_2 : w25.cell? ⟨gb209, 2, none⟩ = some (.int .i64 0) := (blk_cell BK209.out 2).trans rfl
           have hfz33_0 := blk_frozen BK209.out 0
           have hfz33_1 := blk_frozen BK209.out 1
           have hfz33_2 := blk_frozen BK209.out 2
           have hcz34_0 : w25.cell? ⟨gb210, 0, none⟩ = some (.slice none 0 0) := (blk_cell BK210.out 0).trans rfl
           have hcz34_1 : w25.cell? ⟨gb210, 1, none⟩ = some (.int .i64 0) := (blk_cell BK210.out 1).trans rfl
           have hcz34_2 : w25.cell? ⟨gb210, 2, none⟩ = some (.int .i64 0) := (blk_cell BK210.out 2).trans rfl
           have hfz34_0 := blk_frozen BK210.out 0
           have hfz34_1 := blk_frozen BK210.out 1
           have hfz34_2 := blk_frozen BK210.out 2
           try go_wp2
           go_roundg k2
           case measure => have := HK1.out; have := HK2.out; omega
           case rel => exact ⟨(x4_2), (wrap64 (x6_2 + 1)), ts34_, H', ⟨by have := HK1.out; have := HK2.out; omega⟩, ⟨ts6_ HO_4.out BK209.out BK210.out⟩, ⟨ts27_ HB.out GE209.out GE210.out⟩⟩
          rw [if_neg c21] at H
          have c21b0 : (((rd_T45 l0 x6_2).f1.f1) == 3) = false := beq_eq_false_iff_ne.mpr c21
          have c21b1 : (((rd_T45 l0 x6_2).f1.f1) != 3) = true := bne_iff_ne.mpr c21
          obtain ⟨t211, A35, H⟩ := bsA_ H
          try dsimp only at H
          by_cases c36 : t211 = true
          ·subst c36
           rw [if_pos rfl] at H
           have H' := Aside0.mk H
           clear H
           try go_wp2
           have n0_ := Aside0.mk (Kd.R_drew HO_4.out)
           have n1_ := Aside0.mk (below_drew1 HB.out)
           clear HO_4
           clear HB
           have HO_4 := n0_
           have HB := n1_
           clear n0_ n1_
           have p207 : 0 ≤ (x5_1 : Int) := of_decide_eq_true ts26_
           have q207 : x5_1 < (l0.length : Int) := of_decide_eq_true ts26_
           obtain ⟨ad207, A207_1, c207_1, e207, hx207_0, hx207_1, hx207_2, hx207_3, hl207_1, hi207_1⟩ := at_T45 HR0.out x5_1 p207 q207
           have hw207_3 := hx207_3
           have hw207_2 := hx207_2
           have hw207_1 := hx207_1
           have hw207_0 := hx207_0
           cases e207
           replace hx207_0 := (HB.out.cell (World.block_lt_of_cell? w _ hx207_0)).trans hx207_0
           replace hx207_1 := (HB.out.cell (World.block_lt_of_cell? w _ hx207_1)).trans hx207_1
           replace hx207_2 := (HB.out.cell (World.block_lt_of_cell? w _ hx207_2)).trans hx207_2
           replace hx207_3 := (HB.out.cell (World.block_lt_of_cell? w _ hx207_3)).trans hx207_3
           have HR207_1 := Aside0.mk hi207_1
           have HC207_1 := Aside0.mk hl207_1
           clear hi207_1 hl207_1
           replace p207 := eq_true p207
           replace q207 := eq_true q207
           have p208 : 0 ≤ (x6_2 : Int) := of_decide_eq_true ts26_
           have q208 : x6_2 < (l0.length : Int) := of_decide_eq_true ts26_
           obtain ⟨ad208, A208_1, c208_1, e208, hx208_0, hx208_1, hx208_2, hx208_3, hl208_1, hi208_1⟩ := at_T45 HR0.out x6_2 p208 q208
           have hw208_3 := hx208_3
           have hw208_2 := hx208_2
           have hw208_1 := hx208_1
           have hw208_0 := hx208_0
           obtain rfl : ad207 = ad208 := (by injection e208)
           replace hx208_0 := (HB.out.cell (World.block_lt_of_cell? w _ hx208_0)).trans hx208_0
           replace hx208_1 := (HB.out.cell (World.block_lt_of_cell? w _ hx208_1)).trans hx208_1
           replace hx208_2 := (HB.out.cell (World.block_lt_of_cell? w _ hx208_2)).trans hx208_2
           replace hx208_3 := (HB.out.cell (World.block_lt_of_cell? w _ hx208_3)).trans hx208_3
           have HR208_1 := Aside0.mk hi208_1
           have HC208_1 := Aside0.mk hl208_1
           clear hi208_1 hl208_1
           replace p208 := eq_true p208
           replace q208 := eq_true q208
           refine start_ (n := 14) (S := fun w' => w'.cell? (ad207.add ((x5_1).toNat * 4)) = some (.string ((rd_T45 l0 x5_1).f0)) ∧ w'.cell? ⟨(ad207.add ((x5_1).toNat * 4)).block, (ad207.add ((x5_1).toNat * 4)).off + 1, none⟩ = some (.slice A207_1 ((rd_T45 l0 x5_1).f1.f0).length c207_1) ∧ w'.cell? ⟨(ad207.add ((x5_1).toNat * 4)).block, (ad207.add ((x5_1).toNat * 4)).off + 2, none⟩ = some (.int .i64 ((rd_T45 l0 x5_1).f1.f1)) ∧ w'.cell? ⟨(ad207.add ((x5_1).toNat * 4)).block, (ad207.add ((x5_1).toNat * 4)).off + 3, none⟩ = some (.int .i64 ((rd_T45 l0 x5_1).f1.f2)) ∧ w'.cell? (ad207.add ((x6_2).toNat * 4)) = some (.string ((rd_T45 l0 x6_2).f0)) ∧ w'.cell? ⟨(ad207.add ((x6_2).toNat * 4)).block, (ad207.add ((x6_2).toNat * 4)).off + 1, none⟩ = some (.slice A208_1 ((rd_T45 l0 x6_2).f1.f0).length c208_1) ∧ w'.cell? ⟨(ad207.add ((x6_2).toNat * 4)).block, (ad207.add ((x6_2).toNat * 4)).off + 2, none⟩ = some (.int .i64 ((rd_T45 l0 x6_2).f1.f1)) ∧ w'.cell? ⟨(ad207.add ((x6_2).toNat * 4)).block, (ad207.add ((x6_2).toNat * 4)).off + 3, none⟩ = some (.int .i64 ((rd_T45 l0 x6_2).f1.f2))) (ds := []) #[false, false, false, false, false, false, false, false, false, false, false, false, false, false] (by kernel_rfl) rfl rfl ⟨((HB.out.cell (World.block_lt_of_cell? w _ hw207_0)).trans hw207_0), ((HB.out.cell (World.block_lt_of_cell? w _ hw207_1)).trans hw207_1), ((HB.out.cell (World.block_lt_of_cell? w _ hw207_2)).trans hw207_2), ((HB.out.cell (World.block_lt_of_cell? w _ hw207_3)).trans hw207_3), ((HB.out.cell (World.block_lt_of_cell? w _ hw208_0)).trans hw208_0), ((HB.out.cell (World.block_lt_of_cell? w _ hw208_1)).trans hw208_1), ((HB.out.cell (World.block_lt_of_cell? w _ hw208_2)).trans hw208_2), ((HB.out.cell (World.block_lt_of_cell? w _ hw208_3)).trans hw208_3)⟩ (fun hHeld => ?_); refine with_tabW cupelref26_Differ.tab10 cupelref26_Differ.bits10 (fun HT_ HW_ => ?_)
           generalize wr.drew = w37 at HO_4 HB HR207_1 HR208_1 hx207_0 hx207_1 hx207_2 hx207_3 hx208_0 hx208_1 hx208_2 hx208_3 hHeld ⊢
           refine pure_ (i := 0) (N := some 28) (v := ?_) (a' := ?_) #[true, false, false, false, false, false, false, false, false, false, false, false, false, false] rfl rfl (any_of HT_.out (by kernel_rfl)) (fun _ _ _ h => h) (Or.inl ⟨by rfl, ?_⟩) ?_ ?_
           rotate_left
           ·intro w'
            go_simp
            with_reducible rfl
           rotate_left
           ·simp only [Act.put, List.setIfInBounds_toArray, List.set_cons_zero, List.set_cons_succ, i64_w, i32_w]
            rfl
           refine pure_ (i := 1) (N := some 29) (v := ?_) (a' := ?_) #[true, true, false, false, false, false, false, false, false, false, false, false, false, false] rfl rfl (any_of HT_.out (by kernel_rfl)) (fun _ _ _ h => h) (Or.inl ⟨by rfl, ?_⟩) ?_ ?_
           rotate_left
           ·intro w'
            go_simp
            with_reducible rfl
           rotate_left
           ·simp only [Act.put, List.setIfInBounds_toArray, List.set_cons_zero, List.set_cons_succ, i64_w, i32_w]
            rfl
           refine pure_ (i := 2) (N := some 30) (v := ?_) (a' := ?_) #[true, true, true, false, false, false, false, false, false, false, false, false, false, false] rfl rfl (any_of HT_.out (by kernel_rfl)) (fun _ _ _ h => h) (Or.inl ⟨by rfl, ?_⟩) ?_ ?_
           rotate_left
           ·intro w'
            go_simp
            with_reducible rfl
           rotate_left
           ·simp only [Act.put, List.setIfInBounds_toArray, List.set_cons_zero, List.set_cons_succ, i64_w, i32_w]
            rfl
           refine pure_ (i := 3) (N := some 31) (v := ?_) (a' := ?_) #[true, true, true, true, false, false, false, false, false, false, false, false, false, false] rfl rfl (any_of HT_.out (by kernel_rfl)) (fun _ _ _ h => h) (Or.inl ⟨by rfl, ?_⟩) ?_ ?_
           rotate_left
           ·intro w'
            go_simp
            with_reducible rfl
           rotate_left
           ·simp only [Act.put, List.setIfInBounds_toArray, List.set_cons_zero, List.set_cons_succ, i64_w, i32_w]
            rfl
           refine pure_ (i := 5) (N := some 33) (v := ?_) (a' := ?_) #[true, true, true, true, false, true, false, false, false, false, false, false, false, false] rfl rfl (any_of HT_.out (by kernel_rfl)) (fun _ _ _ h => h) (Or.inl ⟨by rfl, ?_⟩) ?_ ?_
           rotate_left
           ·intro w'
            go_simp
            with_reducible rfl
           rotate_left
           ·simp only [Act.put, List.setIfInBounds_toArray, List.set_cons_zero, List.set_cons_succ, i64_w, i32_w]
            rfl
           refine pure_ (i := 6) (N := some 34) (v := ?_) (a' := ?_) #[true, true, true, true, false, true, true, false, false, false, false, false, false, false] rfl rfl (any_of HT_.out (by kernel_rfl)) (fun _ _ _ h => h) (Or.inl ⟨by rfl, ?_⟩) ?_ ?_
           rotate_left
           ·intro w'
            go_simp
            with_reducible rfl
           rotate_left
           ·simp only [Act.put, List.setIfInBounds_toArray, List.set_cons_zero, List.set_cons_succ, i64_w, i32_w]
            rfl
           refine pure_ (i := 7) (N := some 35) (v := ?_) (a' := ?_) #[true, true, true, true, false, true, true, true, false, false, false, false, false, false] rfl rfl (any_of HT_.out (by kernel_rfl)) (fun _ _ _ h => h) (Or.inl ⟨by rfl, ?_⟩) ?_ ?_
           rotate_left
           ·intro w'
            go_simp
            with_reducible rfl
           rotate_left
           ·simp only [Act.put, List.setIfInBounds_toArray, List.set_cons_zero, List.set_cons_succ, i64_w, i32_w]
            rfl
           refine pure_ (i := 8) (N := some 36) (v := ?_) (a' := ?_) #[true, true, true, true, false, true, true, true, true, false, false, false, false, false] rfl rfl (any_of HT_.out (by kernel_rfl)) (fun _ _ _ h => h) (Or.inl ⟨by rfl, ?_⟩) ?_ ?_
           rotate_left
           ·intro w'
            go_simp
            with_reducible rfl
           rotate_left
           ·simp only [Act.put, List.setIfInBounds_toArray, List.set_cons_zero, List.set_cons_succ, i64_w, i32_w]
            rfl
           refine take_ (i := 4) (N := some 32) (v := ?_) (a' := ?_) #[true, true, true, true, true, true, true, true, true, false, false, false, false, false] rfl rfl (take_ofW HT_.out HW_.out (by kernel_rfl)) (fun _ _ _ h => h) (Or.inl ⟨by rfl, ?_⟩) hHeld ?_ ?_
           rotate_left
           ·rintro w' ⟨s0, s1, s2, s3, s4, s5, s6, s7⟩
            go_simp
            with_reducible rfl
           rotate_left
           ·simp only [Act.put, List.setIfInBounds_toArray, List.set_cons_zero, List.set_cons_succ, i64_w, i32_w]
            rfl
           refine take_ (i := 9) (N := some 37) (v := ?_) (a' := ?_) #[true, true, true, true, true, true, true, true, true, true, false, false, false, false] rfl rfl (take_ofW HT_.out HW_.out (by kernel_rfl)) (fun _ _ _ h => h) (Or.inl ⟨by rfl, ?_⟩) hHeld ?_ ?_
           rotate_left
           ·rintro w' ⟨s0, s1, s2, s3, s4, s5, s6, s7⟩
            go_simp
            with_reducible rfl
           rotate_left
           ·simp only [Act.put, List.setIfInBounds_toArray, List.set_cons_zero, List.set_cons_succ, i64_w, i32_w]
            rfl
           refine join_ (σ := Nat × Nat) 2 #[true, true, true, true, true, true, true, true, true, true, true, true, false, false] (fun s_ => [(7, .pointer (some ⟨s_.1, 0, none⟩)), (8, .pointer (some ⟨s_.2, 0, none⟩))]) (fun s_ w' => (w'.cell? (ad207.add ((x5_1).toNat * 4)) = some (.string ((rd_T45 l0 x5_1).f0)) ∧ w'.cell? ⟨(ad207.add ((x5_1).toNat * 4)).block, (ad207.add ((x5_1).toNat * 4)).off + 1, none⟩ = some (.slice A207_1 ((rd_T45 l0 x5_1).f1.f0).length c207_1) ∧ w'.cell? ⟨(ad207.add ((x5_1).toNat * 4)).block, (ad207.add ((x5_1).toNat * 4)).off + 2, none⟩ = some (.int .i64 ((rd_T45 l0 x5_1).f1.f1)) ∧ w'.cell? ⟨(ad207.add ((x5_1).toNat * 4)).block, (ad207.add ((x5_1).toNat * 4)).off + 3, none⟩ = some (.int .i64 ((rd_T45 l0 x5_1).f1.f2)) ∧ w'.cell? (ad207.add ((x6_2).toNat * 4)) = some (.string ((rd_T45 l0 x6_2).f0)) ∧ w'.cell? ⟨(ad207.add ((x6_2).toNat * 4)).block, (ad207.add ((x6_2).toNat * 4)).off + 1, none⟩ = some (.slice A208_1 ((rd_T45 l0 x6_2).f1.f0).length c208_1) ∧ w'.cell? ⟨(ad207.add ((x6_2).toNat * 4)).block, (ad207.add ((x6_2).toNat * 4)).off + 2, none⟩ = some (.int .i64 ((rd_T45 l0 x6_2).f1.f1)) ∧ w'.cell? ⟨(ad207.add ((x6_2).toNat * 4)).block, (ad207.add ((x6_2).toNat * 4)).off + 3, none⟩ = some (.int .i64 ((rd_T45 l0 x6_2).f1.f2))) ∧ (Kd.R k57 57 w' w.heap.size (fun _ => True) u4 x4_2) ∧ (w'.heap[s_.1]? = some (.cells #[.slice none 0 0, .int .i64 0, .int .i64 0] 43 (0, 0))) ∧ (w'.heap[s_.2]? = some (.cells #[.slice none 0 0, .int .i64 0, .int .i64 0] 43 (0, 0))) ∧ (w.heap.size ≤ s_.1) ∧ (w.heap.size ≤ s_.1) ∧ (s_.2 ≠ s_.1) ∧ (s_.1 ≠ s_.2) ∧ (w.heap.size ≤ s_.2) ∧ (w.heap.size ≤ s_.2) ∧ (Below w.heap.size w w')) ?_ ?_
           rotate_left
           ·intro hCont
            refine two_ (i := 10) (j := 11) (Ni := some 7) (Nj := some 8) #[true, true, true, true, true, true, true, true, true, true, true, false, false, false] #[true, true, true, true, true, true, true, true, true, true, false, true, false, false] rfl rfl rfl rfl (two_of HT_.out (by kernel_rfl)) (by decide) (by decide) (fun K hK => ?_) (fun K hK => ?_)
            ·skip
             refine box_step ?hg (N := 7) ?hd (cs := #[.slice none 0 0, .int .i64 0, .int .i64 0]) (t := 43) ?hr ?_; (case hd => rfl); (case hg => rfl); (case hr => exact ts18_)
             intro gb209 hg w38 hbox hb
             have n0_ := Aside0.mk (Kd.R_below (ts22_ HO_4.out) hb)
             have n1_ := Aside0.mk (below_step (ts35_ HB.out) hb)
             have n2_ := Aside0.mk (hbox)
             have n3_ := Aside0.mk ((ts51_ HB.out : w.heap.size ≤ gb209))
             have n4_ := Aside0.mk ((ts51_ HB.out : w.heap.size ≤ gb209))
             clear HO_4
             clear HB
             have HO_4 := n0_
             have HB := n1_
             have BK209 := n2_
             have GW209 := n3_
             have GE209 := n4_
             clear n0_ n1_ n2_ n3_ n4_
             clear hb hbox hg
             refine hK.out _ _ ⟨((HB.out.cell (World.block_lt_of_cell? w _ hw207_0)).trans hw207_0), ((HB.out.cell (World.block_lt_of_cell? w _ hw207_1)).trans hw207_1), ((HB.out.cell (World.block_lt_of_cell? w _ hw207_2)).trans hw207_2), ((HB.out.cell (World.block_lt_of_cell? w _ hw207_3)).trans hw207_3), ((HB.out.cell (World.block_lt_of_cell? w _ hw208_0)).trans hw208_0), ((HB.out.cell (World.block_lt_of_cell? w _ hw208_1)).trans hw208_1), ((HB.out.cell (World.block_lt_of_cell? w _ hw208_2)).trans hw208_2), ((HB.out.cell (World.block_lt_of_cell? w _ hw208_3)).trans hw208_3)⟩ (fun hHeld => ?_)
             clear hK K
             refine norm_ (a' := ?_) ?_ ?_
             rotate_left
             ·show Act.put _ (some 7) _ = _
              simp only [Act.put, List.setIfInBounds_toArray, List.set_cons_zero, List.set_cons_succ, i64_w, i32_w]
              rfl
             refine one_ (i := 11) (N := some 8) #[true, true, true, true, true, true, true, true, true, true, true, true, false, false] rfl rfl (one_of HT_.out (by kernel_rfl)) (by decide) (fun K hK => ?_)
             refine box_step ?hg (N := 8) ?hd (cs := #[.slice none 0 0, .int .i64 0, .int .i64 0]) (t := 43) ?hr ?_; (case hd => rfl); (case hg => rfl); (case hr => exact ts18_)
             intro gb210 hg w39 hbox hb
             have n0_ := Aside0.mk (Kd.R_below (ts22_ HO_4.out) hb)
             have n1_ := Aside0.mk (blk_below (g := gb209) (o := .cells #[.slice none 0 0, .int .i64 0, .int .i64 0] 43 (0, 0)) (ts17_ BK209.out) hb)
             have n2_ := Aside0.mk (below_step (ts20_ HB.out GE209.out) hb)
             have n3_ := Aside0.mk (hbox)
             have n4_ := Aside0.mk ((ts45_ HB.out GE209.out : w.heap.size ≤ gb210))
             have n5_ := Aside0.mk ((ts45_ HB.out GE209.out : w.heap.size ≤ gb210))
             have n6_ := Aside0.mk ((ts59_ BK209.out : gb209 ≠ gb210))
             have n7_ := Aside0.mk ((ts40_ BK209.out : gb210 ≠ gb209))
             clear HO_4
             clear BK209
             clear HB
             have HO_4 := n0_
             have BK209 := n1_
             have HB := n2_
             have BK210 := n3_
             have GW210 := n4_
             have GE210 := n5_
             have NB209_210 := n6_
             have NB210_209 := n7_
             clear n0_ n1_ n2_ n3_ n4_ n5_ n6_ n7_
             clear hb hbox hg
             refine hK.out _ _ ⟨((HB.out.cell (World.block_lt_of_cell? w _ hw207_0)).trans hw207_0), ((HB.out.cell (World.block_lt_of_cell? w _ hw207_1)).trans hw207_1), ((HB.out.cell (World.block_lt_of_cell? w _ hw207_2)).trans hw207_2), ((HB.out.cell (World.block_lt_of_cell? w _ hw207_3)).trans hw207_3), ((HB.out.cell (World.block_lt_of_cell? w _ hw208_0)).trans hw208_0), ((HB.out.cell (World.block_lt_of_cell? w _ hw208_1)).trans hw208_1), ((HB.out.cell (World.block_lt_of_cell? w _ hw208_2)).trans hw208_2), ((HB.out.cell (World.block_lt_of_cell? w _ hw208_3)).trans hw208_3)⟩ (fun hHeld => ?_)
             clear hK K
             refine norm_ (a' := ?_) ?_ ?_
             rotate_left
             ·show Act.put _ (some 8) _ = _
              simp only [Act.put, List.setIfInBounds_toArray, List.set_cons_zero, List.set_cons_succ, i64_w, i32_w]
              rfl
             exact norm_ ts5_ (hCont (gb209, gb210) _ ⟨hHeld, (ts22_ HO_4.out), (ts17_ BK209.out), (ts17_ BK210.out), GW209.out, GE209.out, NB210_209.out, NB209_210.out, GW210.out, GE210.out, (ts27_ HB.out GE209.out GE210.out)⟩)
            skip
            refine box_step ?hg (N := 8) ?hd (cs := #[.slice none 0 0, .int .i64 0, .int .i64 0]) (t := 43) ?hr ?_; (case hd => rfl); (case hg => rfl); (case hr => exact ts18_)
            intro gb210 hg w38 hbox hb
            have n0_ := Aside0.mk (Kd.R_below (ts22_ HO_4.out) hb)
            have n1_ := Aside0.mk (below_step (ts35_ HB.out) hb)
            have n2_ := Aside0.mk (hbox)
            have n3_ := Aside0.mk ((ts51_ HB.out : w.heap.size ≤ gb210))
            have n4_ := Aside0.mk ((ts51_ HB.out : w.heap.size ≤ gb210))
            clear HO_4
            clear HB
            have HO_4 := n0_
            have HB := n1_
            have BK210 := n2_
            have GW210 := n3_
            have GE210 := n4_
            clear n0_ n1_ n2_ n3_ n4_
            clear hb hbox hg
            refine hK.out _ _ ⟨((HB.out.cell (World.block_lt_of_cell? w _ hw207_0)).trans hw207_0), ((HB.out.cell (World.block_lt_of_cell? w _ hw207_1)).trans hw207_1), ((HB.out.cell (World.block_lt_of_cell? w _ hw207_2)).trans hw207_2), ((HB.out.cell (World.block_lt_of_cell? w _ hw207_3)).trans hw207_3), ((HB.out.cell (World.block_lt_of_cell? w _ hw208_0)).trans hw208_0), ((HB.out.cell (World.block_lt_of_cell? w _ hw208_1)).trans hw208_1), ((HB.out.cell (World.block_lt_of_cell? w _ hw208_2)).trans hw208_2), ((HB.out.cell (World.block_lt_of_cell? w _ hw208_3)).trans hw208_3)⟩ (fun hHeld => ?_)
            clear hK K
            refine norm_ (a' := ?_) ?_ ?_
            rotate_left
            ·show Act.put _ (some 8) _ = _
             simp only [Act.put, List.setIfInBounds_toArray, List.set_cons_zero, List.set_cons_succ, i64_w, i32_w]
             rfl
            refine one_ (i := 10) (N := some 7) #[true, true, true, true, true, true, true, true, true, true, true, true, false, false] rfl rfl (one_of HT_.out (by kernel_rfl)) (by decide) (fun K hK => ?_)
            refine box_step ?hg (N := 7) ?hd (cs := #[.slice none 0 0, .int .i64 0, .int .i64 0]) (t := 43) ?hr ?_; (case hd => rfl); (case hg => rfl); (case hr => exact ts18_)
            intro gb209 hg w39 hbox hb
            have n0_ := Aside0.mk (Kd.R_below (ts22_ HO_4.out) hb)
            have n1_ := Aside0.mk (blk_below (g := gb210) (o := .cells #[.slice none 0 0, .int .i64 0, .int .i64 0] 43 (0, 0)) (ts17_ BK210.out) hb)
            have n2_ := Aside0.mk (below_step (ts20_ HB.out GE210.out) hb)
            have n3_ := Aside0.mk (hbox)
            have n4_ := Aside0.mk ((ts45_ HB.out GE210.out : w.heap.size ≤ gb209))
            have n5_ := Aside0.mk ((ts45_ HB.out GE210.out : w.heap.size ≤ gb209))
            have n6_ := Aside0.mk ((ts42_ BK210.out : gb210 ≠ gb209))
            have n7_ := Aside0.mk ((ts49_ BK210.out : gb209 ≠ gb210))
            clear HO_4
            clear BK210
            clear HB
            have HO_4 := n0_
            have BK210 := n1_
            have HB := n2_
            have BK209 := n3_
            have GW209 := n4_
            have GE209 := n5_
            have NB210_209 := n6_
            have NB209_210 := n7_
            clear n0_ n1_ n2_ n3_ n4_ n5_ n6_ n7_
            clear hb hbox hg
            refine hK.out _ _ ⟨((HB.out.cell (World.block_lt_of_cell? w _ hw207_0)).trans hw207_0), ((HB.out.cell (World.block_lt_of_cell? w _ hw207_1)).trans hw207_1), ((HB.out.cell (World.block_lt_of_cell? w _ hw207_2)).trans hw207_2), ((HB.out.cell (World.block_lt_of_cell? w _ hw207_3)).trans hw207_3), ((HB.out.cell (World.block_lt_of_cell? w _ hw208_0)).trans hw208_0), ((HB.out.cell (World.block_lt_of_cell? w _ hw208_1)).trans hw208_1), ((HB.out.cell (World.block_lt_of_cell? w _ hw208_2)).trans hw208_2), ((HB.out.cell (World.block_lt_of_cell? w _ hw208_3)).trans hw208_3)⟩ (fun hHeld => ?_)
            clear hK K
            refine norm_ (a' := ?_) ?_ ?_
            rotate_left
            ·show Act.put _ (some 7) _ = _
             simp only [Act.put, List.setIfInBounds_toArray, List.set_cons_zero, List.set_cons_succ, i64_w, i32_w]
             rfl
            exact norm_ ts5_ (hCont (gb209, gb210) _ ⟨hHeld, (ts22_ HO_4.out), (ts17_ BK209.out), (ts17_ BK210.out), GW209.out, GE209.out, NB210_209.out, NB209_210.out, GW210.out, GE210.out, (ts27_ HB.out GE210.out GE209.out)⟩)
           rintro ⟨gb209, gb210⟩ w40 ⟨hS_, h0_, h1_, h2_, h3_, h4_, h5_, h6_, h7_, h8_, h9_⟩
           have n0_ : Aside0 (Kd.R k57 57 w40 w.heap.size (fun _ => True) u4 x4_2) := ⟨h0_⟩
           have n1_ : Aside0 (w40.heap[gb209]? = some (.cells #[.slice none 0 0, .int .i64 0, .int .i64 0] 43 (0, 0))) := ⟨h1_⟩
           have n2_ : Aside0 (w40.heap[gb210]? = some (.cells #[.slice none 0 0, .int .i64 0, .int .i64 0] 43 (0, 0))) := ⟨h2_⟩
           have n3_ : Aside0 (w.heap.size ≤ gb209) := ⟨h3_⟩
           have n4_ : Aside0 (w.heap.size ≤ gb209) := ⟨h4_⟩
           have n5_ : Aside0 (gb210 ≠ gb209) := ⟨h5_⟩
           have n6_ : Aside0 (gb209 ≠ gb210) := ⟨h6_⟩
           have n7_ : Aside0 (w.heap.size ≤ gb210) := ⟨h7_⟩
           have n8_ : Aside0 (w.heap.size ≤ gb210) := ⟨h8_⟩
           have n9_ : Aside0 (Below w.heap.size w w40) := ⟨h9_⟩
           clear HO_4
           clear HB
           clear h0_ h1_ h2_ h3_ h4_ h5_ h6_ h7_ h8_ h9_
           have HO_4 := n0_
           have BK209 := n1_
           have BK210 := n2_
           have GW209 := n3_
           have GE209 := n4_
           have NB210_209 := n5_
           have NB209_210 := n6_
           have GW210 := n7_
           have GE210 := n8_
           have HB := n9_
           clear n0_ n1_ n2_ n3_ n4_ n5_ n6_ n7_ n8_ n9_
           have hHeld : w40.cell? (ad207.add ((x5_1).toNat * 4)) = some (.string ((rd_T45 l0 x5_1).f0)) ∧ w40.cell? ⟨(ad207.add ((x5_1).toNat * 4)).block, (ad207.add ((x5_1).toNat * 4)).off + 1, none⟩ = some (.slice A207_1 ((rd_T45 l0 x5_1).f1.f0).length c207_1) ∧ w40.cell? ⟨(ad207.add ((x5_1).toNat * 4)).block, (ad207.add ((x5_1).toNat * 4)).off + 2, none⟩ = some (.int .i64 ((rd_T45 l0 x5_1).f1.f1)) ∧ w40.cell? ⟨(ad207.add ((x5_1).toNat * 4)).block, (ad207.add ((x5_1).toNat * 4)).off + 3, none⟩ = some (.int .i64 ((rd_T45 l0 x5_1).f1.f2)) ∧ w40.cell? (ad207.add ((x6_2).toNat * 4)) = some (.string ((rd_T45 l0 x6_2).f0)) ∧ w40.cell? ⟨(ad207.add ((x6_2).toNat * 4)).block, (ad207.add ((x6_2).toNat * 4)).off + 1, none⟩ = some (.slice A208_1 ((rd_T45 l0 x6_2).f1.f0).length c208_1) ∧ w40.cell? ⟨(ad207.add ((x6_2).toNat * 4)).block, (ad207.add ((x6_2).toNat * 4)).off + 2, none⟩ = some (.int .i64 ((rd_T45 l0 x6_2).f1.f1)) ∧ w40.cell? ⟨(ad207.add ((x6_2).toNat * 4)).block, (ad207.add ((x6_2).toNat * 4)).off + 3, none⟩ = some (.int .i64 ((rd_T45 l0 x6_2).f1.f2)) := hS_
           refine norm_ (a' := ?_) ?_ ?_
           rotate_left
           ·simp only [putAll, Act.put, List.setIfInBounds_toArray, List.set_cons_zero, List.set_cons_succ]
            rfl
           refine one_ (i := 12) (N := none) #[true, true, true, true, true, true, true, true, true, true, true, true, true, false] rfl rfl (one_of HT_.out (by kernel_rfl)) (by decide) (fun K hK => ?_)
           have hs41 : w40.cell? ⟨gb209, 0, none⟩ = some (.slice none 0 0) := (blk_cell BK209.out 0).trans rfl
           have hfs41 := blk_frozen BK209.out 0
           have hns41_1 := NB210_209.out
           have hms41_1 := NB209_210.out
           have hs42 : w40.cell? ⟨gb209, 1, none⟩ = some (.int .i64 0) := (blk_cell BK209.out 1).trans rfl
           have hfs42 := blk_frozen BK209.out 1
           have hns42_1 := NB210_209.out
           have hms42_1 := NB209_210.out
           have hs43 : w40.cell? ⟨gb209, 2, none⟩ = some (.int .i64 0) := (blk_cell BK209.out 2).trans rfl
           have hfs43 := blk_frozen BK209.out 2
           have hns43_1 := NB210_209.out
           have hms43_1 := NB209_210.out
           refine skip_ (w1 := ?_) (by rfl) rfl ?_ ?_
           rotate_left
           ·go_simp
            rfl
           refine hK.out _ _ ⟨((cell_far (p := ⟨gb209, _, none⟩) (ts56_ GW209.out) _).trans (((cell_far (p := ⟨gb209, _, none⟩) (ts56_ GW209.out) _).trans (((cell_far (p := ⟨gb209, _, none⟩) (ts56_ GW209.out) _).trans (hHeld.1)))))), ((cell_far (p := ⟨gb209, _, none⟩) (ts54_ GW209.out) _).trans (((cell_far (p := ⟨gb209, _, none⟩) (ts54_ GW209.out) _).trans (((cell_far (p := ⟨gb209, _, none⟩) (ts54_ GW209.out) _).trans (hHeld.2.1)))))), ((cell_far (p := ⟨gb209, _, none⟩) (ts39_ GW209.out) _).trans (((cell_far (p := ⟨gb209, _, none⟩) (ts39_ GW209.out) _).trans (((cell_far (p := ⟨gb209, _, none⟩) (ts39_ GW209.out) _).trans (hHeld.2.2.1)))))), ((cell_far (p := ⟨gb209, _, none⟩) (ts60_ GW209.out) _).trans (((cell_far (p := ⟨gb209, _, none⟩) (ts60_ GW209.out) _).trans (((cell_far (p := ⟨gb209, _, none⟩) (ts60_ GW209.out) _).trans (hHeld.2.2.2.1)))))), ((cell_far (p := ⟨gb209, _, none⟩) (ts43_ GW209.out) _).trans (((cell_far (p := ⟨gb209, _, none⟩) (ts43_ GW209.out) _).trans (((cell_far (p := ⟨gb209, _, none⟩) (ts43_ GW209.out) _).trans (hHeld.2.2.2.2.1)))))), ((cell_far (p := ⟨gb209, _, none⟩) (ts50_ GW209.out) _).trans (((cell_far (p := ⟨gb209, _, none⟩) (ts50_ GW209.out) _).trans (((cell_far (p := ⟨gb209, _, none⟩) (ts50_ GW209.out) _).trans (hHeld.2.2.2.2.2.1)))))), ((cell_far (p := ⟨gb209, _, none⟩) (ts47_ GW209.out) _).trans (((cell_far (p := ⟨gb209, _, none⟩) (ts47_ GW209.out) _).trans (((cell_far (p := ⟨gb209, _, none⟩) (ts47_ GW209.out) _).trans (hHeld.2.2.2.2.2.2.1)))))), ((cell_far (p := ⟨gb209, _, none⟩) (ts53_ GW209.out) _).trans (((cell_far (p := ⟨gb209, _, none⟩) (ts53_ GW209.out) _).trans (((cell_far (p := ⟨gb209, _, none⟩) (ts53_ GW209.out) _).trans (hHeld.2.2.2.2.2.2.2))))))⟩ (fun hHeld => ?_)
           clear hK K
           refine one_ (i := 13) (N := none) #[true, true, true, true, true, true, true, true, true, true, true, true, true, true] rfl rfl (one_of HT_.out (by kernel_rfl)) (by decide) (fun K hK => ?_)
           have hs44 : w40.cell? ⟨gb210, 0, none⟩ = some (.slice none 0 0) := (blk_cell BK210.out 0).trans rfl
           have hfs44 := blk_frozen BK210.out 0
           have hns44_0 := NB209_210.out
           have hms44_0 := NB210_209.out
           have hs45 : w40.cell? ⟨gb210, 1, none⟩ = some (.int .i64 0) := (blk_cell BK210.out 1).trans rfl
           have hfs45 := blk_frozen BK210.out 1
           have hns45_0 := NB209_210.out
           have hms45_0 := NB210_209.out
           have hs46 : w40.cell? ⟨gb210, 2, none⟩ = some (.int .i64 0) := (blk_cell BK210.out 2).trans rfl
           have hfs46 := blk_frozen BK210.out 2
           have hns46_0 := NB209_210.out
           have hms46_0 := NB210_209.out
           refine skip_ (w1 := ?_) (by rfl) rfl ?_ ?_
           rotate_left
           ·go_simp
            rfl
           refine hK.out _ _ ⟨((cell_far (p := ⟨gb210, _, none⟩) (ts56_ GW210.out) _).trans (((cell_far (p := ⟨gb210, _, none⟩) (ts56_ GW210.out) _).trans (((cell_far (p := ⟨gb210, _, none⟩) (ts56_ GW210.out) _).trans (hHeld.1)))))), ((cell_far (p := ⟨gb210, _, none⟩) (ts54_ GW210.out) _).trans (((cell_far (p := ⟨gb210, _, none⟩) (ts54_ GW210.out) _).trans (((cell_far (p := ⟨gb210, _, none⟩) (ts54_ GW210.out) _).trans (hHeld.2.1)))))), ((cell_far (p := ⟨gb210, _, none⟩) (ts39_ GW210.out) _).trans (((cell_far (p := ⟨gb210, _, none⟩) (ts39_ GW210.out) _).trans (((cell_far (p := ⟨gb210, _, none⟩) (ts39_ GW210.out) _).trans (hHeld.2.2.1)))))), ((cell_far (p := ⟨gb210, _, none⟩) (ts60_ GW210.out) _).trans (((cell_far (p := ⟨gb210, _, none⟩) (ts60_ GW210.out) _).trans (((cell_far (p := ⟨gb210, _, none⟩) (ts60_ GW210.out) _).trans (hHeld.2.2.2.1)))))), ((cell_far (p := ⟨gb210, _, none⟩) (ts43_ GW210.out) _).trans (((cell_far (p := ⟨gb210, _, none⟩) (ts43_ GW210.out) _).trans (((cell_far (p := ⟨gb210, _, none⟩) (ts43_ GW210.out) _).trans (hHeld.2.2.2.2.1)))))), ((cell_far (p := ⟨gb210, _, none⟩) (ts50_ GW210.out) _).trans (((cell_far (p := ⟨gb210, _, none⟩) (ts50_ GW210.out) _).trans (((cell_far (p := ⟨gb210, _, none⟩) (ts50_ GW210.out) _).trans (hHeld.2.2.2.2.2.1)))))), ((cell_far (p := ⟨gb210, _, none⟩) (ts47_ GW210.out) _).trans (((cell_far (p := ⟨gb210, _, none⟩) (ts47_ GW210.out) _).trans (((cell_far (p := ⟨gb210, _, none⟩) (ts47_ GW210.out) _).trans (hHeld.2.2.2.2.2.2.1)))))), ((cell_far (p := ⟨gb210, _, none⟩) (ts53_ GW210.out) _).trans (((cell_far (p := ⟨gb210, _, none⟩) (ts53_ GW210.out) _).trans (((cell_far (p := ⟨gb210, _, none⟩) (ts53_ GW210.out) _).trans (hHeld.2.2.2.2.2.2.2))))))⟩ (fun hHeld => ?_)
           clear hK K
           refine done_ (done_of HT_.out (by kernel_rfl)) ?_
           have hnb47 := NB209_210.out
           have hnc47 := NB210_209.out
           have hcz48_0 : w40.cell? ⟨gb209, 0, none⟩ = some (.slice none 0 0) := (blk_cell BK209.out 0).trans rfl
           have hcz48_1 : w40.cell? ⟨gb209, 1, none⟩ = some (.int .i64 0) := (blk_cell BK209.out 1).trans rfl
           have hcz48_2 : w40.cell? ⟨gb209, 2, none⟩ = some (.int .i64 0) := (blk_cell BK209.out 2).trans rfl
           have hfz48_0 := blk_frozen BK209.out 0
           have hfz48_1 := blk_frozen BK209.out 1
           have hfz48_2 := blk_frozen BK209.out 2
           have hcz49_0 : w40.cell? ⟨gb210, 0, none⟩ = some (.slice none 0 0) := (blk_cell BK210.out 0).trans rfl
           have hcz49_1 : w40.cell? ⟨gb210, 1, none⟩ = some (.int .i64 0) := (blk_cell BK210.out 1).trans rfl
           have hcz49_2 : w40.cell? ⟨gb210, 2, none⟩ = some (.int .i64 0) := (blk_cell BK210.out 2).trans rfl
           have hfz49_0 := blk_frozen BK210.out 0
           have hfz49_1 := blk_frozen BK210.out 1
           have hfz49_2 := blk_frozen BK210.out 2
           try go_wp2_with (first | (go_at_call 35; (with_reducible refine (cupelref10_Agree.calls k2 _ _ ((rd_T45 l0 x5_1).f1.f0) ((rd_T45 l0 x5_1).f1.f1) ((rd_T45 l0 x5_1).f1.f2) _ _ ((rd_T45 l0 x6_2).f1.f0) ((rd_T45 l0 x6_2).f1.f1) ((rd_T45 l0 x6_2).f1.f2) true _ ?side1 ?side2 ?side3 ?side4 A35.out).mono ?_); (case side1 => exact Kd.C_below HR207_1.out (ts27_ HB.out GE209.out GE210.out)); (case side2 => exact HC207_1.out); (case side3 => exact Kd.C_below HR208_1.out (ts27_ HB.out GE209.out GE210.out)); (case side4 => exact HC208_1.out); rintro e w50 ⟨rfl, hb⟩; replace HO_4 := Aside0.mk (Kd.R_below (ts7_ HO_4.out BK209.out BK210.out) hb); replace BK209 := Aside0.mk (blk_below (g := gb209) (o := .cells #[.slice A207_1 ((rd_T45 l0 x5_1).f1.f0).length c207_1, .int .i64 ((rd_T45 l0 x5_1).f1.f1), .int .i64 ((rd_T45 l0 x5_1).f1.f2)] 43 (0, 0)) (ts37_ NB209_210.out BK209.out) hb); replace BK210 := Aside0.mk (blk_below (g := gb210) (o := .cells #[.slice A208_1 ((rd_T45 l0 x6_2).f1.f0).length c208_1, .int .i64 ((rd_T45 l0 x6_2).f1.f1), .int .i64 ((rd_T45 l0 x6_2).f1.f2)] 43 (0, 0)) (ts11_ NB210_209.out BK210.out) hb); replace HB := Aside0.mk (below_step (ts27_ HB.out GE209.out GE210.out) hb); clear hb))
           go_roundg k2
           case measure => have := HK1.out; have := HK2.out; omega
           case rel => exact ⟨(x4_2), (wrap64 (x6_2 + 1)), ts34_, H', ⟨by have := HK1.out; have := HK2.out; omega⟩, ⟨ts22_ HO_4.out⟩, ⟨ts27_ HB.out GE209.out GE210.out⟩⟩
          replace c36 := Bool.eq_false_iff.mpr c36
          subst c36
          rw [if_neg Bool.false_ne_true] at H
          obtain ⟨⟨t212, t213⟩, A51, H⟩ := bsA_ H
          try dsimp only at H
          by_cases c52 : x4_2.length < 4398046511104
          ·rw [if_pos c52] at H
           have LMc52 := Aside0.mk c52
           clear c52
           obtain ⟨y214, hy214⟩ : ∃ y_ : List (S57), y_ = (x4_2 ++ [(⟨x5_1, x6_2, t212, t213⟩ : S57)]) := ⟨_, rfl⟩
           replace H : (cupelref26_Differ.l1 k2 l0 y214 x5_1 (wrap64 (x6_2 + 1))) = some (r1, r2) := by first | (rw [hy214]; with_reducible exact H) | (have H2_ := (Option.bind_some _ _).symm.trans H; rw [hy214]; with_reducible exact H2_) | (have H2_ := (Option.bind_some _ _).symm.trans H; with_reducible exact H2_) | with_reducible exact H | (rw [hy214]; exact H) | exact H
           have Ny214 := Aside0.mk hy214
           clear hy214
           have H' := Aside0.mk H
           clear H
           try go_wp2
           have n0_ := Aside0.mk (Kd.R_drew HO_4.out)
           have n1_ := Aside0.mk (below_drew1 HB.out)
           clear HO_4
           clear HB
           have HO_4 := n0_
           have HB := n1_
           clear n0_ n1_
           have p207 : 0 ≤ (x5_1 : Int) := of_decide_eq_true ts26_
           have q207 : x5_1 < (l0.length : Int) := of_decide_eq_true ts26_
           obtain ⟨ad207, A207_1, c207_1, e207, hx207_0, hx207_1, hx207_2, hx207_3, hl207_1, hi207_1⟩ := at_T45 HR0.out x5_1 p207 q207
           have hw207_3 := hx207_3
           have hw207_2 := hx207_2
           have hw207_1 := hx207_1
           have hw207_0 := hx207_0
           cases e207
           replace hx207_0 := (HB.out.cell (World.block_lt_of_cell? w _ hx207_0)).trans hx207_0
           replace hx207_1 := (HB.out.cell (World.block_lt_of_cell? w _ hx207_1)).trans hx207_1
           replace hx207_2 := (HB.out.cell (World.block_lt_of_cell? w _ hx207_2)).trans hx207_2
           replace hx207_3 := (HB.out.cell (World.block_lt_of_cell? w _ hx207_3)).trans hx207_3
           have HR207_1 := Aside0.mk hi207_1
           have HC207_1 := Aside0.mk hl207_1
           clear hi207_1 hl207_1
           replace p207 := eq_true p207
           replace q207 := eq_true q207
           have p208 : 0 ≤ (x6_2 : Int) := of_decide_eq_true ts26_
           have q208 : x6_2 < (l0.length : Int) := of_decide_eq_true ts26_
           obtain ⟨ad208, A208_1, c208_1, e208, hx208_0, hx208_1, hx208_2, hx208_3, hl208_1, hi208_1⟩ := at_T45 HR0.out x6_2 p208 q208
           have hw208_3 := hx208_3
           have hw208_2 := hx208_2
           have hw208_1 := hx208_1
           have hw208_0 := hx208_0
           obtain rfl : ad207 = ad208 := (by injection e208)
           replace hx208_0 := (HB.out.cell (World.block_lt_of_cell? w _ hx208_0)).trans hx208_0
           replace hx208_1 := (HB.out.cell (World.block_lt_of_cell? w _ hx208_1)).trans hx208_1
           replace hx208_2 := (HB.out.cell (World.block_lt_of_cell? w _ hx208_2)).trans hx208_2
           replace hx208_3 := (HB.out.cell (World.block_lt_of_cell? w _ hx208_3)).trans hx208_3
           have HR208_1 := Aside0.mk hi208_1
           have HC208_1 := Aside0.mk hl208_1
           clear hi208_1 hl208_1
           replace p208 := eq_true p208
           replace q208 := eq_true q208
           refine start_ (n := 14) (S := fun w' => w'.cell? (ad207.add ((x5_1).toNat * 4)) = some (.string ((rd_T45 l0 x5_1).f0)) ∧ w'.cell? ⟨(ad207.add ((x5_1).toNat * 4)).block, (ad207.add ((x5_1).toNat * 4)).off + 1, none⟩ = some (.slice A207_1 ((rd_T45 l0 x5_1).f1.f0).length c207_1) ∧ w'.cell? ⟨(ad207.add ((x5_1).toNat * 4)).block, (ad207.add ((x5_1).toNat * 4)).off + 2, none⟩ = some (.int .i64 ((rd_T45 l0 x5_1).f1.f1)) ∧ w'.cell? ⟨(ad207.add ((x5_1).toNat * 4)).block, (ad207.add ((x5_1).toNat * 4)).off + 3, none⟩ = some (.int .i64 ((rd_T45 l0 x5_1).f1.f2)) ∧ w'.cell? (ad207.add ((x6_2).toNat * 4)) = some (.string ((rd_T45 l0 x6_2).f0)) ∧ w'.cell? ⟨(ad207.add ((x6_2).toNat * 4)).block, (ad207.add ((x6_2).toNat * 4)).off + 1, none⟩ = some (.slice A208_1 ((rd_T45 l0 x6_2).f1.f0).length c208_1) ∧ w'.cell? ⟨(ad207.add ((x6_2).toNat * 4)).block, (ad207.add ((x6_2).toNat * 4)).off + 2, none⟩ = some (.int .i64 ((rd_T45 l0 x6_2).f1.f1)) ∧ w'.cell? ⟨(ad207.add ((x6_2).toNat * 4)).block, (ad207.add ((x6_2).toNat * 4)).off + 3, none⟩ = some (.int .i64 ((rd_T45 l0 x6_2).f1.f2))) (ds := []) #[false, false, false, false, false, false, false, false, false, false, false, false, false, false] (by kernel_rfl) rfl rfl ⟨((HB.out.cell (World.block_lt_of_cell? w _ hw207_0)).trans hw207_0), ((HB.out.cell (World.block_lt_of_cell? w _ hw207_1)).trans hw207_1), ((HB.out.cell (World.block_lt_of_cell? w _ hw207_2)).trans hw207_2), ((HB.out.cell (World.block_lt_of_cell? w _ hw207_3)).trans hw207_3), ((HB.out.cell (World.block_lt_of_cell? w _ hw208_0)).trans hw208_0), ((HB.out.cell (World.block_lt_of_cell? w _ hw208_1)).trans hw208_1), ((HB.out.cell (World.block_lt_of_cell? w _ hw208_2)).trans hw208_2), ((HB.out.cell (World.block_lt_of_cell? w _ hw208_3)).trans hw208_3)⟩ (fun hHeld => ?_); refine with_tabW cupelref26_Differ.tab10 cupelref26_Differ.bits10 (fun HT_ HW_ => ?_)
           generalize wr.drew = w53 at HO_4 HB HR207_1 HR208_1 hx207_0 hx207_1 hx207_2 hx207_3 hx208_0 hx208_1 hx208_2 hx208_3 hHeld ⊢
           refine pure_ (i := 0) (N := some 28) (v := ?_) (a' := ?_) #[true, false, false, false, false, false, false, false, false, false, false, false, false, false] rfl rfl (any_of HT_.out (by kernel_rfl)) (fun _ _ _ h => h) (Or.inl ⟨by rfl, ?_⟩) ?_ ?_
           rotate_left
           ·intro w'
            go_simp
            with_reducible rfl
           rotate_left
           ·simp only [Act.put, List.setIfInBounds_toArray, List.set_cons_zero, List.set_cons_succ, i64_w, i32_w]
            rfl
           refine pure_ (i := 1) (N := some 29) (v := ?_) (a' := ?_) #[true, true, false, false, false, false, false, false, false, false, false, false, false, false] rfl rfl (any_of HT_.out (by kernel_rfl)) (fun _ _ _ h => h) (Or.inl ⟨by rfl, ?_⟩) ?_ ?_
           rotate_left
           ·intro w'
            go_simp
            with_reducible rfl
           rotate_left
           ·simp only [Act.put, List.setIfInBounds_toArray, List.set_cons_zero, List.set_cons_succ, i64_w, i32_w]
            rfl
           refine pure_ (i := 2) (N := some 30) (v := ?_) (a' := ?_) #[true, true, true, false, false, false, false, false, false, false, false, false, false, false] rfl rfl (any_of HT_.out (by kernel_rfl)) (fun _ _ _ h => h) (Or.inl ⟨by rfl, ?_⟩) ?_ ?_
           rotate_left
           ·intro w'
            go_simp
            with_reducible rfl
           rotate_left
           ·simp only [Act.put, List.setIfInBounds_toArray, List.set_cons_zero, List.set_cons_succ, i64_w, i32_w]
            rfl
           refine pure_ (i := 3) (N := some 31) (v := ?_) (a' := ?_) #[true, true, true, true, false, false, false, false, false, false, false, false, false, false] rfl rfl (any_of HT_.out (by kernel_rfl)) (fun _ _ _ h => h) (Or.inl ⟨by rfl, ?_⟩) ?_ ?_
           rotate_left
           ·intro w'
            go_simp
            with_reducible rfl
           rotate_left
           ·simp only [Act.put, List.setIfInBounds_toArray, List.set_cons_zero, List.set_cons_succ, i64_w, i32_w]
            rfl
           refine pure_ (i := 5) (N := some 33) (v := ?_) (a' := ?_) #[true, true, true, true, false, true, false, false, false, false, false, false, false, false] rfl rfl (any_of HT_.out (by kernel_rfl)) (fun _ _ _ h => h) (Or.inl ⟨by rfl, ?_⟩) ?_ ?_
           rotate_left
           ·intro w'
            go_simp
            with_reducible rfl
           rotate_left
           ·simp only [Act.put, List.setIfInBounds_toArray, List.set_cons_zero, List.set_cons_succ, i64_w, i32_w]
            rfl
           refine pure_ (i := 6) (N := some 34) (v := ?_) (a' := ?_) #[true, true, true, true, false, true, true, false, false, false, false, false, false, false] rfl rfl (any_of HT_.out (by kernel_rfl)) (fun _ _ _ h => h) (Or.inl ⟨by rfl, ?_⟩) ?_ ?_
           rotate_left
           ·intro w'
            go_simp
            with_reducible rfl
           rotate_left
           ·simp only [Act.put, List.setIfInBounds_toArray, List.set_cons_zero, List.set_cons_succ, i64_w, i32_w]
            rfl
           refine pure_ (i := 7) (N := some 35) (v := ?_) (a' := ?_) #[true, true, true, true, false, true, true, true, false, false, false, false, false, false] rfl rfl (any_of HT_.out (by kernel_rfl)) (fun _ _ _ h => h) (Or.inl ⟨by rfl, ?_⟩) ?_ ?_
           rotate_left
           ·intro w'
            go_simp
            with_reducible rfl
           rotate_left
           ·simp only [Act.put, List.setIfInBounds_toArray, List.set_cons_zero, List.set_cons_succ, i64_w, i32_w]
            rfl
           refine pure_ (i := 8) (N := some 36) (v := ?_) (a' := ?_) #[true, true, true, true, false, true, true, true, true, false, false, false, false, false] rfl rfl (any_of HT_.out (by kernel_rfl)) (fun _ _ _ h => h) (Or.inl ⟨by rfl, ?_⟩) ?_ ?_
           rotate_left
           ·intro w'
            go_simp
            with_reducible rfl
           rotate_left
           ·simp only [Act.put, List.setIfInBounds_toArray, List.set_cons_zero, List.set_cons_succ, i64_w, i32_w]
            rfl
           refine take_ (i := 4) (N := some 32) (v := ?_) (a' := ?_) #[true, true, true, true, true, true, true, true, true, false, false, false, false, false] rfl rfl (take_ofW HT_.out HW_.out (by kernel_rfl)) (fun _ _ _ h => h) (Or.inl ⟨by rfl, ?_⟩) hHeld ?_ ?_
           rotate_left
           ·rintro w' ⟨s0, s1, s2, s3, s4, s5, s6, s7⟩
            go_simp
            with_reducible rfl
           rotate_left
           ·simp only [Act.put, List.setIfInBounds_toArray, List.set_cons_zero, List.set_cons_succ, i64_w, i32_w]
            rfl
           refine take_ (i := 9) (N := some 37) (v := ?_) (a' := ?_) #[true, true, true, true, true, true, true, true, true, true, false, false, false, false] rfl rfl (take_ofW HT_.out HW_.out (by kernel_rfl)) (fun _ _ _ h => h) (Or.inl ⟨by rfl, ?_⟩) hHeld ?_ ?_
           rotate_left
           ·rintro w' ⟨s0, s1, s2, s3, s4, s5, s6, s7⟩
            go_simp
            with_reducible rfl
           rotate_left
           ·simp only [Act.put, List.setIfInBounds_toArray, List.set_cons_zero, List.set_cons_succ, i64_w, i32_w]
            rfl
           refine join_ (σ := Nat × Nat) 2 #[true, true, true, true, true, true, true, true, true, true, true, true, false, false] (fun s_ => [(7, .pointer (some ⟨s_.1, 0, none⟩)), (8, .pointer (some ⟨s_.2, 0, none⟩))]) (fun s_ w' => (w'.cell? (ad207.add ((x5_1).toNat * 4)) = some (.string ((rd_T45 l0 x5_1).f0)) ∧ w'.cell? ⟨(ad207.add ((x5_1).toNat * 4)).block, (ad207.add ((x5_1).toNat * 4)).off + 1, none⟩ = some (.slice A207_1 ((rd_T45 l0 x5_1).f1.f0).length c207_1) ∧ w'.cell? ⟨(ad207.add ((x5_1).toNat * 4)).block, (ad207.add ((x5_1).toNat * 4)).off + 2, none⟩ = some (.int .i64 ((rd_T45 l0 x5_1).f1.f1)) ∧ w'.cell? ⟨(ad207.add ((x5_1).toNat * 4)).block, (ad207.add ((x5_1).toNat * 4)).off + 3, none⟩ = some (.int .i64 ((rd_T45 l0 x5_1).f1.f2)) ∧ w'.cell? (ad207.add ((x6_2).toNat * 4)) = some (.string ((rd_T45 l0 x6_2).f0)) ∧ w'.cell? ⟨(ad207.add ((x6_2).toNat * 4)).block, (ad207.add ((x6_2).toNat * 4)).off + 1, none⟩ = some (.slice A208_1 ((rd_T45 l0 x6_2).f1.f0).length c208_1) ∧ w'.cell? ⟨(ad207.add ((x6_2).toNat * 4)).block, (ad207.add ((x6_2).toNat * 4)).off + 2, none⟩ = some (.int .i64 ((rd_T45 l0 x6_2).f1.f1)) ∧ w'.cell? ⟨(ad207.add ((x6_2).toNat * 4)).block, (ad207.add ((x6_2).toNat * 4)).off + 3, none⟩ = some (.int .i64 ((rd_T45 l0 x6_2).f1.f2))) ∧ (Kd.R k57 57 w' w.heap.size (fun _ => True) u4 x4_2) ∧ (w'.heap[s_.1]? = some (.cells #[.slice none 0 0, .int .i64 0, .int .i64 0] 43 (0, 0))) ∧ (w'.heap[s_.2]? = some (.cells #[.slice none 0 0, .int .i64 0, .int .i64 0] 43 (0, 0))) ∧ (w.heap.size ≤ s_.1) ∧ (w.heap.size ≤ s_.1) ∧ (s_.2 ≠ s_.1) ∧ (s_.1 ≠ s_.2) ∧ (w.heap.size ≤ s_.2) ∧ (w.heap.size ≤ s_.2) ∧ (Below w.heap.size w w')) ?_ ?_
           rotate_left
           ·intro hCont
            refine two_ (i := 10) (j := 11) (Ni := some 7) (Nj := some 8) #[true, true, true, true, true, true, true, true, true, true, true, false, false, false] #[true, true, true, true, true, true, true, true, true, true, false, true, false, false] rfl rfl rfl rfl (two_of HT_.out (by kernel_rfl)) (by decide) (by decide) (fun K hK => ?_) (fun K hK => ?_)
            ·skip
             refine box_step ?hg (N := 7) ?hd (cs := #[.slice none 0 0, .int .i64 0, .int .i64 0]) (t := 43) ?hr ?_; (case hd => rfl); (case hg => rfl); (case hr => exact ts18_)
             intro gb209 hg w54 hbox hb
             have n0_ := Aside0.mk (Kd.R_below (ts22_ HO_4.out) hb)
             have n1_ := Aside0.mk (below_step (ts35_ HB.out) hb)
             have n2_ := Aside0.mk (hbox)
             have n3_ := Aside0.mk ((ts51_ HB.out : w.heap.size ≤ gb209))
             have n4_ := Aside0.mk ((ts51_ HB.out : w.heap.size ≤ gb209))
             clear HO_4
             clear HB
             have HO_4 := n0_
             have HB := n1_
             have BK209 := n2_
             have GW209 := n3_
             have GE209 := n4_
             clear n0_ n1_ n2_ n3_ n4_
             clear hb hbox hg
             refine hK.out _ _ ⟨((HB.out.cell (World.block_lt_of_cell? w _ hw207_0)).trans hw207_0), ((HB.out.cell (World.block_lt_of_cell? w _ hw207_1)).trans hw207_1), ((HB.out.cell (World.block_lt_of_cell? w _ hw207_2)).trans hw207_2), ((HB.out.cell (World.block_lt_of_cell? w _ hw207_3)).trans hw207_3), ((HB.out.cell (World.block_lt_of_cell? w _ hw208_0)).trans hw208_0), ((HB.out.cell (World.block_lt_of_cell? w _ hw208_1)).trans hw208_1), ((HB.out.cell (World.block_lt_of_cell? w _ hw208_2)).trans hw208_2), ((HB.out.cell (World.block_lt_of_cell? w _ hw208_3)).trans hw208_3)⟩ (fun hHeld => ?_)
             clear hK K
             refine norm_ (a' := ?_) ?_ ?_
             rotate_left
             ·show Act.put _ (some 7) _ = _
              simp only [Act.put, List.setIfInBounds_toArray, List.set_cons_zero, List.set_cons_succ, i64_w, i32_w]
              rfl
             refine one_ (i := 11) (N := some 8) #[true, true, true, true, true, true, true, true, true, true, true, true, false, false] rfl rfl (one_of HT_.out (by kernel_rfl)) (by decide) (fun K hK => ?_)
             refine box_step ?hg (N := 8) ?hd (cs := #[.slice none 0 0, .int .i64 0, .int .i64 0]) (t := 43) ?hr ?_; (case hd => rfl); (case hg => rfl); (case hr => exact ts18_)
             intro gb210 hg w55 hbox hb
             have n0_ := Aside0.mk (Kd.R_below (ts22_ HO_4.out) hb)
             have n1_ := Aside0.mk (blk_below (g := gb209) (o := .cells #[.slice none 0 0, .int .i64 0, .int .i64 0] 43 (0, 0)) (ts17_ BK209.out) hb)
             have n2_ := Aside0.mk (below_step (ts20_ HB.out GE209.out) hb)
             have n3_ := Aside0.mk (hbox)
             have n4_ := Aside0.mk ((ts45_ HB.out GE209.out : w.heap.size ≤ gb210))
             have n5_ := Aside0.mk ((ts45_ HB.out GE209.out : w.heap.size ≤ gb210))
             have n6_ := Aside0.mk ((ts59_ BK209.out : gb209 ≠ gb210))
             have n7_ := Aside0.mk ((ts40_ BK209.out : gb210 ≠ gb209))
             clear HO_4
             clear BK209
             clear HB
             have HO_4 := n0_
             have BK209 := n1_
             have HB := n2_
             have BK210 := n3_
             have GW210 := n4_
             have GE210 := n5_
             have NB209_210 := n6_
             have NB210_209 := n7_
             clear n0_ n1_ n2_ n3_ n4_ n5_ n6_ n7_
             clear hb hbox hg
             refine hK.out _ _ ⟨((HB.out.cell (World.block_lt_of_cell? w _ hw207_0)).trans hw207_0), ((HB.out.cell (World.block_lt_of_cell? w _ hw207_1)).trans hw207_1), ((HB.out.cell (World.block_lt_of_cell? w _ hw207_2)).trans hw207_2), ((HB.out.cell (World.block_lt_of_cell? w _ hw207_3)).trans hw207_3), ((HB.out.cell (World.block_lt_of_cell? w _ hw208_0)).trans hw208_0), ((HB.out.cell (World.block_lt_of_cell? w _ hw208_1)).trans hw208_1), ((HB.out.cell (World.block_lt_of_cell? w _ hw208_2)).trans hw208_2), ((HB.out.cell (World.block_lt_of_cell? w _ hw208_3)).trans hw208_3)⟩ (fun hHeld => ?_)
             clear hK K
             refine norm_ (a' := ?_) ?_ ?_
             rotate_left
             ·show Act.put _ (some 8) _ = _
              simp only [Act.put, List.setIfInBounds_toArray, List.set_cons_zero, List.set_cons_succ, i64_w, i32_w]
              rfl
             exact norm_ ts5_ (hCont (gb209, gb210) _ ⟨hHeld, (ts22_ HO_4.out), (ts17_ BK209.out), (ts17_ BK210.out), GW209.out, GE209.out, NB210_209.out, NB209_210.out, GW210.out, GE210.out, (ts27_ HB.out GE209.out GE210.out)⟩)
            skip
            refine box_step ?hg (N := 8) ?hd (cs := #[.slice none 0 0, .int .i64 0, .int .i64 0]) (t := 43) ?hr ?_; (case hd => rfl); (case hg => rfl); (case hr => exact ts18_)
            intro gb210 hg w54 hbox hb
            have n0_ := Aside0.mk (Kd.R_below (ts22_ HO_4.out) hb)
            have n1_ := Aside0.mk (below_step (ts35_ HB.out) hb)
            have n2_ := Aside0.mk (hbox)
            have n3_ := Aside0.mk ((ts51_ HB.out : w.heap.size ≤ gb210))
            have n4_ := Aside0.mk ((ts51_ HB.out : w.heap.size ≤ gb210))
            clear HO_4
            clear HB
            have HO_4 := n0_
            have HB := n1_
            have BK210 := n2_
            have GW210 := n3_
            have GE210 := n4_
            clear n0_ n1_ n2_ n3_ n4_
            clear hb hbox hg
            refine hK.out _ _ ⟨((HB.out.cell (World.block_lt_of_cell? w _ hw207_0)).trans hw207_0), ((HB.out.cell (World.block_lt_of_cell? w _ hw207_1)).trans hw207_1), ((HB.out.cell (World.block_lt_of_cell? w _ hw207_2)).trans hw207_2), ((HB.out.cell (World.block_lt_of_cell? w _ hw207_3)).trans hw207_3), ((HB.out.cell (World.block_lt_of_cell? w _ hw208_0)).trans hw208_0), ((HB.out.cell (World.block_lt_of_cell? w _ hw208_1)).trans hw208_1), ((HB.out.cell (World.block_lt_of_cell? w _ hw208_2)).trans hw208_2), ((HB.out.cell (World.block_lt_of_cell? w _ hw208_3)).trans hw208_3)⟩ (fun hHeld => ?_)
            clear hK K
            refine norm_ (a' := ?_) ?_ ?_
            rotate_left
            ·show Act.put _ (some 8) _ = _
             simp only [Act.put, List.setIfInBounds_toArray, List.set_cons_zero, List.set_cons_succ, i64_w, i32_w]
             rfl
            refine one_ (i := 10) (N := some 7) #[true, true, true, true, true, true, true, true, true, true, true, true, false, false] rfl rfl (one_of HT_.out (by kernel_rfl)) (by decide) (fun K hK => ?_)
            refine box_step ?hg (N := 7) ?hd (cs := #[.slice none 0 0, .int .i64 0, .int .i64 0]) (t := 43) ?hr ?_; (case hd => rfl); (case hg => rfl); (case hr => exact ts18_)
            intro gb209 hg w55 hbox hb
            have n0_ := Aside0.mk (Kd.R_below (ts22_ HO_4.out) hb)
            have n1_ := Aside0.mk (blk_below (g := gb210) (o := .cells #[.slice none 0 0, .int .i64 0, .int .i64 0] 43 (0, 0)) (ts17_ BK210.out) hb)
            have n2_ := Aside0.mk (below_step (ts20_ HB.out GE210.out) hb)
            have n3_ := Aside0.mk (hbox)
            have n4_ := Aside0.mk ((ts45_ HB.out GE210.out : w.heap.size ≤ gb209))
            have n5_ := Aside0.mk ((ts45_ HB.out GE210.out : w.heap.size ≤ gb209))
            have n6_ := Aside0.mk ((ts42_ BK210.out : gb210 ≠ gb209))
            have n7_ := Aside0.mk ((ts49_ BK210.out : gb209 ≠ gb210))
            clear HO_4
            clear BK210
            clear HB
            have HO_4 := n0_
            have BK210 := n1_
            have HB := n2_
            have BK209 := n3_
            have GW209 := n4_
            have GE209 := n5_
            have NB210_209 := n6_
            have NB209_210 := n7_
            clear n0_ n1_ n2_ n3_ n4_ n5_ n6_ n7_
            clear hb hbox hg
            refine hK.out _ _ ⟨((HB.out.cell (World.block_lt_of_cell? w _ hw207_0)).trans hw207_0), ((HB.out.cell (World.block_lt_of_cell? w _ hw207_1)).trans hw207_1), ((HB.out.cell (World.block_lt_of_cell? w _ hw207_2)).trans hw207_2), ((HB.out.cell (World.block_lt_of_cell? w _ hw207_3)).trans hw207_3), ((HB.out.cell (World.block_lt_of_cell? w _ hw208_0)).trans hw208_0), ((HB.out.cell (World.block_lt_of_cell? w _ hw208_1)).trans hw208_1), ((HB.out.cell (World.block_lt_of_cell? w _ hw208_2)).trans hw208_2), ((HB.out.cell (World.block_lt_of_cell? w _ hw208_3)).trans hw208_3)⟩ (fun hHeld => ?_)
            clear hK K
            refine norm_ (a' := ?_) ?_ ?_
            rotate_left
            ·show Act.put _ (some 7) _ = _
             simp only [Act.put, List.setIfInBounds_toArray, List.set_cons_zero, List.set_cons_succ, i64_w, i32_w]
             rfl
            exact norm_ ts5_ (hCont (gb209, gb210) _ ⟨hHeld, (ts22_ HO_4.out), (ts17_ BK209.out), (ts17_ BK210.out), GW209.out, GE209.out, NB210_209.out, NB209_210.out, GW210.out, GE210.out, (ts27_ HB.out GE210.out GE209.out)⟩)
           rintro ⟨gb209, gb210⟩ w56 ⟨hS_, h0_, h1_, h2_, h3_, h4_, h5_, h6_, h7_, h8_, h9_⟩
           have n0_ : Aside0 (Kd.R k57 57 w56 w.heap.size (fun _ => True) u4 x4_2) := ⟨h0_⟩
           have n1_ : Aside0 (w56.heap[gb209]? = some (.cells #[.slice none 0 0, .int .i64 0, .int .i64 0] 43 (0, 0))) := ⟨h1_⟩
           have n2_ : Aside0 (w56.heap[gb210]? = some (.cells #[.slice none 0 0, .int .i64 0, .int .i64 0] 43 (0, 0))) := ⟨h2_⟩
           have n3_ : Aside0 (w.heap.size ≤ gb209) := ⟨h3_⟩
           have n4_ : Aside0 (w.heap.size ≤ gb209) := ⟨h4_⟩
           have n5_ : Aside0 (gb210 ≠ gb209) := ⟨h5_⟩
           have n6_ : Aside0 (gb209 ≠ gb210) := ⟨h6_⟩
           have n7_ : Aside0 (w.heap.size ≤ gb210) := ⟨h7_⟩
           have n8_ : Aside0 (w.heap.size ≤ gb210) := ⟨h8_⟩
           have n9_ : Aside0 (Below w.heap.size w w56) := ⟨h9_⟩
           clear HO_4
           clear HB
           clear h0_ h1_ h2_ h3_ h4_ h5_ h6_ h7_ h8_ h9_
           have HO_4 := n0_
           have BK209 := n1_
           have BK210 := n2_
           have GW209 := n3_
           have GE209 := n4_
           have NB210_209 := n5_
           have NB209_210 := n6_
           have GW210 := n7_
           have GE210 := n8_
           have HB := n9_
           clear n0_ n1_ n2_ n3_ n4_ n5_ n6_ n7_ n8_ n9_
           have hHeld : w56.cell? (ad207.add ((x5_1).toNat * 4)) = some (.string ((rd_T45 l0 x5_1).f0)) ∧ w56.cell? ⟨(ad207.add ((x5_1).toNat * 4)).block, (ad207.add ((x5_1).toNat * 4)).off + 1, none⟩ = some (.slice A207_1 ((rd_T45 l0 x5_1).f1.f0).length c207_1) ∧ w56.cell? ⟨(ad207.add ((x5_1).toNat * 4)).block, (ad207.add ((x5_1).toNat * 4)).off + 2, none⟩ = some (.int .i64 ((rd_T45 l0 x5_1).f1.f1)) ∧ w56.cell? ⟨(ad207.add ((x5_1).toNat * 4)).block, (ad207.add ((x5_1).toNat * 4)).off + 3, none⟩ = some (.int .i64 ((rd_T45 l0 x5_1).f1.f2)) ∧ w56.cell? (ad207.add ((x6_2).toNat * 4)) = some (.string ((rd_T45 l0 x6_2).f0)) ∧ w56.cell? ⟨(ad207.add ((x6_2).toNat * 4)).block, (ad207.add ((x6_2).toNat * 4)).off + 1, none⟩ = some (.slice A208_1 ((rd_T45 l0 x6_2).f1.f0).length c208_1) ∧ w56.cell? ⟨(ad207.add ((x6_2).toNat * 4)).block, (ad207.add ((x6_2).toNat * 4)).off + 2, none⟩ = some (.int .i64 ((rd_T45 l0 x6_2).f1.f1)) ∧ w56.cell? ⟨(ad207.add ((x6_2).toNat * 4)).block, (ad207.add ((x6_2).toNat * 4)).off + 3, none⟩ = some (.int .i64 ((rd_T45 l0 x6_2).f1.f2)) := hS_
           refine norm_ (a' := ?_) ?_ ?_
           rotate_left
           ·simp only [putAll, Act.put, List.setIfInBounds_toArray, List.set_cons_zero, List.set_cons_succ]
            rfl
           refine one_ (i := 12) (N := none) #[true, true, true, true, true, true, true, true, true, true, true, true, true, false] rfl rfl (one_of HT_.out (by kernel_rfl)) (by decide) (fun K hK => ?_)
           have hs57 : w56.cell? ⟨gb209, 0, none⟩ = some (.slice none 0 0) := (blk_cell BK209.out 0).trans rfl
           have hfs57 := blk_frozen BK209.out 0
           have hns57_1 := NB210_209.out
           have hms57_1 := NB209_210.out
           have hs58 : w56.cell? ⟨gb209, 1, none⟩ = some (.int .i64 0) := (blk_cell BK209.out 1).trans rfl
           have hfs58 := blk_frozen BK209.out 1
           have hns58_1 := NB210_209.out
           have hms58_1 := NB209_210.out
           have hs59 : w56.cell? ⟨gb209, 2, none⟩ = some (.int .i64 0) := (blk_cell BK209.out 2).trans rfl
           have hfs59 := blk_frozen BK209.out 2
           have hns59_1 := NB210_209.out
           have hms59_1 := NB209_210.out
           refine skip_ (w1 := ?_) (by rfl) rfl ?_ ?_
           rotate_left
           ·go_simp
            rfl
           refine hK.out _ _ ⟨((cell_far (p := ⟨gb209, _, none⟩) (ts56_ GW209.out) _).trans (((cell_far (p := ⟨gb209, _, none⟩) (ts56_ GW209.out) _).trans (((cell_far (p := ⟨gb209, _, none⟩) (ts56_ GW209.out) _).trans (hHeld.1)))))), ((cell_far (p := ⟨gb209, _, none⟩) (ts54_ GW209.out) _).trans (((cell_far (p := ⟨gb209, _, none⟩) (ts54_ GW209.out) _).trans (((cell_far (p := ⟨gb209, _, none⟩) (ts54_ GW209.out) _).trans (hHeld.2.1)))))), ((cell_far (p := ⟨gb209, _, none⟩) (ts39_ GW209.out) _).trans (((cell_far (p := ⟨gb209, _, none⟩) (ts39_ GW209.out) _).trans (((cell_far (p := ⟨gb209, _, none⟩) (ts39_ GW209.out) _).trans (hHeld.2.2.1)))))), ((cell_far (p := ⟨gb209, _, none⟩) (ts60_ GW209.out) _).trans (((cell_far (p := ⟨gb209, _, none⟩) (ts60_ GW209.out) _).trans (((cell_far (p := ⟨gb209, _, none⟩) (ts60_ GW209.out) _).trans (hHeld.2.2.2.1)))))), ((cell_far (p := ⟨gb209, _, none⟩) (ts43_ GW209.out) _).trans (((cell_far (p := ⟨gb209, _, none⟩) (ts43_ GW209.out) _).trans (((cell_far (p := ⟨gb209, _, none⟩) (ts43_ GW209.out) _).trans (hHeld.2.2.2.2.1)))))), ((cell_far (p := ⟨gb209, _, none⟩) (ts50_ GW209.out) _).trans (((cell_far (p := ⟨gb209, _, none⟩) (ts50_ GW209.out) _).trans (((cell_far (p := ⟨gb209, _, none⟩) (ts50_ GW209.out) _).trans (hHeld.2.2.2.2.2.1)))))), ((cell_far (p := ⟨gb209, _, none⟩) (ts47_ GW209.out) _).trans (((cell_far (p := ⟨gb209, _, none⟩) (ts47_ GW209.out) _).trans (((cell_far (p := ⟨gb209, _, none⟩) (ts47_ GW209.out) _).trans (hHeld.2.2.2.2.2.2.1)))))), ((cell_far (p := ⟨gb209, _, none⟩) (ts53_ GW209.out) _).trans (((cell_far (p := ⟨gb209, _, none⟩) (ts53_ GW209.out) _).trans (((cell_far (p := ⟨gb209, _, none⟩) (ts53_ GW209.out) _).trans (hHeld.2.2.2.2.2.2.2))))))⟩ (fun hHeld => ?_)
           clear hK K
           refine one_ (i := 13) (N := none) #[true, true, true, true, true, true, true, true, true, true, true, true, true, true] rfl rfl (one_of HT_.out (by kernel_rfl)) (by decide) (fun K hK => ?_)
           have hs60 : w56.cell? ⟨gb210, 0, none⟩ = some (.slice none 0 0) := (blk_cell BK210.out 0).trans rfl
           have hfs60 := blk_frozen BK210.out 0
           have hns60_0 := NB209_210.out
           have hms60_0 := NB210_209.out
           have hs61 : w56.cell? ⟨gb210, 1, none⟩ = some (.int .i64 0) := (blk_cell BK210.out 1).trans rfl
           have hfs61 := blk_frozen BK210.out 1
           have hns61_0 := NB209_210.out
           have hms61_0 := NB210_209.out
           have hs62 : w56.cell? ⟨gb210, 2, none⟩ = some (.int .i64 0) := (blk_cell BK210.out 2).trans rfl
           have hfs62 := blk_frozen BK210.out 2
           have hns62_0 := NB209_210.out
           have hms62_0 := NB210_209.out
           refine skip_ (w1 := ?_) (by rfl) rfl ?_ ?_
           rotate_left
           ·go_simp
            rfl
           refine hK.out _ _ ⟨((cell_far (p := ⟨gb210, _, none⟩) (ts56_ GW210.out) _).trans (((cell_far (p := ⟨gb210, _, none⟩) (ts56_ GW210.out) _).trans (((cell_far (p := ⟨gb210, _, none⟩) (ts56_ GW210.out) _).trans (hHeld.1)))))), ((cell_far (p := ⟨gb210, _, none⟩) (ts54_ GW210.out) _).trans (((cell_far (p := ⟨gb210, _, none⟩) (ts54_ GW210.out) _).trans (((cell_far (p := ⟨gb210, _, none⟩) (ts54_ GW210.out) _).trans (hHeld.2.1)))))), ((cell_far (p := ⟨gb210, _, none⟩) (ts39_ GW210.out) _).trans (((cell_far (p := ⟨gb210, _, none⟩) (ts39_ GW210.out) _).trans (((cell_far (p := ⟨gb210, _, none⟩) (ts39_ GW210.out) _).trans (hHeld.2.2.1)))))), ((cell_far (p := ⟨gb210, _, none⟩) (ts60_ GW210.out) _).trans (((cell_far (p := ⟨gb210, _, none⟩) (ts60_ GW210.out) _).trans (((cell_far (p := ⟨gb210, _, none⟩) (ts60_ GW210.out) _).trans (hHeld.2.2.2.1)))))), ((cell_far (p := ⟨gb210, _, none⟩) (ts43_ GW210.out) _).trans (((cell_far (p := ⟨gb210, _, none⟩) (ts43_ GW210.out) _).trans (((cell_far (p := ⟨gb210, _, none⟩) (ts43_ GW210.out) _).trans (hHeld.2.2.2.2.1)))))), ((cell_far (p := ⟨gb210, _, none⟩) (ts50_ GW210.out) _).trans (((cell_far (p := ⟨gb210, _, none⟩) (ts50_ GW210.out) _).trans (((cell_far (p := ⟨gb210, _, none⟩) (ts50_ GW210.out) _).trans (hHeld.2.2.2.2.2.1)))))), ((cell_far (p := ⟨gb210, _, none⟩) (ts47_ GW210.out) _).trans (((cell_far (p := ⟨gb210, _, none⟩) (ts47_ GW210.out) _).trans (((cell_far (p := ⟨gb210, _, none⟩) (ts47_ GW210.out) _).trans (hHeld.2.2.2.2.2.2.1)))))), ((cell_far (p := ⟨gb210, _, none⟩) (ts53_ GW210.out) _).trans (((cell_far (p := ⟨gb210, _, none⟩) (ts53_ GW210.out) _).trans (((cell_far (p := ⟨gb210, _, none⟩) (ts53_ GW210.out) _).trans (hHeld.2.2.2.2.2.2.2))))))⟩ (fun hHeld => ?_)
           clear hK K
           refine done_ (done_of HT_.out (by kernel_rfl)) ?_
           have hnb63 := NB209_210.out
           have hnc63 := NB210_209.out
           have hcz64_0 : w56.cell? ⟨gb209, 0, none⟩ = some (.slice none 0 0) := (blk_cell BK209.out 0).trans rfl
           have hcz64_1 : w56.cell? ⟨gb209, 1, none⟩ = some (.int .i64 0) := (blk_cell BK209.out 1).trans rfl
           have hcz64_2 : w56.cell? ⟨gb209, 2, none⟩ = some (.int .i64 0) := (blk_cell BK209.out 2).trans rfl
           have hfz64_0 := blk_frozen BK209.out 0
           have hfz64_1 := blk_frozen BK209.out 1
           have hfz64_2 := blk_frozen BK209.out 2
           have hcz65_0 : w56.cell? ⟨gb210, 0, none⟩ = some (.slice none 0 0) := (blk_cell BK210.out 0).trans rfl
           have hcz65_1 : w56.cell? ⟨gb210, 1, none⟩ = some (.int .i64 0) := (blk_cell BK210.out 1).trans rfl
           have hcz65_2 : w56.cell? ⟨gb210, 2, none⟩ = some (.int .i64 0) := (blk_cell BK210.out 2).trans rfl
           have hfz65_0 := blk_frozen BK210.out 0
           have hfz65_1 := blk_frozen BK210.out 1
           have hfz65_2 := blk_frozen BK210.out 2
           try go_wp2_with (first | (go_at_call 35; (with_reducible refine (cupelref10_Agree.calls k2 _ _ ((rd_T45 l0 x5_1).f1.f0) ((rd_T45 l0 x5_1).f1.f1) ((rd_T45 l0 x5_1).f1.f2) _ _ ((rd_T45 l0 x6_2).f1.f0) ((rd_T45 l0 x6_2).f1.f1) ((rd_T45 l0 x6_2).f1.f2) false _ ?side1 ?side2 ?side3 ?side4 A35.out).mono ?_); (case side1 => exact Kd.C_below HR207_1.out (ts27_ HB.out GE209.out GE210.out)); (case side2 => exact HC207_1.out); (case side3 => exact Kd.C_below HR208_1.out (ts27_ HB.out GE209.out GE210.out)); (case side4 => exact HC208_1.out); rintro e w66 ⟨rfl, hb⟩; replace HO_4 := Aside0.mk (Kd.R_below (ts7_ HO_4.out BK209.out BK210.out) hb); replace BK209 := Aside0.mk (blk_below (g := gb209) (o := .cells #[.slice A207_1 ((rd_T45 l0 x5_1).f1.f0).length c207_1, .int .i64 ((rd_T45 l0 x5_1).f1.f1), .int .i64 ((rd_T45 l0 x5_1).f1.f2)] 43 (0, 0)) (ts37_ NB209_210.out BK209.out) hb); replace BK210 := Aside0.mk (blk_below (g := gb210) (o := .cells #[.slice A208_1 ((rd_T45 l0 x6_2).f1.f0).length c208_1, .int .i64 ((rd_T45 l0 x6_2).f1.f1), .int .i64 ((rd_T45 l0 x6_2).f1.f2)] 43 (0, 0)) (ts11_ NB210_209.out BK210.out) hb); replace HB := Aside0.mk (below_step (ts27_ HB.out GE209.out GE210.out) hb); clear hb; have hcz67_0 : w66.cell? ⟨gb209, 0, none⟩ = some (.slice A207_1 ((rd_T45 l0 x5_1).f1.f0).length c207_1) := (blk_cell BK209.out 0).trans rfl; have hcz67_1 : w66.cell? ⟨gb209, 1, none⟩ = some (.int .i64 ((rd_T45 l0 x5_1).f1.f1)) := (blk_cell BK209.out 1).trans rfl; have hcz67_2 : w66.cell? ⟨gb209, 2, none⟩ = some (.int .i64 ((rd_T45 l0 x5_1).f1.f2)) := (blk_cell BK209.out 2).trans rfl; have hfz67_0 := blk_frozen BK209.out 0; have hfz67_1 := blk_frozen BK209.out 1; have hfz67_2 := blk_frozen BK209.out 2; have hcz68_0 : w66.cell? ⟨gb210, 0, none⟩ = some (.slice A208_1 ((rd_T45 l0 x6_2).f1.f0).length c208_1) := (blk_cell BK210.out 0).trans rfl; have hcz68_1 : w66.cell? ⟨gb210, 1, none⟩ = some (.int .i64 ((rd_T45 l0 x6_2).f1.f1)) := (blk_cell BK210.out 1).trans rfl; have hcz68_2 : w66.cell? ⟨gb210, 2, none⟩ = some (.int .i64 ((rd_T45 l0 x6_2).f1.f2)) := (blk_cell BK210.out 2).trans rfl; have hfz68_0 := blk_frozen BK210.out 0; have hfz68_1 := blk_frozen BK210.out 1; have hfz68_2 := blk_frozen BK210.out 2) | ((with_reducible refine gate_callee (f := 36) rfl ?_); refine goesL_ (some 54) rfl rfl Tryd.func36 (by kernel_rfl) rfl #[.agg #[.slice A207_1 ((rd_T45 l0 x5_1).f1.f0).length c207_1, .int .i64 ((rd_T45 l0 x5_1).f1.f1), .int .i64 ((rd_T45 l0 x5_1).f1.f2)], .agg #[.slice A208_1 ((rd_T45 l0 x6_2).f1.f0).length c208_1, .int .i64 ((rd_T45 l0 x6_2).f1.f1), .int .i64 ((rd_T45 l0 x6_2).f1.f2)]] rfl ts8_ ?_; (with_reducible refine (cupelref26_differ.calls k2 _ _ ((rd_T45 l0 x5_1).f1.f0) ((rd_T45 l0 x5_1).f1.f1) ((rd_T45 l0 x5_1).f1.f2) _ _ ((rd_T45 l0 x6_2).f1.f0) ((rd_T45 l0 x6_2).f1.f1) ((rd_T45 l0 x6_2).f1.f2) t212 t213 _ ?side1 ?side2 ?side3 ?side4 A51.out).mono ?_); (case side1 => exact ts9_ HR207_1.out HB.out); (case side2 => exact HC207_1.out); (case side3 => exact ts9_ HR208_1.out HB.out); (case side4 => exact HC208_1.out); rintro e w69 ⟨rfl, hb⟩; refine ⟨_, rfl, ?_⟩; replace HO_4 := Aside0.mk (Kd.R_below (ts22_ HO_4.out) hb); replace BK209 := Aside0.mk (blk_below (g := gb209) (o := .cells #[.slice A207_1 ((rd_T45 l0 x5_1).f1.f0).length c207_1, .int .i64 ((rd_T45 l0 x5_1).f1.f1), .int .i64 ((rd_T45 l0 x5_1).f1.f2)] 43 (0, 0)) (ts17_ BK209.out) hb); replace BK210 := Aside0.mk (blk_below (g := gb210) (o := .cells #[.slice A208_1 ((rd_T45 l0 x6_2).f1.f0).length c208_1, .int .i64 ((rd_T45 l0 x6_2).f1.f1), .int .i64 ((rd_T45 l0 x6_2).f1.f2)] 43 (0, 0)) (ts17_ BK210.out) hb); replace HB := Aside0.mk (below_step (ts27_ HB.out GE209.out GE210.out) hb); clear hb) | ((with_reducible refine gate_builtin (b := .append) (xs := #[.tmp 57, .tmp 63]) rfl ?_); at_builtin; refine Kd.R_append k57 (w0 := w) w.heap.size rfl (.tmp 57) (.tmp 63) 47 57 (.agg #[(.int .i64 0), (.int .i64 0), (.int .i64 0), (.int .i64 0)]) 32 rfl Tryd.underlying47 info57 rfl (by decide) (by omega) u4 x4_2 (⟨x5_1, x6_2, t212, t213⟩ : S57) [.int .i64 x5_1, .int .i64 x6_2, .int .i64 t212, .int .i64 t213] (fun _ => True) (fun _ => False) rfl rfl ?aP (fun _ hk => hk.elim) ?aF ?aO ?aB ?aS ?aL ?_; (case aP => exact k57_mkM _ _ _ (⟨x5_1, x6_2, t212, t213⟩ : S57)); (case aB => exact (ts27_ HB.out GE209.out GE210.out)); (case aF => exact (fun _ _ => trivial)); (case aO => exact (ts22_ HO_4.out)); (case aS => exact (below_size (ts27_ HB.out GE209.out GE210.out))); (case aL => have := LMc52.out; omega); intro v215 w70 ho hb hg hat; rw [← Ny214.out] at ho; replace BK209 := Aside0.mk (blk_grown (g := gb209) (o := .cells #[.slice A207_1 ((rd_T45 l0 x5_1).f1.f0).length c207_1, .int .i64 ((rd_T45 l0 x5_1).f1.f1), .int .i64 ((rd_T45 l0 x5_1).f1.f2)] 43 (0, 0)) (ts17_ BK209.out) hg (Kd.R_ne HO_4.out BK209.out (by decide))); replace BK210 := Aside0.mk (blk_grown (g := gb210) (o := .cells #[.slice A208_1 ((rd_T45 l0 x6_2).f1.f0).length c208_1, .int .i64 ((rd_T45 l0 x6_2).f1.f1), .int .i64 ((rd_T45 l0 x6_2).f1.f2)] 43 (0, 0)) (ts17_ BK210.out) hg (Kd.R_ne HO_4.out BK210.out (by decide))); replace HB := Aside0.mk (hb); have HO216 := Aside0.mk (ho); clear HO_4; clear ho hb hg hat))
           go_roundg k2
           case measure => have := HK1.out; have := HK2.out; omega
           case rel => exact ⟨(y214), (wrap64 (x6_2 + 1)), ts34_, H', ⟨by have := HK1.out; have := HK2.out; omega⟩, ⟨ts22_ HO216.out⟩, ⟨ts27_ HB.out GE209.out GE210.out⟩⟩
          rw [if_neg c52] at H
          exact absurd H (by simp)
         rw [if_neg c7] at H
         exact absurd H (by simp)
        rw [if_neg c6] at H
        exact absurd H (by simp)
       rw [if_neg c5] at H
       exact absurd H (by simp)
      rw [if_neg c4] at H
      have c4b0 : decide (x6_2 < (l0.length : Int)) = false := decide_eq_false c4
      clear c4
      have H' := Aside0.mk H
      clear H
      go_wp2
      go_roundg k2
      case measure => have := HK1.out; have := HK2.out; omega
      case rel => exact ⟨(x4_2), (wrap64 (x5_1 + 1)), ts34_, H', ⟨by have := HK1.out; have := HK2.out; omega⟩, ⟨ts22_ HO_4.out⟩, ⟨ts35_ HB.out⟩⟩
   rw [if_neg c3] at H
   have c3b0 : decide (x5_1 < (l0.length : Int)) = false := decide_eq_false c3
   clear c3
   simp only [Option.some.injEq, Prod.mk.injEq] at H
   obtain ⟨rfl, rfl⟩ := H
   go_wp2
   go_ret2
   exact ⟨_, ts30_, ts22_ HO_4.out, ts35_ HB.out⟩
end Go.Proofs.YtndennmpnomjnaaDoor.A
