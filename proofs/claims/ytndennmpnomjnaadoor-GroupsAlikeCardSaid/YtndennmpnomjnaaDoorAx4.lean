/- Written by wip/tools/xprint.py, a program of this session that drives the kit's printer. Not trusted: Lean checks it. -/
import Derived.Test.YtndennmpnomjnaaDoorAx0
set_option linter.all false
set_option maxHeartbeats 8000000
set_option maxRecDepth 100000
namespace Go.Proofs.YtndennmpnomjnaaDoor.A
open Go.RowKit Go.Proofs.YtndennmpnomjnaaDoorW.PrintWords Go.Proofs.YtndennmpnomjnaaDoorW.PrintLast Go.Proofs.YtndennmpnomjnaaDoorW.PrintMore
attribute [local go_sem] max2_int min2_int max_two min_two max_three min_three max_four min_four   -- for this text's walks alone
set_option linter.unusedVariables false
set_option linter.unusedSimpArgs false
/-! ### cupelref26_differ: function 36 -/
def cupelref26_differ.l0 : Nat → Int → Int → List Int → Int → Int → List Int → Int → Int → Option (Int × Int)
 | 0, _, _, _, _, _, _, _, _ => none
 | k + 1, x6, x7, x204000, x204001, x204002, x205000, x205001, x205002 => if x7 < x6 then (if 0 ≤ x7 then (if x7 < (x204000.length : Int) then (if x7 < (x205000.length : Int) then (if (rd x204000 x7) = (rd x205000 x7) then (cupelref26_differ.l0 k x6 (wrap64 (x7 + 1)) x204000 x204001 x204002 x205000 x205001 x205002) else (some (1, x7))) else (none)) else (none)) else (none)) else (if (x204000.length : Int) = (x205000.length : Int) then (if x204001 = x205001 then (some (4, x6)) else (some (3, x6))) else (some (2, x6)))
def cupelref26_differ.f (k : Nat) (l0_0 : List Int) (a0_1 : Int) (a0_2 : Int) (l1_0 : List Int) (a1_1 : Int) (a1_2 : Int) : Option (Int × Int) := cupelref26_differ.l0 k (mn (l0_0.length : Int) (l1_0.length : Int)) 0 l0_0 a0_1 a0_2 l1_0 a1_1 a1_2
theorem cupelref26_differ.mono_l : ∀ k, (∀ y0 y1 y2 y3 y4 y5 y6 y7, LeO (cupelref26_differ.l0 k y0 y1 y2 y3 y4 y5 y6 y7) (cupelref26_differ.l0 (k + 1) y0 y1 y2 y3 y4 y5 y6 y7))
 | 0 => fun _ _ _ _ _ _ _ _ r h => by simp [cupelref26_differ.l0] at h
 | k + 1 => by
  have ih0 := cupelref26_differ.mono_l k
  ·intro y0 y1 y2 y3 y4 y5 y6 y7
   unfold cupelref26_differ.l0
   repeat' first
   | (with_reducible exact ih0 _ _ _ _ _ _ _ _)
   | (with_reducible exact LeO.refl _)
   | (with_reducible exact LeO.none _)
   | (with_reducible refine LeO.ite ?_ ?_)
   | (with_reducible refine LeO.bind ?_ (fun _ => ?_))
   | exact LeO.none _
   | refine LeO.ite ?_ ?_
   | refine LeO.bind ?_ (fun _ => ?_)
theorem cupelref26_differ.mono : ∀ a0 a1 a2 a3 a4 a5 k, LeO (cupelref26_differ.f k a0 a1 a2 a3 a4 a5) (cupelref26_differ.f (k + 1) a0 a1 a2 a3 a4 a5) := by
 intro a0 a1 a2 a3 a4 a5 k
 have ih0 := cupelref26_differ.mono_l k
 unfold cupelref26_differ.f
 repeat' first
   | (with_reducible exact ih0 _ _ _ _ _ _ _ _)
   | (with_reducible exact LeO.refl _)
   | (with_reducible exact LeO.none _)
   | (with_reducible refine LeO.ite ?_ ?_)
   | (with_reducible refine LeO.bind ?_ (fun _ => ?_))
   | exact LeO.none _
   | refine LeO.ite ?_ ?_
   | refine LeO.bind ?_ (fun _ => ?_)
theorem cupelref26_differ.calls (k : Nat) (A0_0 : Option Addr) (c0_0 : Nat) (l0_0 : List Int) (a0_1 : Int) (a0_2 : Int) (A1_0 : Option Addr) (c1_0 : Nat) (l1_0 : List Int) (a1_1 : Int) (a1_2 : Int) (r1 : Int) (r2 : Int) (w : World) (hr0_0 : Kd.C (Kd.int .i64) w A0_0 l0_0.length l0_0) (hc0_0 : l0_0.length ≤ c0_0) (hr1_0 : Kd.C (Kd.int .i64) w A1_0 l1_0.length l1_0) (hc1_0 : l1_0.length ≤ c1_0) (h : cupelref26_differ.f k l0_0 a0_1 a0_2 l1_0 a1_1 a1_2 = some (r1, r2)) :
  Calls Tryd.prog 36 #[.agg #[.slice A0_0 l0_0.length c0_0, .int .i64 a0_1, .int .i64 a0_2], .agg #[.slice A1_0 l1_0.length c1_0, .int .i64 a1_1, .int .i64 a1_2]] w fun e w' => e = .returned (.tuple #[.int .i64 r1, .int .i64 r2]) ∧ Below w.heap.size w w' := by
 have hu43 := Tryd.underlying43
 have HR0_0 := Aside0.mk hr0_0
 have HC0_0 := Aside0.mk hc0_0
 clear hr0_0 hc0_0
 have HR1_0 := Aside0.mk hr1_0
 have HC1_0 := Aside0.mk hc1_0
 clear hr1_0 hc1_0
 have HB := Aside0.mk (Below.refl w.heap.size w)
 have H : (cupelref26_differ.l0 k (mn (l0_0.length : Int) (l1_0.length : Int)) 0 l0_0 a0_1 a0_2 l1_0 a1_1 a1_2) = some (r1, r2) := h
 clear h
 obtain ⟨ji3, hji3⟩ : ∃ j_ : Int, (mn (l0_0.length : Int) (l1_0.length : Int)) = j_ := ⟨_, rfl⟩
 replace H : (cupelref26_differ.l0 k ji3 0 l0_0 a0_1 a0_2 l1_0 a1_1 a1_2) = some (r1, r2) := by first | (rw [hji3] at H; exact H) | (simp only [hji3] at H ⊢; exact H)
 (try (have hji3l : 0 ≤ ji3 := by (rw [← hji3]; unfold mn; (repeat' split) <;> omega)))
 (try (have hji3m : 0 ≤ ji3 := by omega))
 have hji3_ : (if (l1_0.length : Int) < (l0_0.length : Int) then (l1_0.length : Int) else (l0_0.length : Int)) = ji3 := hji3
 have hji3_n : (if l1_0.length < l0_0.length then (l1_0.length : Int) else (l0_0.length : Int)) = ji3 := by rw [← hji3_]; simp only [Int.ofNat_lt]
 have H' := Aside0.mk H
 clear H
 go_enter Tryd.func36, Tryd.ntmps36
 go_wp2_with (first | ((with_reducible refine gate_dst (N := 2) rfl ?_); refine box_event ?hg (N := 2) ?hd (cs := #[.slice A0_0 l0_0.length c0_0, .int .i64 a0_1, .int .i64 a0_2]) (t := 43) ?hr ?_; (case hd => rfl); (case hg => rfl); (case hr => exact ts18_); intro gb203 hg w4 hbox hb; have BK203 := Aside0.mk (hbox); have GW203 := Aside0.mk ((ts51_ HB.out : w.heap.size ≤ gb203)); have GE203 := Aside0.mk ((ts51_ HB.out : w.heap.size ≤ gb203)); replace HB := Aside0.mk (below_step (ts35_ HB.out) hb); clear hb hbox hg) | ((with_reducible refine gate_dst (N := 3) rfl ?_); refine box_event ?hg (N := 3) ?hd (cs := #[.slice A1_0 l1_0.length c1_0, .int .i64 a1_1, .int .i64 a1_2]) (t := 43) ?hr ?_; (case hd => rfl); (case hg => rfl); (case hr => exact ts18_); intro gb204 hg w5 hbox hb; have BK204 := Aside0.mk (hbox); have GW204 := Aside0.mk ((ts45_ HB.out GE203.out : w.heap.size ≤ gb204)); have GE204 := Aside0.mk ((ts45_ HB.out GE203.out : w.heap.size ≤ gb204)); replace HB := Aside0.mk (below_step (ts20_ HB.out GE203.out) hb); have NB203_204 := Aside0.mk ((ts55_ BK203.out : gb203 ≠ gb204)); have NB204_203 := Aside0.mk ((ts48_ BK203.out : gb204 ≠ gb203)); replace BK203 := Aside0.mk (blk_below (g := gb203) (o := .cells #[.slice A0_0 l0_0.length c0_0, .int .i64 a0_1, .int .i64 a0_2] 43 (0, 0)) (ts17_ BK203.out) hb); clear hb hbox hg; have hnb6 := NB203_204.out; have hnc6 := NB204_203.out; have hcz7_0 : w5.cell? ⟨gb203, 0, none⟩ = some (.slice A0_0 l0_0.length c0_0) := (blk_cell BK203.out 0).trans rfl; have hcz7_1 : w5.cell? ⟨gb203, 1, none⟩ = some (.int .i64 a0_1) := (blk_cell BK203.out 1).trans rfl; have hcz7_2 : w5.cell? ⟨gb203, 2, none⟩ = some (.int .i64 a0_2) := (blk_cell BK203.out 2).trans rfl; have hfz7_0 := blk_frozen BK203.out 0; have hfz7_1 := blk_frozen BK203.out 1; have hfz7_2 := blk_frozen BK203.out 2; have hcz8_0 : w5.cell? ⟨gb204, 0, none⟩ = some (.slice A1_0 l1_0.length c1_0) := (blk_cell BK204.out 0).trans rfl; have hcz8_1 : w5.cell? ⟨gb204, 1, none⟩ = some (.int .i64 a1_1) := (blk_cell BK204.out 1).trans rfl; have hcz8_2 : w5.cell? ⟨gb204, 2, none⟩ = some (.int .i64 a1_2) := (blk_cell BK204.out 2).trans rfl; have hfz8_0 := blk_frozen BK204.out 0; have hfz8_1 := blk_frozen BK204.out 1; have hfz8_2 := blk_frozen BK204.out 2))
 repeat (go_quiet (first | ((with_reducible refine gate_dst (N := 2) rfl ?_); refine box_event ?hg (N := 2) ?hd (cs := #[.slice A0_0 l0_0.length c0_0, .int .i64 a0_1, .int .i64 a0_2]) (t := 43) ?hr ?_; (case hd => rfl); (case hg => rfl); (case hr => exact ts18_); intro gb203 hg w4 hbox hb; have BK203 := Aside0.mk (hbox); have GW203 := Aside0.mk ((ts51_ HB.out : w.heap.size ≤ gb203)); have GE203 := Aside0.mk ((ts51_ HB.out : w.heap.size ≤ gb203)); replace HB := Aside0.mk (below_step (ts35_ HB.out) hb); clear hb hbox hg) | ((with_reducible refine gate_dst (N := 3) rfl ?_); refine box_event ?hg (N := 3) ?hd (cs := #[.slice A1_0 l1_0.length c1_0, .int .i64 a1_1, .int .i64 a1_2]) (t := 43) ?hr ?_; (case hd => rfl); (case hg => rfl); (case hr => exact ts18_); intro gb204 hg w5 hbox hb; have BK204 := Aside0.mk (hbox); have GW204 := Aside0.mk ((ts45_ HB.out GE203.out : w.heap.size ≤ gb204)); have GE204 := Aside0.mk ((ts45_ HB.out GE203.out : w.heap.size ≤ gb204)); replace HB := Aside0.mk (below_step (ts20_ HB.out GE203.out) hb); have NB203_204 := Aside0.mk ((ts55_ BK203.out : gb203 ≠ gb204)); have NB204_203 := Aside0.mk ((ts48_ BK203.out : gb204 ≠ gb203)); replace BK203 := Aside0.mk (blk_below (g := gb203) (o := .cells #[.slice A0_0 l0_0.length c0_0, .int .i64 a0_1, .int .i64 a0_2] 43 (0, 0)) (ts17_ BK203.out) hb); clear hb hbox hg; have hnb6 := NB203_204.out; have hnc6 := NB204_203.out; have hcz7_0 : w5.cell? ⟨gb203, 0, none⟩ = some (.slice A0_0 l0_0.length c0_0) := (blk_cell BK203.out 0).trans rfl; have hcz7_1 : w5.cell? ⟨gb203, 1, none⟩ = some (.int .i64 a0_1) := (blk_cell BK203.out 1).trans rfl; have hcz7_2 : w5.cell? ⟨gb203, 2, none⟩ = some (.int .i64 a0_2) := (blk_cell BK203.out 2).trans rfl; have hfz7_0 := blk_frozen BK203.out 0; have hfz7_1 := blk_frozen BK203.out 1; have hfz7_2 := blk_frozen BK203.out 2; have hcz8_0 : w5.cell? ⟨gb204, 0, none⟩ = some (.slice A1_0 l1_0.length c1_0) := (blk_cell BK204.out 0).trans rfl; have hcz8_1 : w5.cell? ⟨gb204, 1, none⟩ = some (.int .i64 a1_1) := (blk_cell BK204.out 1).trans rfl; have hcz8_2 : w5.cell? ⟨gb204, 2, none⟩ = some (.int .i64 a1_2) := (blk_cell BK204.out 2).trans rfl; have hfz8_0 := blk_frozen BK204.out 0; have hfz8_1 := blk_frozen BK204.out 1; have hfz8_2 := blk_frozen BK204.out 2)); try go_wp2_with (first | ((with_reducible refine gate_dst (N := 2) rfl ?_); refine box_event ?hg (N := 2) ?hd (cs := #[.slice A0_0 l0_0.length c0_0, .int .i64 a0_1, .int .i64 a0_2]) (t := 43) ?hr ?_; (case hd => rfl); (case hg => rfl); (case hr => exact ts18_); intro gb203 hg w4 hbox hb; have BK203 := Aside0.mk (hbox); have GW203 := Aside0.mk ((ts51_ HB.out : w.heap.size ≤ gb203)); have GE203 := Aside0.mk ((ts51_ HB.out : w.heap.size ≤ gb203)); replace HB := Aside0.mk (below_step (ts35_ HB.out) hb); clear hb hbox hg) | ((with_reducible refine gate_dst (N := 3) rfl ?_); refine box_event ?hg (N := 3) ?hd (cs := #[.slice A1_0 l1_0.length c1_0, .int .i64 a1_1, .int .i64 a1_2]) (t := 43) ?hr ?_; (case hd => rfl); (case hg => rfl); (case hr => exact ts18_); intro gb204 hg w5 hbox hb; have BK204 := Aside0.mk (hbox); have GW204 := Aside0.mk ((ts45_ HB.out GE203.out : w.heap.size ≤ gb204)); have GE204 := Aside0.mk ((ts45_ HB.out GE203.out : w.heap.size ≤ gb204)); replace HB := Aside0.mk (below_step (ts20_ HB.out GE203.out) hb); have NB203_204 := Aside0.mk ((ts55_ BK203.out : gb203 ≠ gb204)); have NB204_203 := Aside0.mk ((ts48_ BK203.out : gb204 ≠ gb203)); replace BK203 := Aside0.mk (blk_below (g := gb203) (o := .cells #[.slice A0_0 l0_0.length c0_0, .int .i64 a0_1, .int .i64 a0_2] 43 (0, 0)) (ts17_ BK203.out) hb); clear hb hbox hg; have hnb6 := NB203_204.out; have hnc6 := NB204_203.out; have hcz7_0 : w5.cell? ⟨gb203, 0, none⟩ = some (.slice A0_0 l0_0.length c0_0) := (blk_cell BK203.out 0).trans rfl; have hcz7_1 : w5.cell? ⟨gb203, 1, none⟩ = some (.int .i64 a0_1) := (blk_cell BK203.out 1).trans rfl; have hcz7_2 : w5.cell? ⟨gb203, 2, none⟩ = some (.int .i64 a0_2) := (blk_cell BK203.out 2).trans rfl; have hfz7_0 := blk_frozen BK203.out 0; have hfz7_1 := blk_frozen BK203.out 1; have hfz7_2 := blk_frozen BK203.out 2; have hcz8_0 : w5.cell? ⟨gb204, 0, none⟩ = some (.slice A1_0 l1_0.length c1_0) := (blk_cell BK204.out 0).trans rfl; have hcz8_1 : w5.cell? ⟨gb204, 1, none⟩ = some (.int .i64 a1_1) := (blk_cell BK204.out 1).trans rfl; have hcz8_2 : w5.cell? ⟨gb204, 2, none⟩ = some (.int .i64 a1_2) := (blk_cell BK204.out 2).trans rfl; have hfz8_0 := blk_frozen BK204.out 0; have hfz8_1 := blk_frozen BK204.out 1; have hfz8_2 := blk_frozen BK204.out 2)))
 go_loopg [7] k (fun kq v7 w' => ∃ (x7_1 : Int), v7 = .int .i64 x7_1 ∧ Aside0 (cupelref26_differ.l0 kq ji3 x7_1 l0_0 a0_1 a0_2 l1_0 a1_1 a1_2 = some (r1, r2)) ∧ Aside0 (kq ≤ k) ∧ Aside0 (w'.heap[gb203]? = some (.cells #[(.slice A0_0 l0_0.length c0_0), .int .i64 a0_1, .int .i64 a0_2] 43 (0, 0))) ∧ Aside0 (w'.heap[gb204]? = some (.cells #[(.slice A1_0 l1_0.length c1_0), .int .i64 a1_1, .int .i64 a1_2] 43 (0, 0))) ∧ Aside0 (Below w.heap.size w w'))
 case atStart => exact ⟨(0), ts34_, H', ⟨Nat.le_refl _⟩, ⟨ts17_ BK203.out⟩, ⟨ts17_ BK204.out⟩, ⟨ts27_ HB.out GE203.out GE204.out⟩⟩
 case round =>
  clear H'
  try clear c1
  try clear p2
  try clear c3
  try clear c6
  try clear hcz7_0
  try clear hcz7_1
  try clear hcz7_2
  try clear hcz8_0
  try clear hcz8_1
  try clear hcz8_2
  try clear hfz7_0
  try clear hfz7_1
  try clear hfz7_2
  try clear hfz8_0
  try clear hfz8_1
  try clear hfz8_2
  obtain ⟨x7_1, rfl, HA, HK1, BK203, BK204, HB⟩ := hrel
  cases gk with
  | zero => exact absurd HA.out (by simp [cupelref26_differ.l0])
  | succ k1 =>
   have H := HA.out
   clear HA
   simp only [cupelref26_differ.l0] at H
   by_cases c9 : x7_1 < ji3
   ·rw [if_pos c9] at H
    have c9b0 : decide (x7_1 < ji3) = true := decide_eq_true c9
    clear c9
    by_cases c10 : 0 ≤ x7_1
    ·rw [if_pos c10] at H
     have c10b0 : decide (0 ≤ x7_1) = true := decide_eq_true c10
     clear c10
     by_cases c11 : x7_1 < (l0_0.length : Int)
     ·rw [if_pos c11] at H
      have c11b0 : decide (x7_1 < (l0_0.length : Int)) = true := decide_eq_true c11
      clear c11
      by_cases c12 : x7_1 < (l1_0.length : Int)
      ·rw [if_pos c12] at H
       have c12b0 : decide (x7_1 < (l1_0.length : Int)) = true := decide_eq_true c12
       clear c12
       by_cases c13 : (rd l0_0 x7_1) = (rd l1_0 x7_1)
       ·rw [if_pos c13] at H
        have c13b0 : ((rd l0_0 x7_1) == (rd l1_0 x7_1)) = true := beq_iff_eq.mpr c13
        have c13b1 : ((rd l0_0 x7_1) != (rd l1_0 x7_1)) = false := bne_eq_false_iff_eq.mpr c13
        clear c13
        have H' := Aside0.mk H
        clear H
        have hnb14 := NB203_204.out
        have hnc14 := NB204_203.out
        have hcz15_0 : wr.cell? ⟨gb203, 0, none⟩ = some (.slice A0_0 l0_0.length c0_0) := (blk_cell BK203.out 0).trans rfl
        have hcz15_1 : wr.cell? ⟨gb203, 1, none⟩ = some (.int .i64 a0_1) := (blk_cell BK203.out 1).trans rfl
        have hcz15_2 : wr.cell? ⟨gb203, 2, none⟩ = some (.int .i64 a0_2) := (blk_cell BK203.out 2).trans rfl
        have hfz15_0 := blk_frozen BK203.out 0
        have hfz15_1 := blk_frozen BK203.out 1
        have hfz15_2 := blk_frozen BK203.out 2
        have p205 : 0 ≤ (x7_1 : Int) := of_decide_eq_true ts26_
        have q205 : x7_1 < (l0_0.length : Int) := of_decide_eq_true ts26_
        obtain ⟨ad205, e205, hx205_0⟩ := Kd.at_int HR0_0.out x7_1 p205 q205
        cases e205
        replace hx205_0 := (HB.out.cell (World.block_lt_of_cell? w _ hx205_0)).trans hx205_0
        replace p205 := eq_true p205
        replace q205 := eq_true q205
        have hcz16_0 : wr.cell? ⟨gb204, 0, none⟩ = some (.slice A1_0 l1_0.length c1_0) := (blk_cell BK204.out 0).trans rfl
        have hcz16_1 : wr.cell? ⟨gb204, 1, none⟩ = some (.int .i64 a1_1) := (blk_cell BK204.out 1).trans rfl
        have hcz16_2 : wr.cell? ⟨gb204, 2, none⟩ = some (.int .i64 a1_2) := (blk_cell BK204.out 2).trans rfl
        have hfz16_0 := blk_frozen BK204.out 0
        have hfz16_1 := blk_frozen BK204.out 1
        have hfz16_2 := blk_frozen BK204.out 2
        have p206 : 0 ≤ (x7_1 : Int) := of_decide_eq_true ts26_
        have q206 : x7_1 < (l1_0.length : Int) := of_decide_eq_true ts26_
        obtain ⟨ad206, e206, hx206_0⟩ := Kd.at_int HR1_0.out x7_1 p206 q206
        cases e206
        replace hx206_0 := (HB.out.cell (World.block_lt_of_cell? w _ hx206_0)).trans hx206_0
        replace p206 := eq_true p206
        replace q206 := eq_true q206
        go_wp2
        repeat (go_quiet (fail); try go_wp2)
        go_roundg k1
        case measure => have := HK1.out; omega
        case rel => exact ⟨(wrap64 (x7_1 + 1)), ts34_, H', ⟨by have := HK1.out; omega⟩, ⟨ts17_ BK203.out⟩, ⟨ts17_ BK204.out⟩, ⟨ts27_ HB.out GE203.out GE204.out⟩⟩
       rw [if_neg c13] at H
       have c13b0 : ((rd l0_0 x7_1) == (rd l1_0 x7_1)) = false := beq_eq_false_iff_ne.mpr c13
       have c13b1 : ((rd l0_0 x7_1) != (rd l1_0 x7_1)) = true := bne_iff_ne.mpr c13
       simp only [Option.some.injEq, Prod.mk.injEq] at H
       obtain ⟨rfl, rfl⟩ := H
       have hnb17 := NB203_204.out
       have hnc17 := NB204_203.out
       have hcz18_0 : wr.cell? ⟨gb203, 0, none⟩ = some (.slice A0_0 l0_0.length c0_0) := (blk_cell BK203.out 0).trans rfl
       have hcz18_1 : wr.cell? ⟨gb203, 1, none⟩ = some (.int .i64 a0_1) := (blk_cell BK203.out 1).trans rfl
       have hcz18_2 : wr.cell? ⟨gb203, 2, none⟩ = some (.int .i64 a0_2) := (blk_cell BK203.out 2).trans rfl
       have hfz18_0 := blk_frozen BK203.out 0
       have hfz18_1 := blk_frozen BK203.out 1
       have hfz18_2 := blk_frozen BK203.out 2
       have p205 : 0 ≤ (x7_1 : Int) := of_decide_eq_true ts26_
       have q205 : x7_1 < (l0_0.length : Int) := of_decide_eq_true ts26_
       obtain ⟨ad205, e205, hx205_0⟩ := Kd.at_int HR0_0.out x7_1 p205 q205
       cases e205
       replace hx205_0 := (HB.out.cell (World.block_lt_of_cell? w _ hx205_0)).trans hx205_0
       replace p205 := eq_true p205
       replace q205 := eq_true q205
       have hcz19_0 : wr.cell? ⟨gb204, 0, none⟩ = some (.slice A1_0 l1_0.length c1_0) := (blk_cell BK204.out 0).trans rfl
       have hcz19_1 : wr.cell? ⟨gb204, 1, none⟩ = some (.int .i64 a1_1) := (blk_cell BK204.out 1).trans rfl
       have hcz19_2 : wr.cell? ⟨gb204, 2, none⟩ = some (.int .i64 a1_2) := (blk_cell BK204.out 2).trans rfl
       have hfz19_0 := blk_frozen BK204.out 0
       have hfz19_1 := blk_frozen BK204.out 1
       have hfz19_2 := blk_frozen BK204.out 2
       have p206 : 0 ≤ (x7_1 : Int) := of_decide_eq_true ts26_
       have q206 : x7_1 < (l1_0.length : Int) := of_decide_eq_true ts26_
       obtain ⟨ad206, e206, hx206_0⟩ := Kd.at_int HR1_0.out x7_1 p206 q206
       cases e206
       replace hx206_0 := (HB.out.cell (World.block_lt_of_cell? w _ hx206_0)).trans hx206_0
       replace p206 := eq_true p206
       replace q206 := eq_true q206
       go_wp2
       repeat (go_quiet (fail); try go_wp2)
       go_ret2
       exact ⟨ts23_, ts27_ HB.out GE203.out GE204.out⟩
      rw [if_neg c12] at H
      exact absurd H (by simp)
     rw [if_neg c11] at H
     exact absurd H (by simp)
    rw [if_neg c10] at H
    exact absurd H (by simp)
   rw [if_neg c9] at H
   have c9b0 : decide (x7_1 < ji3) = false := decide_eq_false c9
   clear c9
   by_cases c20 : (l0_0.length : Int) = (l1_0.length : Int)
   ·rw [if_pos c20] at H
    have c20b0 : ((l0_0.length : Int) == (l1_0.length : Int)) = true := beq_iff_eq.mpr c20
    have c20b1 : ((l0_0.length : Int) != (l1_0.length : Int)) = false := bne_eq_false_iff_eq.mpr c20
    have c20b2 : (l0_0.length == l1_0.length) = true := by first | simpa using c20 | (simp at c20 ⊢; omega)
    clear c20
    by_cases c21 : a0_1 = a1_1
    ·rw [if_pos c21] at H
     have c21b0 : (a0_1 == a1_1) = true := beq_iff_eq.mpr c21
     have c21b1 : (a0_1 != a1_1) = false := bne_eq_false_iff_eq.mpr c21
     clear c21
     simp only [Option.some.injEq, Prod.mk.injEq] at H
     obtain ⟨rfl, rfl⟩ := H
     have hnb22 := NB203_204.out
     have hnc22 := NB204_203.out
     have hcz23_0 : wr.cell? ⟨gb203, 0, none⟩ = some (.slice A0_0 l0_0.length c0_0) := (blk_cell BK203.out 0).trans rfl
     have hcz23_1 : wr.cell? ⟨gb203, 1, none⟩ = some (.int .i64 a0_1) := (blk_cell BK203.out 1).trans rfl
     have hcz23_2 : wr.cell? ⟨gb203, 2, none⟩ = some (.int .i64 a0_2) := (blk_cell BK203.out 2).trans rfl
     have hfz23_0 := blk_frozen BK203.out 0
     have hfz23_1 := blk_frozen BK203.out 1
     have hfz23_2 := blk_frozen BK203.out 2
     have hcz24_0 : wr.cell? ⟨gb204, 0, none⟩ = some (.slice A1_0 l1_0.length c1_0) := (blk_cell BK204.out 0).trans rfl
     have hcz24_1 : wr.cell? ⟨gb204, 1, none⟩ = some (.int .i64 a1_1) := (blk_cell BK204.out 1).trans rfl
     have hcz24_2 : wr.cell? ⟨gb204, 2, none⟩ = some (.int .i64 a1_2) := (blk_cell BK204.out 2).trans rfl
     have hfz24_0 := blk_frozen BK204.out 0
     have hfz24_1 := blk_frozen BK204.out 1
     have hfz24_2 := blk_frozen BK204.out 2
     go_wp2
     repeat (go_quiet (fail); try go_wp2)
     go_ret2
     exact ⟨ts23_, ts27_ HB.out GE203.out GE204.out⟩
    rw [if_neg c21] at H
    have c21b0 : (a0_1 == a1_1) = false := beq_eq_false_iff_ne.mpr c21
    have c21b1 : (a0_1 != a1_1) = true := bne_iff_ne.mpr c21
    simp only [Option.some.injEq, Prod.mk.injEq] at H
    obtain ⟨rfl, rfl⟩ := H
    have hnb25 := NB203_204.out
    have hnc25 := NB204_203.out
    have hcz26_0 : wr.cell? ⟨gb203, 0, none⟩ = some (.slice A0_0 l0_0.length c0_0) := (blk_cell BK203.out 0).trans rfl
    have hcz26_1 : wr.cell? ⟨gb203, 1, none⟩ = some (.int .i64 a0_1) := (blk_cell BK203.out 1).trans rfl
    have hcz26_2 : wr.cell? ⟨gb203, 2, none⟩ = some (.int .i64 a0_2) := (blk_cell BK203.out 2).trans rfl
    have hfz26_0 := blk_frozen BK203.out 0
    have hfz26_1 := blk_frozen BK203.out 1
    have hfz26_2 := blk_frozen BK203.out 2
    have hcz27_0 : wr.cell? ⟨gb204, 0, none⟩ = some (.slice A1_0 l1_0.length c1_0) := (blk_cell BK204.out 0).trans rfl
    have hcz27_1 : wr.cell? ⟨gb204, 1, none⟩ = some (.int .i64 a1_1) := (blk_cell BK204.out 1).trans rfl
    have hcz27_2 : wr.cell? ⟨gb204, 2, none⟩ = some (.int .i64 a1_2) := (blk_cell BK204.out 2).trans rfl
    have hfz27_0 := blk_frozen BK204.out 0
    have hfz27_1 := blk_frozen BK204.out 1
    have hfz27_2 := blk_frozen BK204.out 2
    go_wp2
    repeat (go_quiet (fail); try go_wp2)
    go_ret2
    exact ⟨ts23_, ts27_ HB.out GE203.out GE204.out⟩
   rw [if_neg c20] at H
   have c20b0 : ((l0_0.length : Int) == (l1_0.length : Int)) = false := beq_eq_false_iff_ne.mpr c20
   have c20b1 : ((l0_0.length : Int) != (l1_0.length : Int)) = true := bne_iff_ne.mpr c20
   have c20b2 : (l0_0.length == l1_0.length) = false := by first | simpa using c20 | (simp at c20 ⊢; omega)
   simp only [Option.some.injEq, Prod.mk.injEq] at H
   obtain ⟨rfl, rfl⟩ := H
   have hnb28 := NB203_204.out
   have hnc28 := NB204_203.out
   have hcz29_0 : wr.cell? ⟨gb203, 0, none⟩ = some (.slice A0_0 l0_0.length c0_0) := (blk_cell BK203.out 0).trans rfl
   have hcz29_1 : wr.cell? ⟨gb203, 1, none⟩ = some (.int .i64 a0_1) := (blk_cell BK203.out 1).trans rfl
   have hcz29_2 : wr.cell? ⟨gb203, 2, none⟩ = some (.int .i64 a0_2) := (blk_cell BK203.out 2).trans rfl
   have hfz29_0 := blk_frozen BK203.out 0
   have hfz29_1 := blk_frozen BK203.out 1
   have hfz29_2 := blk_frozen BK203.out 2
   have hcz30_0 : wr.cell? ⟨gb204, 0, none⟩ = some (.slice A1_0 l1_0.length c1_0) := (blk_cell BK204.out 0).trans rfl
   have hcz30_1 : wr.cell? ⟨gb204, 1, none⟩ = some (.int .i64 a1_1) := (blk_cell BK204.out 1).trans rfl
   have hcz30_2 : wr.cell? ⟨gb204, 2, none⟩ = some (.int .i64 a1_2) := (blk_cell BK204.out 2).trans rfl
   have hfz30_0 := blk_frozen BK204.out 0
   have hfz30_1 := blk_frozen BK204.out 1
   have hfz30_2 := blk_frozen BK204.out 2
   go_wp2
   repeat (go_quiet (fail); try go_wp2)
   go_ret2
   exact ⟨ts23_, ts27_ HB.out GE203.out GE204.out⟩
end Go.Proofs.YtndennmpnomjnaaDoor.A
