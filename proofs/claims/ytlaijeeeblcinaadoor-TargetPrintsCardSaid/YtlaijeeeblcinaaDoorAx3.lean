/- Written by wip/tools/xprint.py, a program of this session that drives the kit's printer. Not trusted: Lean checks it. -/
import Derived.Test.YtlaijeeeblcinaaDoorAx0
import Derived.Test.YtlaijeeeblcinaaDoorAx2
set_option linter.all false
set_option maxHeartbeats 8000000
set_option maxRecDepth 100000
namespace Go.Proofs.YtlaijeeeblcinaaDoor.A
open Go.RowKit Go.Proofs.YtlaijeeeblcinaaDoorW.PrintWords Go.Proofs.YtlaijeeeblcinaaDoorW.PrintLast Go.Proofs.YtlaijeeeblcinaaDoorW.PrintMore
attribute [local go_sem] max2_int min2_int max_two min_two max_three min_three max_four min_four   -- for this text's walks alone
set_option linter.unusedVariables false
set_option linter.unusedSimpArgs false
/-! ### cupelref20_Decode: function 16 -/
mutual
def cupelref20_Decode.j0 : Nat → List Int → Int → Bool → Option (Int × Int × Int × Int × Int × Int × Int)
 | 0, _, _, _ => none
 | k + 1, x0, x1, x17 => if x17 = true then (some (0, 0, 0, 0, 0, 0, 2)) else (if 0 ≤ x1 then (if x1 < (x0.length : Int) then (if (wrap64 (Go.bits .and .u64 (rd x0 x1) 255)) = 3 then (cupelref20_Decode.j1 k x0 x1 (wrap64 (x1 + 1)) (decide ((wrap64 (x1 + 1)) < (x0.length : Int))) (wrap64 (Go.bits .and .u64 (rd x0 x1) 255)) (wrap64 (Go.bits .and .u64 ((rd x0 x1) / 256) 15)) (wrap64 (Go.bits .and .u64 ((rd x0 x1) / 4096) 15)) (wrap64 (Go.bits .and .u64 ((rd x0 x1) / 65536) 15)) ((wrap64 (rd x0 x1)) / 4294967296)) else (cupelref20_Decode.j1 k x0 x1 (wrap64 (x1 + 1)) false (wrap64 (Go.bits .and .u64 (rd x0 x1) 255)) (wrap64 (Go.bits .and .u64 ((rd x0 x1) / 256) 15)) (wrap64 (Go.bits .and .u64 ((rd x0 x1) / 4096) 15)) (wrap64 (Go.bits .and .u64 ((rd x0 x1) / 65536) 15)) ((wrap64 (rd x0 x1)) / 4294967296))) else (none)) else (none))
def cupelref20_Decode.j1 : Nat → List Int → Int → Int → Bool → Int → Int → Int → Int → Int → Option (Int × Int × Int × Int × Int × Int × Int)
 | 0, _, _, _, _, _, _, _, _, _ => none
 | k + 1, x0, x1, x5, x52, x184000, x184001, x184002, x184003, x184004 => if x52 = true then (if 0 ≤ x5 then (if x5 < (x0.length : Int) then (cupelref20_Decode.j2 k x0 x1 (wrap64 (x5 + 1)) x184000 x184001 x184002 x184003 (wrap64 (rd x0 x5))) else (none)) else (none)) else (if x184000 = 3 then (some (0, 0, 0, 0, 0, 0, 6)) else (cupelref20_Decode.j2 k x0 x1 x5 x184000 x184001 x184002 x184003 x184004))
def cupelref20_Decode.j2 : Nat → List Int → Int → Int → Int → Int → Int → Int → Int → Option (Int × Int × Int × Int × Int × Int × Int)
 | 0, _, _, _, _, _, _, _, _ => none
 | k + 1, x0, x1, x5, x184000, x184001, x184002, x184003, x184004 => (cupelref20_Valid.f x184000 x184001 x184002 x184003 x184004).bind fun t186 => (if t186 = true then ((cupelref20_words.f x184000 x184001 x184002 x184003 x184004).bind fun t187 => (cupelref20_Decode.l0 k x0 x1 x5 t187 0 x184000 x184001 x184002 x184003 x184004)) else (some (0, 0, 0, 0, 0, 0, 6)))
def cupelref20_Decode.l0 : Nat → List Int → Int → Int → List Int → Int → Int → Int → Int → Int → Int → Option (Int × Int × Int × Int × Int × Int × Int)
 | 0, _, _, _, _, _, _, _, _, _, _ => none
 | k + 1, x0, x1, x5, x8, x9, x184000, x184001, x184002, x184003, x184004 => if x9 < (x8.length : Int) then (if 0 ≤ x9 then (if 0 ≤ (wrap64 (x1 + x9)) then (if (wrap64 (x1 + x9)) < (x0.length : Int) then (if (rd x8 x9) = (rd x0 (wrap64 (x1 + x9))) then (cupelref20_Decode.l0 k x0 x1 x5 x8 (wrap64 (x9 + 1)) x184000 x184001 x184002 x184003 x184004) else (some (0, 0, 0, 0, 0, 0, 6))) else (none)) else (none)) else (none)) else (some (x184000, x184001, x184002, x184003, x184004, x5, 0))
end
def cupelref20_Decode.f (k : Nat) (l0 : List Int) (a1 : Int) : Option (Int × Int × Int × Int × Int × Int × Int) := if a1 < 0 then (cupelref20_Decode.j0 k l0 a1 true) else (cupelref20_Decode.j0 k l0 a1 (decide (a1 ≥ (l0.length : Int))))
theorem cupelref20_Decode.mono_l : ∀ k, (∀ y0 y1 y2, LeO (cupelref20_Decode.j0 k y0 y1 y2) (cupelref20_Decode.j0 (k + 1) y0 y1 y2)) ∧ (∀ y0 y1 y2 y3 y4 y5 y6 y7 y8, LeO (cupelref20_Decode.j1 k y0 y1 y2 y3 y4 y5 y6 y7 y8) (cupelref20_Decode.j1 (k + 1) y0 y1 y2 y3 y4 y5 y6 y7 y8)) ∧ (∀ y0 y1 y2 y3 y4 y5 y6 y7, LeO (cupelref20_Decode.j2 k y0 y1 y2 y3 y4 y5 y6 y7) (cupelref20_Decode.j2 (k + 1) y0 y1 y2 y3 y4 y5 y6 y7)) ∧ (∀ y0 y1 y2 y3 y4 y5 y6 y7 y8 y9, LeO (cupelref20_Decode.l0 k y0 y1 y2 y3 y4 y5 y6 y7 y8 y9) (cupelref20_Decode.l0 (k + 1) y0 y1 y2 y3 y4 y5 y6 y7 y8 y9))
 | 0 => ⟨fun _ _ _ r h => by simp [cupelref20_Decode.j0] at h, fun _ _ _ _ _ _ _ _ _ r h => by simp [cupelref20_Decode.j1] at h, fun _ _ _ _ _ _ _ _ r h => by simp [cupelref20_Decode.j2] at h, fun _ _ _ _ _ _ _ _ _ _ r h => by simp [cupelref20_Decode.l0] at h⟩
 | k + 1 => by
  obtain ⟨ih0, ih1, ih2, ih3⟩ := cupelref20_Decode.mono_l k
  refine ⟨?_, ?_, ?_, ?_⟩
  ·intro y0 y1 y2
   unfold cupelref20_Decode.j0
   repeat' first
   | (with_reducible exact ih0 _ _ _)
   | (with_reducible exact ih1 _ _ _ _ _ _ _ _ _)
   | (with_reducible exact ih2 _ _ _ _ _ _ _ _)
   | (with_reducible exact ih3 _ _ _ _ _ _ _ _ _ _)
   | (with_reducible exact LeO.refl _)
   | (with_reducible exact LeO.none _)
   | (with_reducible refine LeO.ite ?_ ?_)
   | (with_reducible refine LeO.bind ?_ (fun _ => ?_))
   | exact LeO.none _
   | refine LeO.ite ?_ ?_
   | refine LeO.bind ?_ (fun _ => ?_)
  ·intro y0 y1 y2 y3 y4 y5 y6 y7 y8
   unfold cupelref20_Decode.j1
   repeat' first
   | (with_reducible exact ih0 _ _ _)
   | (with_reducible exact ih1 _ _ _ _ _ _ _ _ _)
   | (with_reducible exact ih2 _ _ _ _ _ _ _ _)
   | (with_reducible exact ih3 _ _ _ _ _ _ _ _ _ _)
   | (with_reducible exact LeO.refl _)
   | (with_reducible exact LeO.none _)
   | (with_reducible refine LeO.ite ?_ ?_)
   | (with_reducible refine LeO.bind ?_ (fun _ => ?_))
   | exact LeO.none _
   | refine LeO.ite ?_ ?_
   | refine LeO.bind ?_ (fun _ => ?_)
  ·intro y0 y1 y2 y3 y4 y5 y6 y7
   unfold cupelref20_Decode.j2
   repeat' first
   | (with_reducible exact ih0 _ _ _)
   | (with_reducible exact ih1 _ _ _ _ _ _ _ _ _)
   | (with_reducible exact ih2 _ _ _ _ _ _ _ _)
   | (with_reducible exact ih3 _ _ _ _ _ _ _ _ _ _)
   | (with_reducible exact LeO.refl _)
   | (with_reducible exact LeO.none _)
   | (with_reducible refine LeO.ite ?_ ?_)
   | (with_reducible refine LeO.bind ?_ (fun _ => ?_))
   | exact LeO.none _
   | refine LeO.ite ?_ ?_
   | refine LeO.bind ?_ (fun _ => ?_)
  intro y0 y1 y2 y3 y4 y5 y6 y7 y8 y9
  unfold cupelref20_Decode.l0
  repeat' first
  | (with_reducible exact ih0 _ _ _)
  | (with_reducible exact ih1 _ _ _ _ _ _ _ _ _)
  | (with_reducible exact ih2 _ _ _ _ _ _ _ _)
  | (with_reducible exact ih3 _ _ _ _ _ _ _ _ _ _)
  | (with_reducible exact LeO.refl _)
  | (with_reducible exact LeO.none _)
  | (with_reducible refine LeO.ite ?_ ?_)
  | (with_reducible refine LeO.bind ?_ (fun _ => ?_))
  | exact LeO.none _
  | refine LeO.ite ?_ ?_
  | refine LeO.bind ?_ (fun _ => ?_)
theorem cupelref20_Decode.mono : ∀ a0 a1 k, LeO (cupelref20_Decode.f k a0 a1) (cupelref20_Decode.f (k + 1) a0 a1) := by
 intro a0 a1 k
 obtain ⟨ih0, ih1, ih2, ih3⟩ := cupelref20_Decode.mono_l k
 unfold cupelref20_Decode.f
 repeat' first
   | (with_reducible exact ih0 _ _ _)
   | (with_reducible exact ih1 _ _ _ _ _ _ _ _ _)
   | (with_reducible exact ih2 _ _ _ _ _ _ _ _)
   | (with_reducible exact ih3 _ _ _ _ _ _ _ _ _ _)
   | (with_reducible exact LeO.refl _)
   | (with_reducible exact LeO.none _)
   | (with_reducible refine LeO.ite ?_ ?_)
   | (with_reducible refine LeO.bind ?_ (fun _ => ?_))
   | exact LeO.none _
   | refine LeO.ite ?_ ?_
   | refine LeO.bind ?_ (fun _ => ?_)
theorem cupelref20_Decode.calls (k : Nat) (A0 : Option Addr) (c0 : Nat) (l0 : List Int) (a1 : Int) (r1 : Int) (r2 : Int) (r3 : Int) (r4 : Int) (r5 : Int) (r6 : Int) (r7 : Int) (w : World) (hr0 : Kd.C (Kd.int .u64) w A0 l0.length l0) (hc0 : l0.length ≤ c0) (h : cupelref20_Decode.f k l0 a1 = some (r1, r2, r3, r4, r5, r6, r7)) :
  Calls Tryd.prog 16 #[.slice A0 l0.length c0, .int .i64 a1] w fun e w' => e = .returned (.tuple #[.agg #[.int .i64 r1, .int .i64 r2, .int .i64 r3, .int .i64 r4, .int .i64 r5], .int .i64 r6, .int .i64 r7]) ∧ Below w.heap.size w w' := by
 have hu26 := Tryd.underlying26
 have HR0 := Aside0.mk hr0
 have HC0 := Aside0.mk hc0
 clear hr0 hc0
 have HB := Aside0.mk (Below.refl w.heap.size w)
 have H : (if a1 < 0 then (cupelref20_Decode.j0 k l0 a1 true) else (cupelref20_Decode.j0 k l0 a1 (decide (a1 ≥ (l0.length : Int))))) = some (r1, r2, r3, r4, r5, r6, r7) := h
 clear h
 have HC3 := Aside0.mk H
 clear H
 go_enter Tryd.func16, Tryd.ntmps16
 go_upto_region 1 with (first | ((with_reducible refine gate_dst (N := 4) rfl ?_); (try (refine gate_guard (by rfl) ?_; dsimp only)); refine box_event ?hg (N := 4) ?hd (cs := #[.int .i64 0, .int .i64 0, .int .i64 0, .int .i64 0, .int .i64 0]) (t := 26) ?hr ?_; (case hd => rfl); (case hg => rfl); (case hr => exact ts15_); intro gb183 hg w4 hbox hb; have BK183 := Aside0.mk (hbox); have GW183 := Aside0.mk ((ts45_ HB.out : w.heap.size ≤ gb183)); have GE183 := Aside0.mk ((ts45_ HB.out : w.heap.size ≤ gb183)); replace HB := Aside0.mk (below_step (ts34_ HB.out) hb); clear hb hbox hg))
 repeat (go_quiet (first | ((with_reducible refine gate_dst (N := 4) rfl ?_); (try (refine gate_guard (by rfl) ?_; dsimp only)); refine box_event ?hg (N := 4) ?hd (cs := #[.int .i64 0, .int .i64 0, .int .i64 0, .int .i64 0, .int .i64 0]) (t := 26) ?hr ?_; (case hd => rfl); (case hg => rfl); (case hr => exact ts15_); intro gb183 hg w4 hbox hb; have BK183 := Aside0.mk (hbox); have GW183 := Aside0.mk ((ts45_ HB.out : w.heap.size ≤ gb183)); have GE183 := Aside0.mk ((ts45_ HB.out : w.heap.size ≤ gb183)); replace HB := Aside0.mk (below_step (ts34_ HB.out) hb); clear hb hbox hg)); go_upto_region 1 with (first | ((with_reducible refine gate_dst (N := 4) rfl ?_); (try (refine gate_guard (by rfl) ?_; dsimp only)); refine box_event ?hg (N := 4) ?hd (cs := #[.int .i64 0, .int .i64 0, .int .i64 0, .int .i64 0, .int .i64 0]) (t := 26) ?hr ?_; (case hd => rfl); (case hg => rfl); (case hr => exact ts15_); intro gb183 hg w4 hbox hb; have BK183 := Aside0.mk (hbox); have GW183 := Aside0.mk ((ts45_ HB.out : w.heap.size ≤ gb183)); have GE183 := Aside0.mk ((ts45_ HB.out : w.heap.size ≤ gb183)); replace HB := Aside0.mk (below_step (ts34_ HB.out) hb); clear hb hbox hg)))
 (try simp only [Act.put, List.setIfInBounds_toArray, List.set_cons_zero, List.set_cons_succ])
 go_cut [17] (fun v17 wc => ∃ (kq : Nat) (x17_2 : Bool), v17 = .bool x17_2 ∧ Aside0 (cupelref20_Decode.j0 kq l0 a1 x17_2 = some (r1, r2, r3, r4, r5, r6, r7)) ∧ Aside0 (kq ≤ k) ∧ Aside0 (wc.heap[gb183]? = some (.cells #[.int .i64 0, .int .i64 0, .int .i64 0, .int .i64 0, .int .i64 0] 26 (0, 0))) ∧ Aside0 (Below w.heap.size w wc))
 case first =>
  have H := HC3.out
  clear HC3
  by_cases c5 : a1 < 0
  ·rw [if_pos c5] at H
   have c5b0 : decide (a1 < 0) = true := decide_eq_true c5
   clear c5
   (first | rw [c5b0] | (simp only [i64_w, i32_w]; rw [c5b0]) | skip)
   have H' := Aside0.mk H
   clear H
   go_wp2
   repeat (go_quiet (fail); try go_wp2)
   go_meet
   case rel => exact ⟨_, (true), ts32_, H', ⟨ts3_⟩, ⟨ts14_ BK183.out⟩, ⟨ts17_ HB.out GE183.out⟩⟩
  rw [if_neg c5] at H
  have c5b0 : decide (a1 < 0) = false := decide_eq_false c5
  clear c5
  (first | rw [c5b0] | (simp only [i64_w, i32_w]; rw [c5b0]) | skip)
  have H' := Aside0.mk H
  clear H
  go_wp2
  repeat (go_quiet (fail); try go_wp2)
  go_meet
  case rel => exact ⟨_, (decide (a1 ≥ (l0.length : Int))), ts32_, H', ⟨ts3_⟩, ⟨ts14_ BK183.out⟩, ⟨ts17_ HB.out GE183.out⟩⟩
 case rest =>
  clear HC3
  try clear c1
  try clear p2
  try clear c5
  try clear c5b0
  obtain ⟨kq, x17_2, rfl, HA, HJ2, BK183, HB⟩ := hcut
  cases kq with
  | zero => exact absurd HA.out (by simp [cupelref20_Decode.j0])
  | succ kj2 =>
   have H := HA.out
   clear HA
   simp only [cupelref20_Decode.j0] at H
   by_cases c6 : x17_2 = true
   ·subst c6
    rw [if_pos rfl] at H
    simp only [Option.some.injEq, Prod.mk.injEq] at H
    obtain ⟨rfl, rfl, rfl, rfl, rfl, rfl, rfl⟩ := H
    have hcz7_0 : wc.cell? ⟨gb183, 0, none⟩ = some (.int .i64 0) := (blk_cell BK183.out 0).trans rfl
    have hcz7_1 : wc.cell? ⟨gb183, 1, none⟩ = some (.int .i64 0) := (blk_cell BK183.out 1).trans rfl
    have hcz7_2 : wc.cell? ⟨gb183, 2, none⟩ = some (.int .i64 0) := (blk_cell BK183.out 2).trans rfl
    have hcz7_3 : wc.cell? ⟨gb183, 3, none⟩ = some (.int .i64 0) := (blk_cell BK183.out 3).trans rfl
    have hcz7_4 : wc.cell? ⟨gb183, 4, none⟩ = some (.int .i64 0) := (blk_cell BK183.out 4).trans rfl
    have hfz7_0 := blk_frozen BK183.out 0
    have hfz7_1 := blk_frozen BK183.out 1
    have hfz7_2 := blk_frozen BK183.out 2
    have hfz7_3 := blk_frozen BK183.out 3
    have hfz7_4 := blk_frozen BK183.out 4
    go_wp2
    repeat (go_quiet (fail); try go_wp2)
    refine bodyPost_ret (results_ctt rfl _ _ gb183 26 #[.int .i64 0, .int .i64 0, .int .i64 0, .int .i64 0, .int .i64 0] (0, 0) _ rfl (ts10_ BK183.out) Tryd.underlying26 rfl (by kernel_rfl)) rfl ?_
    exact ⟨ts26_, ts17_ HB.out GE183.out⟩
   replace c6 := Bool.eq_false_iff.mpr c6
   subst c6
   rw [if_neg Bool.false_ne_true] at H
   by_cases c8 : 0 ≤ a1
   ·rw [if_pos c8] at H
    have c8b0 : decide (0 ≤ a1) = true := decide_eq_true c8
    clear c8
    by_cases c9 : a1 < (l0.length : Int)
    ·rw [if_pos c9] at H
     have c9b0 : decide (a1 < (l0.length : Int)) = true := decide_eq_true c9
     clear c9
     have HC10 := Aside0.mk H
     clear H
     have p184 : 0 ≤ (a1 : Int) := of_decide_eq_true ts24_
     have q184 : a1 < (l0.length : Int) := of_decide_eq_true ts24_
     obtain ⟨ad184, e184, hx184_0⟩ := Kd.at_int HR0.out a1 p184 q184
     cases e184
     replace hx184_0 := (HB.out.cell (World.block_lt_of_cell? w _ hx184_0)).trans hx184_0
     replace p184 := eq_true p184
     replace q184 := eq_true q184
     have hcz11_0 : wc.cell? ⟨gb183, 0, none⟩ = some (.int .i64 0) := (blk_cell BK183.out 0).trans rfl
     have hcz11_1 : wc.cell? ⟨gb183, 1, none⟩ = some (.int .i64 0) := (blk_cell BK183.out 1).trans rfl
     have hcz11_2 : wc.cell? ⟨gb183, 2, none⟩ = some (.int .i64 0) := (blk_cell BK183.out 2).trans rfl
     have hcz11_3 : wc.cell? ⟨gb183, 3, none⟩ = some (.int .i64 0) := (blk_cell BK183.out 3).trans rfl
     have hcz11_4 : wc.cell? ⟨gb183, 4, none⟩ = some (.int .i64 0) := (blk_cell BK183.out 4).trans rfl
     have hfz11_0 := blk_frozen BK183.out 0
     have hfz11_1 := blk_frozen BK183.out 1
     have hfz11_2 := blk_frozen BK183.out 2
     have hfz11_3 := blk_frozen BK183.out 3
     have hfz11_4 := blk_frozen BK183.out 4
     go_upto_region 6 with (fail)
     repeat (go_quiet (fail); go_upto_region 6 with (fail))
     go_cut [52] (fun v52 wc => ∃ (kq : Nat) (x52_9 : Bool), v52 = .bool x52_9 ∧ Aside0 (cupelref20_Decode.j1 kq l0 a1 (wrap64 (a1 + 1)) x52_9 (wrap64 (Go.bits .and .u64 (rd l0 a1) 255)) (wrap64 (Go.bits .and .u64 ((rd l0 a1) / 256) 15)) (wrap64 (Go.bits .and .u64 ((rd l0 a1) / 4096) 15)) (wrap64 (Go.bits .and .u64 ((rd l0 a1) / 65536) 15)) ((wrap64 (rd l0 a1)) / 4294967296) = some (r1, r2, r3, r4, r5, r6, r7)) ∧ Aside0 (kq ≤ kj2) ∧ Aside0 (wc.heap[gb183]? = some (.cells #[.int .i64 (wrap64 (Go.bits .and .u64 (rd l0 a1) 255)), .int .i64 (wrap64 (Go.bits .and .u64 ((rd l0 a1) / 256) 15)), .int .i64 (wrap64 (Go.bits .and .u64 ((rd l0 a1) / 4096) 15)), .int .i64 (wrap64 (Go.bits .and .u64 ((rd l0 a1) / 65536) 15)), .int .i64 ((wrap64 (rd l0 a1)) / 4294967296)] 26 (0, 0))) ∧ Aside0 (Below w.heap.size w wc))
     case first =>
      have H := HC10.out
      clear HC10
      by_cases c12 : (wrap64 (Go.bits .and .u64 (rd l0 a1) 255)) = 3
      ·rw [if_pos c12] at H
       have c12b0 : ((wrap64 (Go.bits .and .u64 (rd l0 a1) 255)) == 3) = true := beq_iff_eq.mpr c12
       have c12b1 : ((wrap64 (Go.bits .and .u64 (rd l0 a1) 255)) != 3) = false := bne_eq_false_iff_eq.mpr c12
       clear c12
       (first | rw [c12b0] | (simp only [i64_w, i32_w]; rw [c12b0]) | skip)
       have H' := Aside0.mk H
       clear H
       have hcz13_0 : wc.cell? ⟨gb183, 0, none⟩ = some (.int .i64 0) := (blk_cell BK183.out 0).trans rfl
       have hcz13_1 : wc.cell? ⟨gb183, 1, none⟩ = some (.int .i64 0) := (blk_cell BK183.out 1).trans rfl
       have hcz13_2 : wc.cell? ⟨gb183, 2, none⟩ = some (.int .i64 0) := (blk_cell BK183.out 2).trans rfl
       have hcz13_3 : wc.cell? ⟨gb183, 3, none⟩ = some (.int .i64 0) := (blk_cell BK183.out 3).trans rfl
       have hcz13_4 : wc.cell? ⟨gb183, 4, none⟩ = some (.int .i64 0) := (blk_cell BK183.out 4).trans rfl
       have hfz13_0 := blk_frozen BK183.out 0
       have hfz13_1 := blk_frozen BK183.out 1
       have hfz13_2 := blk_frozen BK183.out 2
       have hfz13_3 := blk_frozen BK183.out 3
       have hfz13_4 := blk_frozen BK183.out 4
       go_wp2
       repeat (go_quiet (fail); try go_wp2)
       go_meet
       case rel => exact ⟨_, (decide ((wrap64 (a1 + 1)) < (l0.length : Int))), ts32_, H', ⟨ts13_ HJ2.out⟩, ⟨ts2_ BK183.out⟩, ⟨ts17_ HB.out GE183.out⟩⟩
      rw [if_neg c12] at H
      have c12b0 : ((wrap64 (Go.bits .and .u64 (rd l0 a1) 255)) == 3) = false := beq_eq_false_iff_ne.mpr c12
      have c12b1 : ((wrap64 (Go.bits .and .u64 (rd l0 a1) 255)) != 3) = true := bne_iff_ne.mpr c12
      (first | rw [c12b0] | (simp only [i64_w, i32_w]; rw [c12b0]) | skip)
      have H' := Aside0.mk H
      clear H
      have hcz14_0 : wc.cell? ⟨gb183, 0, none⟩ = some (.int .i64 0) := (blk_cell BK183.out 0).trans rfl
      have hcz14_1 : wc.cell? ⟨gb183, 1, none⟩ = some (.int .i64 0) := (blk_cell BK183.out 1).trans rfl
      have hcz14_2 : wc.cell? ⟨gb183, 2, none⟩ = some (.int .i64 0) := (blk_cell BK183.out 2).trans rfl
      have hcz14_3 : wc.cell? ⟨gb183, 3, none⟩ = some (.int .i64 0) := (blk_cell BK183.out 3).trans rfl
      have hcz14_4 : wc.cell? ⟨gb183, 4, none⟩ = some (.int .i64 0) := (blk_cell BK183.out 4).trans rfl
      have hfz14_0 := blk_frozen BK183.out 0
      have hfz14_1 := blk_frozen BK183.out 1
      have hfz14_2 := blk_frozen BK183.out 2
      have hfz14_3 := blk_frozen BK183.out 3
      have hfz14_4 := blk_frozen BK183.out 4
      go_wp2
      repeat (go_quiet (fail); try go_wp2)
      go_meet
      case rel => exact ⟨_, (false), ts32_, H', ⟨ts13_ HJ2.out⟩, ⟨ts2_ BK183.out⟩, ⟨ts17_ HB.out GE183.out⟩⟩
     case rest =>
      clear HC10
      try clear c1
      try clear p1
      try clear q1
      try clear hx1
      try clear p2
      try clear c5
      try clear c5b0
      try clear c6
      try clear p6
      try clear c8
      try clear c8b0
      try clear c9
      try clear c9b0
      try clear c12
      try clear c12b0
      try clear c12b1
      try clear hcz11_0
      try clear hcz11_1
      try clear hcz11_2
      try clear hcz11_3
      try clear hcz11_4
      try clear hcz13_0
      try clear hcz13_1
      try clear hcz13_2
      try clear hcz13_3
      try clear hcz13_4
      try clear hcz14_0
      try clear hcz14_1
      try clear hcz14_2
      try clear hcz14_3
      try clear hcz14_4
      try clear hcz7_0
      try clear hcz7_1
      try clear hcz7_2
      try clear hcz7_3
      try clear hcz7_4
      try clear hfz11_0
      try clear hfz11_1
      try clear hfz11_2
      try clear hfz11_3
      try clear hfz11_4
      try clear hfz13_0
      try clear hfz13_1
      try clear hfz13_2
      try clear hfz13_3
      try clear hfz13_4
      try clear hfz14_0
      try clear hfz14_1
      try clear hfz14_2
      try clear hfz14_3
      try clear hfz14_4
      try clear hfz7_0
      try clear hfz7_1
      try clear hfz7_2
      try clear hfz7_3
      try clear hfz7_4
      try clear hx184_0
      try clear p184
      try clear p2
      try clear q184
      obtain ⟨kq, x52_9, rfl, HA, HJ9, BK183, HB⟩ := hcut
      cases kq with
      | zero => exact absurd HA.out (by simp [cupelref20_Decode.j1])
      | succ kj9 =>
       have H := HA.out
       clear HA
       simp only [cupelref20_Decode.j1] at H
       have HC15 := Aside0.mk H
       clear H
       go_upto_if 52 with (fail)
       repeat (go_quiet (fail); go_upto_if 52 with (fail))
       go_cut [5] (fun v5 wc => ∃ (kq : Nat) (x5_14 : Int) (x184000_14 : Int) (x184001_14 : Int) (x184002_14 : Int) (x184003_14 : Int) (x184004_14 : Int), v5 = .int .i64 x5_14 ∧ Aside0 (cupelref20_Decode.j2 kq l0 a1 x5_14 x184000_14 x184001_14 x184002_14 x184003_14 x184004_14 = some (r1, r2, r3, r4, r5, r6, r7)) ∧ Aside0 (kq ≤ kj9) ∧ Aside0 (wc.heap[gb183]? = some (.cells #[.int .i64 x184000_14, .int .i64 x184001_14, .int .i64 x184002_14, .int .i64 x184003_14, .int .i64 x184004_14] 26 (0, 0))) ∧ Aside0 (Below w.heap.size w wc))
       case first =>
        have H := HC15.out
        clear HC15
        by_cases c16 : x52_9 = true
        ·subst c16
         rw [if_pos rfl] at H
         obtain ⟨ji17, hji17⟩ : ∃ j_ : Int, (wrap64 (a1 + 1)) = j_ := ⟨_, rfl⟩
         replace H : (if 0 ≤ (ji17) then (if (ji17) < (l0.length : Int) then (cupelref20_Decode.j2 kj9 l0 a1 (wrap64 ((ji17) + 1)) (wrap64 (Go.bits .and .u64 (rd l0 a1) 255)) (wrap64 (Go.bits .and .u64 ((rd l0 a1) / 256) 15)) (wrap64 (Go.bits .and .u64 ((rd l0 a1) / 4096) 15)) (wrap64 (Go.bits .and .u64 ((rd l0 a1) / 65536) 15)) (wrap64 (rd l0 (ji17)))) else (none)) else (none)) = some (r1, r2, r3, r4, r5, r6, r7) := by first | (rw [hji17] at H; exact H) | (simp only [hji17] at H ⊢; exact H)
         have hji17w : (IntKind.i64.wrap (a1 + 1)) = ji17 := (i64_w _).trans hji17
         by_cases c18 : 0 ≤ (ji17)
         ·rw [if_pos c18] at H
          have c18b0 : decide (0 ≤ (ji17)) = true := decide_eq_true c18
          clear c18
          (first | rw [c18b0] | (simp only [i64_w, i32_w]; rw [c18b0]) | skip)
          by_cases c19 : (ji17) < (l0.length : Int)
          ·rw [if_pos c19] at H
           have c19b0 : decide ((ji17) < (l0.length : Int)) = true := decide_eq_true c19
           clear c19
           have H' := Aside0.mk H
           clear H
           have p185 : 0 ≤ ((ji17) : Int) := of_decide_eq_true ts24_
           have q185 : (ji17) < (l0.length : Int) := of_decide_eq_true ts24_
           obtain ⟨ad185, e185, hx185_0⟩ := Kd.at_int HR0.out (ji17) p185 q185
           obtain rfl : ad184 = ad185 := (by injection e185)
           replace hx185_0 := (HB.out.cell (World.block_lt_of_cell? w _ hx185_0)).trans hx185_0
           replace p185 := eq_true p185
           replace q185 := eq_true q185
           have hcz20_0 : wc.cell? ⟨gb183, 0, none⟩ = some (.int .i64 (wrap64 (Go.bits .and .u64 (rd l0 a1) 255))) := (blk_cell BK183.out 0).trans rfl
           have hcz20_1 : wc.cell? ⟨gb183, 1, none⟩ = some (.int .i64 (wrap64 (Go.bits .and .u64 ((rd l0 a1) / 256) 15))) := (blk_cell BK183.out 1).trans rfl
           have hcz20_2 : wc.cell? ⟨gb183, 2, none⟩ = some (.int .i64 (wrap64 (Go.bits .and .u64 ((rd l0 a1) / 4096) 15))) := (blk_cell BK183.out 2).trans rfl
           have hcz20_3 : wc.cell? ⟨gb183, 3, none⟩ = some (.int .i64 (wrap64 (Go.bits .and .u64 ((rd l0 a1) / 65536) 15))) := (blk_cell BK183.out 3).trans rfl
           have hcz20_4 : wc.cell? ⟨gb183, 4, none⟩ = some (.int .i64 ((wrap64 (rd l0 a1)) / 4294967296)) := (blk_cell BK183.out 4).trans rfl
           have hfz20_0 := blk_frozen BK183.out 0
           have hfz20_1 := blk_frozen BK183.out 1
           have hfz20_2 := blk_frozen BK183.out 2
           have hfz20_3 := blk_frozen BK183.out 3
           have hfz20_4 := blk_frozen BK183.out 4
           go_wp2
           repeat (go_quiet (fail); try go_wp2)
           go_meet
           case rel => exact ⟨_, (wrap64 ((ji17) + 1)), ((wrap64 (Go.bits .and .u64 (rd l0 a1) 255))), ((wrap64 (Go.bits .and .u64 ((rd l0 a1) / 256) 15))), ((wrap64 (Go.bits .and .u64 ((rd l0 a1) / 4096) 15))), ((wrap64 (Go.bits .and .u64 ((rd l0 a1) / 65536) 15))), (wrap64 (rd l0 (ji17))), (by first | rfl | (simp; done) | (simp only [← hji17] <;> (first | rfl | simp)) | (simp [*]; done)), H', ⟨by have := HJ2.out; have := HJ9.out; first | omega | exact Nat.le_refl _⟩, ⟨by (with_reducible repeat (first | refine blk_drewN ?_ _ | refine blk_drew ?_ | refine blk_alloc ?_ _)); refine blk_put (cs := #[.int .i64 (wrap64 (Go.bits .and .u64 (rd l0 a1) 255)), .int .i64 (wrap64 (Go.bits .and .u64 ((rd l0 a1) / 256) 15)), .int .i64 (wrap64 (Go.bits .and .u64 ((rd l0 a1) / 4096) 15)), .int .i64 (wrap64 (Go.bits .and .u64 ((rd l0 a1) / 65536) 15)), .int .i64 ((wrap64 (rd l0 a1)) / 4294967296)]) ?_ 4 _ rfl; (with_reducible repeat (first | refine blk_drewN ?_ _ | refine blk_drew ?_ | refine blk_alloc ?_ _)); exact BK183.out⟩, ⟨ts17_ HB.out GE183.out⟩⟩
          rw [if_neg c19] at H
          exact absurd H (by simp)
         rw [if_neg c18] at H
         exact absurd H (by simp)
        replace c16 := Bool.eq_false_iff.mpr c16
        subst c16
        rw [if_neg Bool.false_ne_true] at H
        by_cases c21 : (wrap64 (Go.bits .and .u64 (rd l0 a1) 255)) = 3
        ·rw [if_pos c21] at H
         have c21b0 : ((wrap64 (Go.bits .and .u64 (rd l0 a1) 255)) == 3) = true := beq_iff_eq.mpr c21
         have c21b1 : ((wrap64 (Go.bits .and .u64 (rd l0 a1) 255)) != 3) = false := bne_eq_false_iff_eq.mpr c21
         clear c21
         simp only [Option.some.injEq, Prod.mk.injEq] at H
         obtain ⟨rfl, rfl, rfl, rfl, rfl, rfl, rfl⟩ := H
         have hcz22_0 : wc.cell? ⟨gb183, 0, none⟩ = some (.int .i64 (wrap64 (Go.bits .and .u64 (rd l0 a1) 255))) := (blk_cell BK183.out 0).trans rfl
         have hcz22_1 : wc.cell? ⟨gb183, 1, none⟩ = some (.int .i64 (wrap64 (Go.bits .and .u64 ((rd l0 a1) / 256) 15))) := (blk_cell BK183.out 1).trans rfl
         have hcz22_2 : wc.cell? ⟨gb183, 2, none⟩ = some (.int .i64 (wrap64 (Go.bits .and .u64 ((rd l0 a1) / 4096) 15))) := (blk_cell BK183.out 2).trans rfl
         have hcz22_3 : wc.cell? ⟨gb183, 3, none⟩ = some (.int .i64 (wrap64 (Go.bits .and .u64 ((rd l0 a1) / 65536) 15))) := (blk_cell BK183.out 3).trans rfl
         have hcz22_4 : wc.cell? ⟨gb183, 4, none⟩ = some (.int .i64 ((wrap64 (rd l0 a1)) / 4294967296)) := (blk_cell BK183.out 4).trans rfl
         have hfz22_0 := blk_frozen BK183.out 0
         have hfz22_1 := blk_frozen BK183.out 1
         have hfz22_2 := blk_frozen BK183.out 2
         have hfz22_3 := blk_frozen BK183.out 3
         have hfz22_4 := blk_frozen BK183.out 4
         go_wp2
         repeat (go_quiet (fail); try go_wp2)
         refine bodyPost_ret (results_ctt rfl _ _ gb183 26 #[.int .i64 0, .int .i64 0, .int .i64 0, .int .i64 0, .int .i64 0] (0, 0) _ rfl (by (with_reducible repeat (first | refine blk_drewN ?_ _ | refine blk_drew ?_ | refine blk_alloc ?_ _)); refine blk_put (cs := #[.int .i64 0, .int .i64 0, .int .i64 0, .int .i64 0, .int .i64 ((wrap64 (rd l0 a1)) / 4294967296)]) ?_ 4 _ rfl; (with_reducible repeat (first | refine blk_drewN ?_ _ | refine blk_drew ?_ | refine blk_alloc ?_ _)); refine blk_put (cs := #[.int .i64 0, .int .i64 0, .int .i64 0, .int .i64 (wrap64 (Go.bits .and .u64 ((rd l0 a1) / 65536) 15)), .int .i64 ((wrap64 (rd l0 a1)) / 4294967296)]) ?_ 3 _ rfl; (with_reducible repeat (first | refine blk_drewN ?_ _ | refine blk_drew ?_ | refine blk_alloc ?_ _)); refine blk_put (cs := #[.int .i64 0, .int .i64 0, .int .i64 (wrap64 (Go.bits .and .u64 ((rd l0 a1) / 4096) 15)), .int .i64 (wrap64 (Go.bits .and .u64 ((rd l0 a1) / 65536) 15)), .int .i64 ((wrap64 (rd l0 a1)) / 4294967296)]) ?_ 2 _ rfl; (with_reducible repeat (first | refine blk_drewN ?_ _ | refine blk_drew ?_ | refine blk_alloc ?_ _)); refine blk_put (cs := #[.int .i64 0, .int .i64 (wrap64 (Go.bits .and .u64 ((rd l0 a1) / 256) 15)), .int .i64 (wrap64 (Go.bits .and .u64 ((rd l0 a1) / 4096) 15)), .int .i64 (wrap64 (Go.bits .and .u64 ((rd l0 a1) / 65536) 15)), .int .i64 ((wrap64 (rd l0 a1)) / 4294967296)]) ?_ 1 _ rfl; (with_reducible repeat (first | refine blk_drewN ?_ _ | refine blk_drew ?_ | refine blk_alloc ?_ _)); refine blk_put (cs := #[.int .i64 (wrap64 (Go.bits .and .u64 (rd l0 a1) 255)), .int .i64 (wrap64 (Go.bits .and .u64 ((rd l0 a1) / 256) 15)), .int .i64 (wrap64 (Go.bits .and .u64 ((rd l0 a1) / 4096) 15)), .int .i64 (wrap64 (Go.bits .and .u64 ((rd l0 a1) / 65536) 15)), .int .i64 ((wrap64 (rd l0 a1)) / 4294967296)]) ?_ 0 _ rfl; (with_reducible repeat (first | refine blk_drewN ?_ _ | refine blk_drew ?_ | refine blk_alloc ?_ _)); exact BK183.out) Tryd.underlying26 rfl (by kernel_rfl)) rfl ?_
         exact ⟨ts26_, ts17_ HB.out GE183.out⟩
        rw [if_neg c21] at H
        have c21b0 : ((wrap64 (Go.bits .and .u64 (rd l0 a1) 255)) == 3) = false := beq_eq_false_iff_ne.mpr c21
        have c21b1 : ((wrap64 (Go.bits .and .u64 (rd l0 a1) 255)) != 3) = true := bne_iff_ne.mpr c21
        have H' := Aside0.mk H
        clear H
        have hcz23_0 : wc.cell? ⟨gb183, 0, none⟩ = some (.int .i64 (wrap64 (Go.bits .and .u64 (rd l0 a1) 255))) := (blk_cell BK183.out 0).trans rfl
        have hcz23_1 : wc.cell? ⟨gb183, 1, none⟩ = some (.int .i64 (wrap64 (Go.bits .and .u64 ((rd l0 a1) / 256) 15))) := (blk_cell BK183.out 1).trans rfl
        have hcz23_2 : wc.cell? ⟨gb183, 2, none⟩ = some (.int .i64 (wrap64 (Go.bits .and .u64 ((rd l0 a1) / 4096) 15))) := (blk_cell BK183.out 2).trans rfl
        have hcz23_3 : wc.cell? ⟨gb183, 3, none⟩ = some (.int .i64 (wrap64 (Go.bits .and .u64 ((rd l0 a1) / 65536) 15))) := (blk_cell BK183.out 3).trans rfl
        have hcz23_4 : wc.cell? ⟨gb183, 4, none⟩ = some (.int .i64 ((wrap64 (rd l0 a1)) / 4294967296)) := (blk_cell BK183.out 4).trans rfl
        have hfz23_0 := blk_frozen BK183.out 0
        have hfz23_1 := blk_frozen BK183.out 1
        have hfz23_2 := blk_frozen BK183.out 2
        have hfz23_3 := blk_frozen BK183.out 3
        have hfz23_4 := blk_frozen BK183.out 4
        go_wp2
        repeat (go_quiet (fail); try go_wp2)
        go_meet
        case rel => exact ⟨_, ((wrap64 (a1 + 1))), ((wrap64 (Go.bits .and .u64 (rd l0 a1) 255))), ((wrap64 (Go.bits .and .u64 ((rd l0 a1) / 256) 15))), ((wrap64 (Go.bits .and .u64 ((rd l0 a1) / 4096) 15))), ((wrap64 (Go.bits .and .u64 ((rd l0 a1) / 65536) 15))), (((wrap64 (rd l0 a1)) / 4294967296)), ts32_, H', ⟨by have := HJ2.out; have := HJ9.out; first | omega | exact Nat.le_refl _⟩, ⟨ts14_ BK183.out⟩, ⟨ts17_ HB.out GE183.out⟩⟩
       case rest =>
        clear HC15
        try clear c1
        try clear p1
        try clear q1
        try clear hx1
        try clear c2
        try clear p2
        try clear c5
        try clear c5b0
        try clear c6
        try clear p6
        try clear c8
        try clear c8b0
        try clear c9
        try clear c9b0
        try clear c12
        try clear c12b0
        try clear c12b1
        try clear c16
        try clear c18
        try clear c18b0
        try clear p18
        try clear q18
        try clear hx18
        try clear c19
        try clear c19b0
        try clear c21
        try clear c21b0
        try clear c21b1
        try clear hcz11_0
        try clear hcz11_1
        try clear hcz11_2
        try clear hcz11_3
        try clear hcz11_4
        try clear hcz13_0
        try clear hcz13_1
        try clear hcz13_2
        try clear hcz13_3
        try clear hcz13_4
        try clear hcz14_0
        try clear hcz14_1
        try clear hcz14_2
        try clear hcz14_3
        try clear hcz14_4
        try clear hcz20_0
        try clear hcz20_1
        try clear hcz20_2
        try clear hcz20_3
        try clear hcz20_4
        try clear hcz22_0
        try clear hcz22_1
        try clear hcz22_2
        try clear hcz22_3
        try clear hcz22_4
        try clear hcz23_0
        try clear hcz23_1
        try clear hcz23_2
        try clear hcz23_3
        try clear hcz23_4
        try clear hcz7_0
        try clear hcz7_1
        try clear hcz7_2
        try clear hcz7_3
        try clear hcz7_4
        try clear hfz11_0
        try clear hfz11_1
        try clear hfz11_2
        try clear hfz11_3
        try clear hfz11_4
        try clear hfz13_0
        try clear hfz13_1
        try clear hfz13_2
        try clear hfz13_3
        try clear hfz13_4
        try clear hfz14_0
        try clear hfz14_1
        try clear hfz14_2
        try clear hfz14_3
        try clear hfz14_4
        try clear hfz20_0
        try clear hfz20_1
        try clear hfz20_2
        try clear hfz20_3
        try clear hfz20_4
        try clear hfz22_0
        try clear hfz22_1
        try clear hfz22_2
        try clear hfz22_3
        try clear hfz22_4
        try clear hfz23_0
        try clear hfz23_1
        try clear hfz23_2
        try clear hfz23_3
        try clear hfz23_4
        try clear hfz7_0
        try clear hfz7_1
        try clear hfz7_2
        try clear hfz7_3
        try clear hfz7_4
        try clear hx184_0
        try clear hx185_0
        try clear p1
        try clear p184
        try clear p185
        try clear p2
        try clear p6
        try clear q1
        try clear q184
        try clear q185
        obtain ⟨kq, x5_14, x184000_14, x184001_14, x184002_14, x184003_14, x184004_14, rfl, HA, HJ14, BK183, HB⟩ := hcut
        cases kq with
        | zero => exact absurd HA.out (by simp [cupelref20_Decode.j2])
        | succ kj14 =>
         have H := HA.out
         clear HA
         simp only [cupelref20_Decode.j2] at H
         obtain ⟨t186, A24, H⟩ := bsA_ H
         try dsimp only at H
         by_cases c25 : t186 = true
         ·subst c25
          rw [if_pos rfl] at H
          obtain ⟨t187, A26, H⟩ := bsA_ H
          try dsimp only at H
          have H' := Aside0.mk H
          clear H
          have hcz27_0 : wc.cell? ⟨gb183, 0, none⟩ = some (.int .i64 x184000_14) := (blk_cell BK183.out 0).trans rfl
          have hcz27_1 : wc.cell? ⟨gb183, 1, none⟩ = some (.int .i64 x184001_14) := (blk_cell BK183.out 1).trans rfl
          have hcz27_2 : wc.cell? ⟨gb183, 2, none⟩ = some (.int .i64 x184002_14) := (blk_cell BK183.out 2).trans rfl
          have hcz27_3 : wc.cell? ⟨gb183, 3, none⟩ = some (.int .i64 x184003_14) := (blk_cell BK183.out 3).trans rfl
          have hcz27_4 : wc.cell? ⟨gb183, 4, none⟩ = some (.int .i64 x184004_14) := (blk_cell BK183.out 4).trans rfl
          have hfz27_0 := blk_frozen BK183.out 0
          have hfz27_1 := blk_frozen BK183.out 1
          have hfz27_2 := blk_frozen BK183.out 2
          have hfz27_3 := blk_frozen BK183.out 3
          have hfz27_4 := blk_frozen BK183.out 4
          go_wp2_with (first | (go_at_call 11; (with_reducible refine (cupelref20_Valid.calls x184000_14 x184001_14 x184002_14 x184003_14 x184004_14 true _ A24.out).mono ?_); rintro e w28 ⟨rfl, hb⟩; replace BK183 := Aside0.mk (blk_below (g := gb183) (o := .cells #[.int .i64 x184000_14, .int .i64 x184001_14, .int .i64 x184002_14, .int .i64 x184003_14, .int .i64 x184004_14] 26 (0, 0)) (ts14_ BK183.out) hb); replace HB := Aside0.mk (below_step (ts17_ HB.out GE183.out) hb); clear hb; have hcz29_0 : w28.cell? ⟨gb183, 0, none⟩ = some (.int .i64 x184000_14) := (blk_cell BK183.out 0).trans rfl; have hcz29_1 : w28.cell? ⟨gb183, 1, none⟩ = some (.int .i64 x184001_14) := (blk_cell BK183.out 1).trans rfl; have hcz29_2 : w28.cell? ⟨gb183, 2, none⟩ = some (.int .i64 x184002_14) := (blk_cell BK183.out 2).trans rfl; have hcz29_3 : w28.cell? ⟨gb183, 3, none⟩ = some (.int .i64 x184003_14) := (blk_cell BK183.out 3).trans rfl; have hcz29_4 : w28.cell? ⟨gb183, 4, none⟩ = some (.int .i64 x184004_14) := (blk_cell BK183.out 4).trans rfl; have hfz29_0 := blk_frozen BK183.out 0; have hfz29_1 := blk_frozen BK183.out 1; have hfz29_2 := blk_frozen BK183.out 2; have hfz29_3 := blk_frozen BK183.out 3; have hfz29_4 := blk_frozen BK183.out 4) | (go_at_call 31; (with_reducible refine (cupelref20_words.calls x184000_14 x184001_14 x184002_14 x184003_14 x184004_14 t187 _ A26.out).mono ?_); rintro e w30 ⟨v188, rfl, ho0, hb⟩; have HO189 := Aside0.mk (Kd.R_lower ho0 (below_size (ts17_ HB.out GE183.out))); replace BK183 := Aside0.mk (blk_below (g := gb183) (o := .cells #[.int .i64 x184000_14, .int .i64 x184001_14, .int .i64 x184002_14, .int .i64 x184003_14, .int .i64 x184004_14] 26 (0, 0)) (ts14_ BK183.out) hb); replace HB := Aside0.mk (below_step (ts17_ HB.out GE183.out) hb); clear hb; (try clear ho0)))
          repeat (go_quiet (first | (go_at_call 11; (with_reducible refine (cupelref20_Valid.calls x184000_14 x184001_14 x184002_14 x184003_14 x184004_14 true _ A24.out).mono ?_); rintro e w28 ⟨rfl, hb⟩; replace BK183 := Aside0.mk (blk_below (g := gb183) (o := .cells #[.int .i64 x184000_14, .int .i64 x184001_14, .int .i64 x184002_14, .int .i64 x184003_14, .int .i64 x184004_14] 26 (0, 0)) (ts14_ BK183.out) hb); replace HB := Aside0.mk (below_step (ts17_ HB.out GE183.out) hb); clear hb; have hcz29_0 : w28.cell? ⟨gb183, 0, none⟩ = some (.int .i64 x184000_14) := (blk_cell BK183.out 0).trans rfl; have hcz29_1 : w28.cell? ⟨gb183, 1, none⟩ = some (.int .i64 x184001_14) := (blk_cell BK183.out 1).trans rfl; have hcz29_2 : w28.cell? ⟨gb183, 2, none⟩ = some (.int .i64 x184002_14) := (blk_cell BK183.out 2).trans rfl; have hcz29_3 : w28.cell? ⟨gb183, 3, none⟩ = some (.int .i64 x184003_14) := (blk_cell BK183.out 3).trans rfl; have hcz29_4 : w28.cell? ⟨gb183, 4, none⟩ = some (.int .i64 x184004_14) := (blk_cell BK183.out 4).trans rfl; have hfz29_0 := blk_frozen BK183.out 0; have hfz29_1 := blk_frozen BK183.out 1; have hfz29_2 := blk_frozen BK183.out 2; have hfz29_3 := blk_frozen BK183.out 3; have hfz29_4 := blk_frozen BK183.out 4) | (go_at_call 31; (with_reducible refine (cupelref20_words.calls x184000_14 x184001_14 x184002_14 x184003_14 x184004_14 t187 _ A26.out).mono ?_); rintro e w30 ⟨v188, rfl, ho0, hb⟩; have HO189 := Aside0.mk (Kd.R_lower ho0 (below_size (ts17_ HB.out GE183.out))); replace BK183 := Aside0.mk (blk_below (g := gb183) (o := .cells #[.int .i64 x184000_14, .int .i64 x184001_14, .int .i64 x184002_14, .int .i64 x184003_14, .int .i64 x184004_14] 26 (0, 0)) (ts14_ BK183.out) hb); replace HB := Aside0.mk (below_step (ts17_ HB.out GE183.out) hb); clear hb; (try clear ho0))); try go_wp2_with (first | (go_at_call 11; (with_reducible refine (cupelref20_Valid.calls x184000_14 x184001_14 x184002_14 x184003_14 x184004_14 true _ A24.out).mono ?_); rintro e w28 ⟨rfl, hb⟩; replace BK183 := Aside0.mk (blk_below (g := gb183) (o := .cells #[.int .i64 x184000_14, .int .i64 x184001_14, .int .i64 x184002_14, .int .i64 x184003_14, .int .i64 x184004_14] 26 (0, 0)) (ts14_ BK183.out) hb); replace HB := Aside0.mk (below_step (ts17_ HB.out GE183.out) hb); clear hb; have hcz29_0 : w28.cell? ⟨gb183, 0, none⟩ = some (.int .i64 x184000_14) := (blk_cell BK183.out 0).trans rfl; have hcz29_1 : w28.cell? ⟨gb183, 1, none⟩ = some (.int .i64 x184001_14) := (blk_cell BK183.out 1).trans rfl; have hcz29_2 : w28.cell? ⟨gb183, 2, none⟩ = some (.int .i64 x184002_14) := (blk_cell BK183.out 2).trans rfl; have hcz29_3 : w28.cell? ⟨gb183, 3, none⟩ = some (.int .i64 x184003_14) := (blk_cell BK183.out 3).trans rfl; have hcz29_4 : w28.cell? ⟨gb183, 4, none⟩ = some (.int .i64 x184004_14) := (blk_cell BK183.out 4).trans rfl; have hfz29_0 := blk_frozen BK183.out 0; have hfz29_1 := blk_frozen BK183.out 1; have hfz29_2 := blk_frozen BK183.out 2; have hfz29_3 := blk_frozen BK183.out 3; have hfz29_4 := blk_frozen BK183.out 4) | (go_at_call 31; (with_reducible refine (cupelref20_words.calls x184000_14 x184001_14 x184002_14 x184003_14 x184004_14 t187 _ A26.out).mono ?_); rintro e w30 ⟨v188, rfl, ho0, hb⟩; have HO189 := Aside0.mk (Kd.R_lower ho0 (below_size (ts17_ HB.out GE183.out))); replace BK183 := Aside0.mk (blk_below (g := gb183) (o := .cells #[.int .i64 x184000_14, .int .i64 x184001_14, .int .i64 x184002_14, .int .i64 x184003_14, .int .i64 x184004_14] 26 (0, 0)) (ts14_ BK183.out) hb); replace HB := Aside0.mk (below_step (ts17_ HB.out GE183.out) hb); clear hb; (try clear ho0))))
          go_loopg [5, 9] kj14 (fun kq v5 v9 w' => ∃ (x5_4 : Int) (x9_4 : Int) (x184000_4 : Int) (x184001_4 : Int) (x184002_4 : Int) (x184003_4 : Int) (x184004_4 : Int), v5 = .int .i64 x5_4 ∧ v9 = .int .i64 x9_4 ∧ Aside0 (cupelref20_Decode.l0 kq l0 a1 x5_4 t187 x9_4 x184000_4 x184001_4 x184002_4 x184003_4 x184004_4 = some (r1, r2, r3, r4, r5, r6, r7)) ∧ Aside0 (kq ≤ kj14) ∧ Aside0 (Kd.R (Kd.int .u64) 48 w' w.heap.size (fun _ => True) v188 t187) ∧ Aside0 (w'.heap[gb183]? = some (.cells #[.int .i64 x184000_4, .int .i64 x184001_4, .int .i64 x184002_4, .int .i64 x184003_4, .int .i64 x184004_4] 26 (0, 0))) ∧ Aside0 (Below w.heap.size w w'))
          case atStart => exact ⟨(x5_14), (0), (x184000_14), (x184001_14), (x184002_14), (x184003_14), (x184004_14), ts32_, ts32_, H', ⟨Nat.le_refl _⟩, ⟨ts20_ HO189.out⟩, ⟨ts14_ BK183.out⟩, ⟨ts17_ HB.out GE183.out⟩⟩
          case round =>
           clear H'
           try clear c1
           try clear p1
           try clear q1
           try clear hx1
           try clear c2
           try clear p2
           try clear c5
           try clear c5b0
           try clear c6
           try clear p6
           try clear c8
           try clear c8b0
           try clear c9
           try clear c9b0
           try clear c12
           try clear c12b0
           try clear c12b1
           try clear c16
           try clear c18
           try clear c18b0
           try clear p18
           try clear q18
           try clear hx18
           try clear c19
           try clear c19b0
           try clear c21
           try clear c21b0
           try clear c21b1
           try clear c25
           try clear hcz11_0
           try clear hcz11_1
           try clear hcz11_2
           try clear hcz11_3
           try clear hcz11_4
           try clear hcz13_0
           try clear hcz13_1
           try clear hcz13_2
           try clear hcz13_3
           try clear hcz13_4
           try clear hcz14_0
           try clear hcz14_1
           try clear hcz14_2
           try clear hcz14_3
           try clear hcz14_4
           try clear hcz20_0
           try clear hcz20_1
           try clear hcz20_2
           try clear hcz20_3
           try clear hcz20_4
           try clear hcz22_0
           try clear hcz22_1
           try clear hcz22_2
           try clear hcz22_3
           try clear hcz22_4
           try clear hcz23_0
           try clear hcz23_1
           try clear hcz23_2
           try clear hcz23_3
           try clear hcz23_4
           try clear hcz27_0
           try clear hcz27_1
           try clear hcz27_2
           try clear hcz27_3
           try clear hcz27_4
           try clear hcz29_0
           try clear hcz29_1
           try clear hcz29_2
           try clear hcz29_3
           try clear hcz29_4
           try clear hcz7_0
           try clear hcz7_1
           try clear hcz7_2
           try clear hcz7_3
           try clear hcz7_4
           try clear hfz11_0
           try clear hfz11_1
           try clear hfz11_2
           try clear hfz11_3
           try clear hfz11_4
           try clear hfz13_0
           try clear hfz13_1
           try clear hfz13_2
           try clear hfz13_3
           try clear hfz13_4
           try clear hfz14_0
           try clear hfz14_1
           try clear hfz14_2
           try clear hfz14_3
           try clear hfz14_4
           try clear hfz20_0
           try clear hfz20_1
           try clear hfz20_2
           try clear hfz20_3
           try clear hfz20_4
           try clear hfz22_0
           try clear hfz22_1
           try clear hfz22_2
           try clear hfz22_3
           try clear hfz22_4
           try clear hfz23_0
           try clear hfz23_1
           try clear hfz23_2
           try clear hfz23_3
           try clear hfz23_4
           try clear hfz27_0
           try clear hfz27_1
           try clear hfz27_2
           try clear hfz27_3
           try clear hfz27_4
           try clear hfz29_0
           try clear hfz29_1
           try clear hfz29_2
           try clear hfz29_3
           try clear hfz29_4
           try clear hfz7_0
           try clear hfz7_1
           try clear hfz7_2
           try clear hfz7_3
           try clear hfz7_4
           try clear hx184_0
           try clear hx185_0
           try clear p1
           try clear p18
           try clear p184
           try clear p185
           try clear p2
           try clear p6
           try clear q1
           try clear q18
           try clear q184
           try clear q185
           obtain ⟨x5_4, x9_4, x184000_4, x184001_4, x184002_4, x184003_4, x184004_4, rfl, rfl, HA, HK4, HO_8, BK183, HB⟩ := hrel
           cases gk with
           | zero => exact absurd HA.out (by simp [cupelref20_Decode.l0])
           | succ k4 =>
            have H := HA.out
            clear HA
            simp only [cupelref20_Decode.l0] at H
            by_cases c31 : x9_4 < (t187.length : Int)
            ·rw [if_pos c31] at H
             have c31b0 : decide (x9_4 < (t187.length : Int)) = true := decide_eq_true c31
             clear c31
             by_cases c32 : 0 ≤ x9_4
             ·rw [if_pos c32] at H
              have c32b0 : decide (0 ≤ x9_4) = true := decide_eq_true c32
              clear c32
              obtain ⟨ji33, hji33⟩ : ∃ j_ : Int, (wrap64 (a1 + x9_4)) = j_ := ⟨_, rfl⟩
              replace H : (if 0 ≤ (ji33) then (if (ji33) < (l0.length : Int) then (if (rd t187 x9_4) = (rd l0 (ji33)) then (cupelref20_Decode.l0 k4 l0 a1 x5_4 t187 (wrap64 (x9_4 + 1)) x184000_4 x184001_4 x184002_4 x184003_4 x184004_4) else (some (0, 0, 0, 0, 0, 0, 6))) else (none)) else (none)) = some (r1, r2, r3, r4, r5, r6, r7) := by first | (rw [hji33] at H; exact H) | (simp only [hji33] at H ⊢; exact H)
              have hji33w : (IntKind.i64.wrap (a1 + x9_4)) = ji33 := (i64_w _).trans hji33
              by_cases c34 : 0 ≤ (ji33)
              ·rw [if_pos c34] at H
               have c34b0 : decide (0 ≤ (ji33)) = true := decide_eq_true c34
               clear c34
               by_cases c35 : (ji33) < (l0.length : Int)
               ·rw [if_pos c35] at H
                have c35b0 : decide ((ji33) < (l0.length : Int)) = true := decide_eq_true c35
                clear c35
                by_cases c36 : (rd t187 x9_4) = (rd l0 (ji33))
                ·rw [if_pos c36] at H
                 have c36b0 : ((rd t187 x9_4) == (rd l0 (ji33))) = true := beq_iff_eq.mpr c36
                 have c36b1 : ((rd t187 x9_4) != (rd l0 (ji33))) = false := bne_eq_false_iff_eq.mpr c36
                 clear c36
                 have H' := Aside0.mk H
                 clear H
                 obtain ⟨Ao37, co37, eo37⟩ := Kd.R_slice HO_8.out
                 subst eo37
                 have p190 : 0 ≤ (x9_4 : Int) := of_decide_eq_true ts24_
                 have q190 : x9_4 < (t187.length : Int) := of_decide_eq_true ts24_
                 obtain ⟨ad190, e190, hx190_0⟩ := Kd.at_int (Kd.R_reads' HO_8.out).2.2 x9_4 p190 q190
                 cases e190
                 replace p190 := eq_true p190
                 replace q190 := eq_true q190
                 have p191 : 0 ≤ ((ji33) : Int) := of_decide_eq_true ts24_
                 have q191 : (ji33) < (l0.length : Int) := of_decide_eq_true ts24_
                 obtain ⟨ad191, e191, hx191_0⟩ := Kd.at_int HR0.out (ji33) p191 q191
                 obtain rfl : ad184 = ad191 := (by injection e191)
                 replace hx191_0 := (HB.out.cell (World.block_lt_of_cell? w _ hx191_0)).trans hx191_0
                 replace p191 := eq_true p191
                 replace q191 := eq_true q191
                 go_wp2
                 repeat (go_quiet (fail); try go_wp2)
                 go_roundg k4
                 case measure => have := HJ2.out; have := HJ9.out; have := HJ14.out; have := HK4.out; omega
                 case rel => exact ⟨(x5_4), (wrap64 (x9_4 + 1)), (x184000_4), (x184001_4), (x184002_4), (x184003_4), (x184004_4), ts32_, ts32_, H', ⟨by have := HJ2.out; have := HJ9.out; have := HJ14.out; have := HK4.out; omega⟩, ⟨ts20_ HO_8.out⟩, ⟨ts14_ BK183.out⟩, ⟨ts17_ HB.out GE183.out⟩⟩
                rw [if_neg c36] at H
                have c36b0 : ((rd t187 x9_4) == (rd l0 (ji33))) = false := beq_eq_false_iff_ne.mpr c36
                have c36b1 : ((rd t187 x9_4) != (rd l0 (ji33))) = true := bne_iff_ne.mpr c36
                simp only [Option.some.injEq, Prod.mk.injEq] at H
                obtain ⟨rfl, rfl, rfl, rfl, rfl, rfl, rfl⟩ := H
                obtain ⟨Ao38, co38, eo38⟩ := Kd.R_slice HO_8.out
                subst eo38
                have p190 : 0 ≤ (x9_4 : Int) := of_decide_eq_true ts24_
                have q190 : x9_4 < (t187.length : Int) := of_decide_eq_true ts24_
                obtain ⟨ad190, e190, hx190_0⟩ := Kd.at_int (Kd.R_reads' HO_8.out).2.2 x9_4 p190 q190
                cases e190
                replace p190 := eq_true p190
                replace q190 := eq_true q190
                have p191 : 0 ≤ ((ji33) : Int) := of_decide_eq_true ts24_
                have q191 : (ji33) < (l0.length : Int) := of_decide_eq_true ts24_
                obtain ⟨ad191, e191, hx191_0⟩ := Kd.at_int HR0.out (ji33) p191 q191
                obtain rfl : ad184 = ad191 := (by injection e191)
                replace hx191_0 := (HB.out.cell (World.block_lt_of_cell? w _ hx191_0)).trans hx191_0
                replace p191 := eq_true p191
                replace q191 := eq_true q191
                have hcz39_0 : wr.cell? ⟨gb183, 0, none⟩ = some (.int .i64 x184000_4) := (blk_cell BK183.out 0).trans rfl
                have hcz39_1 : wr.cell? ⟨gb183, 1, none⟩ = some (.int .i64 x184001_4) := (blk_cell BK183.out 1).trans rfl
                have hcz39_2 : wr.cell? ⟨gb183, 2, none⟩ = some (.int .i64 x184002_4) := (blk_cell BK183.out 2).trans rfl
                have hcz39_3 : wr.cell? ⟨gb183, 3, none⟩ = some (.int .i64 x184003_4) := (blk_cell BK183.out 3).trans rfl
                have hcz39_4 : wr.cell? ⟨gb183, 4, none⟩ = some (.int .i64 x184004_4) := (blk_cell BK183.out 4).trans rfl
                have hfz39_0 := blk_frozen BK183.out 0
                have hfz39_1 := blk_frozen BK183.out 1
                have hfz39_2 := blk_frozen BK183.out 2
                have hfz39_3 := blk_frozen BK183.out 3
                have hfz39_4 := blk_frozen BK183.out 4
                go_wp2
                repeat (go_quiet (fail); try go_wp2)
                refine bodyPost_ret (results_ctt rfl _ _ gb183 26 #[.int .i64 0, .int .i64 0, .int .i64 0, .int .i64 0, .int .i64 0] (0, 0) _ rfl (by (with_reducible repeat (first | refine blk_drewN ?_ _ | refine blk_drew ?_ | refine blk_alloc ?_ _)); refine blk_put (cs := #[.int .i64 0, .int .i64 0, .int .i64 0, .int .i64 0, .int .i64 x184004_4]) ?_ 4 _ rfl; (with_reducible repeat (first | refine blk_drewN ?_ _ | refine blk_drew ?_ | refine blk_alloc ?_ _)); refine blk_put (cs := #[.int .i64 0, .int .i64 0, .int .i64 0, .int .i64 x184003_4, .int .i64 x184004_4]) ?_ 3 _ rfl; (with_reducible repeat (first | refine blk_drewN ?_ _ | refine blk_drew ?_ | refine blk_alloc ?_ _)); refine blk_put (cs := #[.int .i64 0, .int .i64 0, .int .i64 x184002_4, .int .i64 x184003_4, .int .i64 x184004_4]) ?_ 2 _ rfl; (with_reducible repeat (first | refine blk_drewN ?_ _ | refine blk_drew ?_ | refine blk_alloc ?_ _)); refine blk_put (cs := #[.int .i64 0, .int .i64 x184001_4, .int .i64 x184002_4, .int .i64 x184003_4, .int .i64 x184004_4]) ?_ 1 _ rfl; (with_reducible repeat (first | refine blk_drewN ?_ _ | refine blk_drew ?_ | refine blk_alloc ?_ _)); refine blk_put (cs := #[.int .i64 x184000_4, .int .i64 x184001_4, .int .i64 x184002_4, .int .i64 x184003_4, .int .i64 x184004_4]) ?_ 0 _ rfl; (with_reducible repeat (first | refine blk_drewN ?_ _ | refine blk_drew ?_ | refine blk_alloc ?_ _)); exact BK183.out) Tryd.underlying26 rfl (by kernel_rfl)) rfl ?_
                exact ⟨by first | rfl | (simp [errW_none, errW_some] <;> rfl) | (simp only [← hji33]; first | rfl | (simp [errW_none, errW_some] <;> rfl)) | (simp [*, errW_none, errW_some] <;> rfl), ts17_ HB.out GE183.out⟩
               rw [if_neg c35] at H
               exact absurd H (by simp)
              rw [if_neg c34] at H
              exact absurd H (by simp)
             rw [if_neg c32] at H
             exact absurd H (by simp)
            rw [if_neg c31] at H
            have c31b0 : decide (x9_4 < (t187.length : Int)) = false := decide_eq_false c31
            clear c31
            simp only [Option.some.injEq, Prod.mk.injEq] at H
            obtain ⟨rfl, rfl, rfl, rfl, rfl, rfl, rfl⟩ := H
            obtain ⟨Ao40, co40, eo40⟩ := Kd.R_slice HO_8.out
            subst eo40
            have hcz41_0 : wr.cell? ⟨gb183, 0, none⟩ = some (.int .i64 x184000_4) := (blk_cell BK183.out 0).trans rfl
            have hcz41_1 : wr.cell? ⟨gb183, 1, none⟩ = some (.int .i64 x184001_4) := (blk_cell BK183.out 1).trans rfl
            have hcz41_2 : wr.cell? ⟨gb183, 2, none⟩ = some (.int .i64 x184002_4) := (blk_cell BK183.out 2).trans rfl
            have hcz41_3 : wr.cell? ⟨gb183, 3, none⟩ = some (.int .i64 x184003_4) := (blk_cell BK183.out 3).trans rfl
            have hcz41_4 : wr.cell? ⟨gb183, 4, none⟩ = some (.int .i64 x184004_4) := (blk_cell BK183.out 4).trans rfl
            have hfz41_0 := blk_frozen BK183.out 0
            have hfz41_1 := blk_frozen BK183.out 1
            have hfz41_2 := blk_frozen BK183.out 2
            have hfz41_3 := blk_frozen BK183.out 3
            have hfz41_4 := blk_frozen BK183.out 4
            go_wp2
            repeat (go_quiet (fail); try go_wp2)
            refine bodyPost_ret (results_ctt rfl _ _ gb183 26 #[.int .i64 x184000_4, .int .i64 x184001_4, .int .i64 x184002_4, .int .i64 x184003_4, .int .i64 x184004_4] (0, 0) _ rfl (by (with_reducible repeat (first | refine blk_drewN ?_ _ | refine blk_drew ?_ | refine blk_alloc ?_ _)); refine blk_put (cs := #[.int .i64 x184000_4, .int .i64 x184001_4, .int .i64 x184002_4, .int .i64 x184003_4, .int .i64 x184004_4]) ?_ 4 _ rfl; (with_reducible repeat (first | refine blk_drewN ?_ _ | refine blk_drew ?_ | refine blk_alloc ?_ _)); refine blk_put (cs := #[.int .i64 x184000_4, .int .i64 x184001_4, .int .i64 x184002_4, .int .i64 x184003_4, .int .i64 x184004_4]) ?_ 3 _ rfl; (with_reducible repeat (first | refine blk_drewN ?_ _ | refine blk_drew ?_ | refine blk_alloc ?_ _)); refine blk_put (cs := #[.int .i64 x184000_4, .int .i64 x184001_4, .int .i64 x184002_4, .int .i64 x184003_4, .int .i64 x184004_4]) ?_ 2 _ rfl; (with_reducible repeat (first | refine blk_drewN ?_ _ | refine blk_drew ?_ | refine blk_alloc ?_ _)); refine blk_put (cs := #[.int .i64 x184000_4, .int .i64 x184001_4, .int .i64 x184002_4, .int .i64 x184003_4, .int .i64 x184004_4]) ?_ 1 _ rfl; (with_reducible repeat (first | refine blk_drewN ?_ _ | refine blk_drew ?_ | refine blk_alloc ?_ _)); refine blk_put (cs := #[.int .i64 x184000_4, .int .i64 x184001_4, .int .i64 x184002_4, .int .i64 x184003_4, .int .i64 x184004_4]) ?_ 0 _ rfl; (with_reducible repeat (first | refine blk_drewN ?_ _ | refine blk_drew ?_ | refine blk_alloc ?_ _)); exact BK183.out) Tryd.underlying26 rfl (by kernel_rfl)) rfl ?_
            exact ⟨ts26_, ts17_ HB.out GE183.out⟩
         replace c25 := Bool.eq_false_iff.mpr c25
         subst c25
         rw [if_neg Bool.false_ne_true] at H
         simp only [Option.some.injEq, Prod.mk.injEq] at H
         obtain ⟨rfl, rfl, rfl, rfl, rfl, rfl, rfl⟩ := H
         have hcz42_0 : wc.cell? ⟨gb183, 0, none⟩ = some (.int .i64 x184000_14) := (blk_cell BK183.out 0).trans rfl
         have hcz42_1 : wc.cell? ⟨gb183, 1, none⟩ = some (.int .i64 x184001_14) := (blk_cell BK183.out 1).trans rfl
         have hcz42_2 : wc.cell? ⟨gb183, 2, none⟩ = some (.int .i64 x184002_14) := (blk_cell BK183.out 2).trans rfl
         have hcz42_3 : wc.cell? ⟨gb183, 3, none⟩ = some (.int .i64 x184003_14) := (blk_cell BK183.out 3).trans rfl
         have hcz42_4 : wc.cell? ⟨gb183, 4, none⟩ = some (.int .i64 x184004_14) := (blk_cell BK183.out 4).trans rfl
         have hfz42_0 := blk_frozen BK183.out 0
         have hfz42_1 := blk_frozen BK183.out 1
         have hfz42_2 := blk_frozen BK183.out 2
         have hfz42_3 := blk_frozen BK183.out 3
         have hfz42_4 := blk_frozen BK183.out 4
         go_wp2_with (first | (go_at_call 11; (with_reducible refine (cupelref20_Valid.calls x184000_14 x184001_14 x184002_14 x184003_14 x184004_14 false _ A24.out).mono ?_); rintro e w43 ⟨rfl, hb⟩; replace BK183 := Aside0.mk (blk_below (g := gb183) (o := .cells #[.int .i64 x184000_14, .int .i64 x184001_14, .int .i64 x184002_14, .int .i64 x184003_14, .int .i64 x184004_14] 26 (0, 0)) (ts14_ BK183.out) hb); replace HB := Aside0.mk (below_step (ts17_ HB.out GE183.out) hb); clear hb; have hcz44_0 : w43.cell? ⟨gb183, 0, none⟩ = some (.int .i64 x184000_14) := (blk_cell BK183.out 0).trans rfl; have hcz44_1 : w43.cell? ⟨gb183, 1, none⟩ = some (.int .i64 x184001_14) := (blk_cell BK183.out 1).trans rfl; have hcz44_2 : w43.cell? ⟨gb183, 2, none⟩ = some (.int .i64 x184002_14) := (blk_cell BK183.out 2).trans rfl; have hcz44_3 : w43.cell? ⟨gb183, 3, none⟩ = some (.int .i64 x184003_14) := (blk_cell BK183.out 3).trans rfl; have hcz44_4 : w43.cell? ⟨gb183, 4, none⟩ = some (.int .i64 x184004_14) := (blk_cell BK183.out 4).trans rfl; have hfz44_0 := blk_frozen BK183.out 0; have hfz44_1 := blk_frozen BK183.out 1; have hfz44_2 := blk_frozen BK183.out 2; have hfz44_3 := blk_frozen BK183.out 3; have hfz44_4 := blk_frozen BK183.out 4))
         repeat (go_quiet (first | (go_at_call 11; (with_reducible refine (cupelref20_Valid.calls x184000_14 x184001_14 x184002_14 x184003_14 x184004_14 false _ A24.out).mono ?_); rintro e w43 ⟨rfl, hb⟩; replace BK183 := Aside0.mk (blk_below (g := gb183) (o := .cells #[.int .i64 x184000_14, .int .i64 x184001_14, .int .i64 x184002_14, .int .i64 x184003_14, .int .i64 x184004_14] 26 (0, 0)) (ts14_ BK183.out) hb); replace HB := Aside0.mk (below_step (ts17_ HB.out GE183.out) hb); clear hb; have hcz44_0 : w43.cell? ⟨gb183, 0, none⟩ = some (.int .i64 x184000_14) := (blk_cell BK183.out 0).trans rfl; have hcz44_1 : w43.cell? ⟨gb183, 1, none⟩ = some (.int .i64 x184001_14) := (blk_cell BK183.out 1).trans rfl; have hcz44_2 : w43.cell? ⟨gb183, 2, none⟩ = some (.int .i64 x184002_14) := (blk_cell BK183.out 2).trans rfl; have hcz44_3 : w43.cell? ⟨gb183, 3, none⟩ = some (.int .i64 x184003_14) := (blk_cell BK183.out 3).trans rfl; have hcz44_4 : w43.cell? ⟨gb183, 4, none⟩ = some (.int .i64 x184004_14) := (blk_cell BK183.out 4).trans rfl; have hfz44_0 := blk_frozen BK183.out 0; have hfz44_1 := blk_frozen BK183.out 1; have hfz44_2 := blk_frozen BK183.out 2; have hfz44_3 := blk_frozen BK183.out 3; have hfz44_4 := blk_frozen BK183.out 4)); try go_wp2_with (first | (go_at_call 11; (with_reducible refine (cupelref20_Valid.calls x184000_14 x184001_14 x184002_14 x184003_14 x184004_14 false _ A24.out).mono ?_); rintro e w43 ⟨rfl, hb⟩; replace BK183 := Aside0.mk (blk_below (g := gb183) (o := .cells #[.int .i64 x184000_14, .int .i64 x184001_14, .int .i64 x184002_14, .int .i64 x184003_14, .int .i64 x184004_14] 26 (0, 0)) (ts14_ BK183.out) hb); replace HB := Aside0.mk (below_step (ts17_ HB.out GE183.out) hb); clear hb; have hcz44_0 : w43.cell? ⟨gb183, 0, none⟩ = some (.int .i64 x184000_14) := (blk_cell BK183.out 0).trans rfl; have hcz44_1 : w43.cell? ⟨gb183, 1, none⟩ = some (.int .i64 x184001_14) := (blk_cell BK183.out 1).trans rfl; have hcz44_2 : w43.cell? ⟨gb183, 2, none⟩ = some (.int .i64 x184002_14) := (blk_cell BK183.out 2).trans rfl; have hcz44_3 : w43.cell? ⟨gb183, 3, none⟩ = some (.int .i64 x184003_14) := (blk_cell BK183.out 3).trans rfl; have hcz44_4 : w43.cell? ⟨gb183, 4, none⟩ = some (.int .i64 x184004_14) := (blk_cell BK183.out 4).trans rfl; have hfz44_0 := blk_frozen BK183.out 0; have hfz44_1 := blk_frozen BK183.out 1; have hfz44_2 := blk_frozen BK183.out 2; have hfz44_3 := blk_frozen BK183.out 3; have hfz44_4 := blk_frozen BK183.out 4)))
         refine bodyPost_ret (results_ctt rfl _ _ gb183 26 #[.int .i64 0, .int .i64 0, .int .i64 0, .int .i64 0, .int .i64 0] (0, 0) _ rfl (by (with_reducible repeat (first | refine blk_drewN ?_ _ | refine blk_drew ?_ | refine blk_alloc ?_ _)); refine blk_put (cs := #[.int .i64 0, .int .i64 0, .int .i64 0, .int .i64 0, .int .i64 x184004_14]) ?_ 4 _ rfl; (with_reducible repeat (first | refine blk_drewN ?_ _ | refine blk_drew ?_ | refine blk_alloc ?_ _)); refine blk_put (cs := #[.int .i64 0, .int .i64 0, .int .i64 0, .int .i64 x184003_14, .int .i64 x184004_14]) ?_ 3 _ rfl; (with_reducible repeat (first | refine blk_drewN ?_ _ | refine blk_drew ?_ | refine blk_alloc ?_ _)); refine blk_put (cs := #[.int .i64 0, .int .i64 0, .int .i64 x184002_14, .int .i64 x184003_14, .int .i64 x184004_14]) ?_ 2 _ rfl; (with_reducible repeat (first | refine blk_drewN ?_ _ | refine blk_drew ?_ | refine blk_alloc ?_ _)); refine blk_put (cs := #[.int .i64 0, .int .i64 x184001_14, .int .i64 x184002_14, .int .i64 x184003_14, .int .i64 x184004_14]) ?_ 1 _ rfl; (with_reducible repeat (first | refine blk_drewN ?_ _ | refine blk_drew ?_ | refine blk_alloc ?_ _)); refine blk_put (cs := #[.int .i64 x184000_14, .int .i64 x184001_14, .int .i64 x184002_14, .int .i64 x184003_14, .int .i64 x184004_14]) ?_ 0 _ rfl; (with_reducible repeat (first | refine blk_drewN ?_ _ | refine blk_drew ?_ | refine blk_alloc ?_ _)); exact BK183.out) Tryd.underlying26 rfl (by kernel_rfl)) rfl ?_
         exact ⟨ts26_, ts17_ HB.out GE183.out⟩
    rw [if_neg c9] at H
    exact absurd H (by simp)
   rw [if_neg c8] at H
   exact absurd H (by simp)
end Go.Proofs.YtlaijeeeblcinaaDoor.A
