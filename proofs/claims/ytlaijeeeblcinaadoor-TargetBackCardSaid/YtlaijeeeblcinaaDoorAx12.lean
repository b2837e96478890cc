/- Written by wip/tools/xprint.py, a program of this session that drives the kit's printer. Not trusted: Lean checks it. -/
import Derived.Test.YtlaijeeeblcinaaDoorAx0
set_option linter.all false
set_option maxHeartbeats 8000000
set_option maxRecDepth 100000
namespace Go.Proofs.YtlaijeeeblcinaaDoor.A
open Go.RowKit Go.Proofs.YtlaijeeeblcinaaDoorW.PrintWords Go.Proofs.YtlaijeeeblcinaaDoorW.PrintLast Go.Proofs.YtlaijeeeblcinaaDoorW.PrintMore
attribute [local go_sem] max2_int min2_int max_two min_two max_three min_three max_four min_four   -- for this text's walks alone
set_option linter.unusedVariables false
set_option linter.unusedSimpArgs false
/-! ### cupelref20_Same: function 21 -/
mutual
def cupelref20_Same.j0 : Nat → Bool → List Int → List Int → Int → List Int → List Int → Int → Option (Bool)
 | 0, _, _, _, _, _, _, _ => none
 | k + 1, x29, x586000, x586001, x586002, x587000, x587001, x587002 => if x29 = true then (some false) else (cupelref20_Same.l0 k 0 x586000 x586001 x586002 x587000 x587001 x587002)
def cupelref20_Same.l0 : Nat → Int → List Int → List Int → Int → List Int → List Int → Int → Option (Bool)
 | 0, _, _, _, _, _, _, _ => none
 | k + 1, x5, x586000, x586001, x586002, x587000, x587001, x587002 => if x5 < (x586000.length : Int) then (if 0 ≤ x5 then (if x5 < (x587000.length : Int) then (if (rd x586000 x5) = (rd x587000 x5) then (cupelref20_Same.l0 k (wrap64 (x5 + 1)) x586000 x586001 x586002 x587000 x587001 x587002) else (some false)) else (none)) else (none)) else (cupelref20_Same.l1 k 0 x586000 x586001 x586002 x587000 x587001 x587002)
def cupelref20_Same.l1 : Nat → Int → List Int → List Int → Int → List Int → List Int → Int → Option (Bool)
 | 0, _, _, _, _, _, _, _ => none
 | k + 1, x6, x586000, x586001, x586002, x587000, x587001, x587002 => if x6 < (x586001.length : Int) then (if 0 ≤ x6 then (if x6 < (x587001.length : Int) then (if (rd x586001 x6) = (rd x587001 x6) then (cupelref20_Same.l1 k (wrap64 (x6 + 1)) x586000 x586001 x586002 x587000 x587001 x587002) else (some false)) else (none)) else (none)) else (some true)
end
def cupelref20_Same.f (k : Nat) (l0_0 : List Int) (l0_1 : List Int) (a0_2 : Int) (l1_0 : List Int) (l1_1 : List Int) (a1_2 : Int) : Option (Bool) := if a0_2 = a1_2 then (if (l0_0.length : Int) = (l1_0.length : Int) then (cupelref20_Same.j0 k ((l0_1.length : Int) != (l1_1.length : Int)) l0_0 l0_1 a0_2 l1_0 l1_1 a1_2) else (cupelref20_Same.j0 k true l0_0 l0_1 a0_2 l1_0 l1_1 a1_2)) else (cupelref20_Same.j0 k true l0_0 l0_1 a0_2 l1_0 l1_1 a1_2)
theorem cupelref20_Same.mono_l : ∀ k, (∀ y0 y1 y2 y3 y4 y5 y6, LeO (cupelref20_Same.j0 k y0 y1 y2 y3 y4 y5 y6) (cupelref20_Same.j0 (k + 1) y0 y1 y2 y3 y4 y5 y6)) ∧ (∀ y0 y1 y2 y3 y4 y5 y6, LeO (cupelref20_Same.l0 k y0 y1 y2 y3 y4 y5 y6) (cupelref20_Same.l0 (k + 1) y0 y1 y2 y3 y4 y5 y6)) ∧ (∀ y0 y1 y2 y3 y4 y5 y6, LeO (cupelref20_Same.l1 k y0 y1 y2 y3 y4 y5 y6) (cupelref20_Same.l1 (k + 1) y0 y1 y2 y3 y4 y5 y6))
 | 0 => ⟨fun _ _ _ _ _ _ _ r h => by simp [cupelref20_Same.j0] at h, fun _ _ _ _ _ _ _ r h => by simp [cupelref20_Same.l0] at h, fun _ _ _ _ _ _ _ r h => by simp [cupelref20_Same.l1] at h⟩
 | k + 1 => by
  obtain ⟨ih0, ih1, ih2⟩ := cupelref20_Same.mono_l k
  refine ⟨?_, ?_, ?_⟩
  ·intro y0 y1 y2 y3 y4 y5 y6
   unfold cupelref20_Same.j0
   repeat' first
   | (with_reducible exact ih0 _ _ _ _ _ _ _)
   | (with_reducible exact ih1 _ _ _ _ _ _ _)
   | (with_reducible exact ih2 _ _ _ _ _ _ _)
   | (with_reducible exact LeO.refl _)
   | (with_reducible exact LeO.none _)
   | (with_reducible refine LeO.ite ?_ ?_)
   | (with_reducible refine LeO.bind ?_ (fun _ => ?_))
   | exact LeO.none _
   | refine LeO.ite ?_ ?_
   | refine LeO.bind ?_ (fun _ => ?_)
  ·intro y0 y1 y2 y3 y4 y5 y6
   unfold cupelref20_Same.l0
   repeat' first
   | (with_reducible exact ih0 _ _ _ _ _ _ _)
   | (with_reducible exact ih1 _ _ _ _ _ _ _)
   | (with_reducible exact ih2 _ _ _ _ _ _ _)
   | (with_reducible exact LeO.refl _)
   | (with_reducible exact LeO.none _)
   | (with_reducible refine LeO.ite ?_ ?_)
   | (with_reducible refine LeO.bind ?_ (fun _ => ?_))
   | exact LeO.none _
   | refine LeO.ite ?_ ?_
   | refine LeO.bind ?_ (fun _ => ?_)
  intro y0 y1 y2 y3 y4 y5 y6
  unfold cupelref20_Same.l1
  repeat' first
  | (with_reducible exact ih0 _ _ _ _ _ _ _)
  | (with_reducible exact ih1 _ _ _ _ _ _ _)
  | (with_reducible exact ih2 _ _ _ _ _ _ _)
  | (with_reducible exact LeO.refl _)
  | (with_reducible exact LeO.none _)
  | (with_reducible refine LeO.ite ?_ ?_)
  | (with_reducible refine LeO.bind ?_ (fun _ => ?_))
  | exact LeO.none _
  | refine LeO.ite ?_ ?_
  | refine LeO.bind ?_ (fun _ => ?_)
theorem cupelref20_Same.mono : ∀ a0 a1 a2 a3 a4 a5 k, LeO (cupelref20_Same.f k a0 a1 a2 a3 a4 a5) (cupelref20_Same.f (k + 1) a0 a1 a2 a3 a4 a5) := by
 intro a0 a1 a2 a3 a4 a5 k
 obtain ⟨ih0, ih1, ih2⟩ := cupelref20_Same.mono_l k
 unfold cupelref20_Same.f
 repeat' first
   | (with_reducible exact ih0 _ _ _ _ _ _ _)
   | (with_reducible exact ih1 _ _ _ _ _ _ _)
   | (with_reducible exact ih2 _ _ _ _ _ _ _)
   | (with_reducible exact LeO.refl _)
   | (with_reducible exact LeO.none _)
   | (with_reducible refine LeO.ite ?_ ?_)
   | (with_reducible refine LeO.bind ?_ (fun _ => ?_))
   | exact LeO.none _
   | refine LeO.ite ?_ ?_
   | refine LeO.bind ?_ (fun _ => ?_)
theorem cupelref20_Same.calls (k : Nat) (A0_0 : Option Addr) (c0_0 : Nat) (l0_0 : List Int) (A0_1 : Option Addr) (c0_1 : Nat) (l0_1 : List Int) (a0_2 : Int) (A1_0 : Option Addr) (c1_0 : Nat) (l1_0 : List Int) (A1_1 : Option Addr) (c1_1 : Nat) (l1_1 : List Int) (a1_2 : Int) (r : Bool) (w : World) (hr0_0 : Kd.C (Kd.int .u64) w A0_0 l0_0.length l0_0) (hc0_0 : l0_0.length ≤ c0_0) (hr0_1 : Kd.C (Kd.int .i64) w A0_1 l0_1.length l0_1) (hc0_1 : l0_1.length ≤ c0_1) (hr1_0 : Kd.C (Kd.int .u64) w A1_0 l1_0.length l1_0) (hc1_0 : l1_0.length ≤ c1_0) (hr1_1 : Kd.C (Kd.int .i64) w A1_1 l1_1.length l1_1) (hc1_1 : l1_1.length ≤ c1_1) (h : cupelref20_Same.f k l0_0 l0_1 a0_2 l1_0 l1_1 a1_2 = some r) :
  Calls Tryd.prog 21 #[.agg #[.slice A0_0 l0_0.length c0_0, .slice A0_1 l0_1.length c0_1, .int .i64 a0_2], .agg #[.slice A1_0 l1_0.length c1_0, .slice A1_1 l1_1.length c1_1, .int .i64 a1_2]] w fun e w' => e = .returned (.bool r) ∧ Below w.heap.size w w' := by
 have hu35 := Tryd.underlying35
 have HR0_0 := Aside0.mk hr0_0
 have HC0_0 := Aside0.mk hc0_0
 clear hr0_0 hc0_0
 have HR0_1 := Aside0.mk hr0_1
 have HC0_1 := Aside0.mk hc0_1
 clear hr0_1 hc0_1
 have HR1_0 := Aside0.mk hr1_0
 have HC1_0 := Aside0.mk hc1_0
 clear hr1_0 hc1_0
 have HR1_1 := Aside0.mk hr1_1
 have HC1_1 := Aside0.mk hc1_1
 clear hr1_1 hc1_1
 have HB := Aside0.mk (Below.refl w.heap.size w)
 have H : (if a0_2 = a1_2 then (if (l0_0.length : Int) = (l1_0.length : Int) then (cupelref20_Same.j0 k ((l0_1.length : Int) != (l1_1.length : Int)) l0_0 l0_1 a0_2 l1_0 l1_1 a1_2) else (cupelref20_Same.j0 k true l0_0 l0_1 a0_2 l1_0 l1_1 a1_2)) else (cupelref20_Same.j0 k true l0_0 l0_1 a0_2 l1_0 l1_1 a1_2)) = some r := h
 clear h
 have HC3 := Aside0.mk H
 clear H
 go_enter Tryd.func21, Tryd.ntmps21
 go_upto_region 1 with (first | ((with_reducible refine gate_dst (N := 2) rfl ?_); (try (refine gate_guard (by rfl) ?_; dsimp only)); refine box_event ?hg (N := 2) ?hd (cs := #[.slice A0_0 l0_0.length c0_0, .slice A0_1 l0_1.length c0_1, .int .i64 a0_2]) (t := 35) ?hr ?_; (case hd => rfl); (case hg => rfl); (case hr => exact ts19_); intro gb585 hg w4 hbox hb; have BK585 := Aside0.mk (hbox); have GW585 := Aside0.mk ((ts63_ HB.out : w.heap.size ≤ gb585)); have GE585 := Aside0.mk ((ts63_ HB.out : w.heap.size ≤ gb585)); replace HB := Aside0.mk (below_step (ts47_ HB.out) hb); clear hb hbox hg) | ((with_reducible refine gate_dst (N := 3) rfl ?_); (try (refine gate_guard (by rfl) ?_; dsimp only)); refine box_event ?hg (N := 3) ?hd (cs := #[.slice A1_0 l1_0.length c1_0, .slice A1_1 l1_1.length c1_1, .int .i64 a1_2]) (t := 35) ?hr ?_; (case hd => rfl); (case hg => rfl); (case hr => exact ts19_); intro gb586 hg w5 hbox hb; have BK586 := Aside0.mk (hbox); have GW586 := Aside0.mk ((ts65_ HB.out GE585.out : w.heap.size ≤ gb586)); have GE586 := Aside0.mk ((ts65_ HB.out GE585.out : w.heap.size ≤ gb586)); replace HB := Aside0.mk (below_step (ts22_ HB.out GE585.out) hb); have NB585_586 := Aside0.mk ((ts67_ BK585.out : gb585 ≠ gb586)); have NB586_585 := Aside0.mk ((ts55_ BK585.out : gb586 ≠ gb585)); replace BK585 := Aside0.mk (blk_below (g := gb585) (o := .cells #[.slice A0_0 l0_0.length c0_0, .slice A0_1 l0_1.length c0_1, .int .i64 a0_2] 35 (0, 0)) (ts18_ BK585.out) hb); clear hb hbox hg))
 repeat (go_quiet (first | ((with_reducible refine gate_dst (N := 2) rfl ?_); (try (refine gate_guard (by rfl) ?_; dsimp only)); refine box_event ?hg (N := 2) ?hd (cs := #[.slice A0_0 l0_0.length c0_0, .slice A0_1 l0_1.length c0_1, .int .i64 a0_2]) (t := 35) ?hr ?_; (case hd => rfl); (case hg => rfl); (case hr => exact ts19_); intro gb585 hg w4 hbox hb; have BK585 := Aside0.mk (hbox); have GW585 := Aside0.mk ((ts63_ HB.out : w.heap.size ≤ gb585)); have GE585 := Aside0.mk ((ts63_ HB.out : w.heap.size ≤ gb585)); replace HB := Aside0.mk (below_step (ts47_ HB.out) hb); clear hb hbox hg) | ((with_reducible refine gate_dst (N := 3) rfl ?_); (try (refine gate_guard (by rfl) ?_; dsimp only)); refine box_event ?hg (N := 3) ?hd (cs := #[.slice A1_0 l1_0.length c1_0, .slice A1_1 l1_1.length c1_1, .int .i64 a1_2]) (t := 35) ?hr ?_; (case hd => rfl); (case hg => rfl); (case hr => exact ts19_); intro gb586 hg w5 hbox hb; have BK586 := Aside0.mk (hbox); have GW586 := Aside0.mk ((ts65_ HB.out GE585.out : w.heap.size ≤ gb586)); have GE586 := Aside0.mk ((ts65_ HB.out GE585.out : w.heap.size ≤ gb586)); replace HB := Aside0.mk (below_step (ts22_ HB.out GE585.out) hb); have NB585_586 := Aside0.mk ((ts67_ BK585.out : gb585 ≠ gb586)); have NB586_585 := Aside0.mk ((ts55_ BK585.out : gb586 ≠ gb585)); replace BK585 := Aside0.mk (blk_below (g := gb585) (o := .cells #[.slice A0_0 l0_0.length c0_0, .slice A0_1 l0_1.length c0_1, .int .i64 a0_2] 35 (0, 0)) (ts18_ BK585.out) hb); clear hb hbox hg)); go_upto_region 1 with (first | ((with_reducible refine gate_dst (N := 2) rfl ?_); (try (refine gate_guard (by rfl) ?_; dsimp only)); refine box_event ?hg (N := 2) ?hd (cs := #[.slice A0_0 l0_0.length c0_0, .slice A0_1 l0_1.length c0_1, .int .i64 a0_2]) (t := 35) ?hr ?_; (case hd => rfl); (case hg => rfl); (case hr => exact ts19_); intro gb585 hg w4 hbox hb; have BK585 := Aside0.mk (hbox); have GW585 := Aside0.mk ((ts63_ HB.out : w.heap.size ≤ gb585)); have GE585 := Aside0.mk ((ts63_ HB.out : w.heap.size ≤ gb585)); replace HB := Aside0.mk (below_step (ts47_ HB.out) hb); clear hb hbox hg) | ((with_reducible refine gate_dst (N := 3) rfl ?_); (try (refine gate_guard (by rfl) ?_; dsimp only)); refine box_event ?hg (N := 3) ?hd (cs := #[.slice A1_0 l1_0.length c1_0, .slice A1_1 l1_1.length c1_1, .int .i64 a1_2]) (t := 35) ?hr ?_; (case hd => rfl); (case hg => rfl); (case hr => exact ts19_); intro gb586 hg w5 hbox hb; have BK586 := Aside0.mk (hbox); have GW586 := Aside0.mk ((ts65_ HB.out GE585.out : w.heap.size ≤ gb586)); have GE586 := Aside0.mk ((ts65_ HB.out GE585.out : w.heap.size ≤ gb586)); replace HB := Aside0.mk (below_step (ts22_ HB.out GE585.out) hb); have NB585_586 := Aside0.mk ((ts67_ BK585.out : gb585 ≠ gb586)); have NB586_585 := Aside0.mk ((ts55_ BK585.out : gb586 ≠ gb585)); replace BK585 := Aside0.mk (blk_below (g := gb585) (o := .cells #[.slice A0_0 l0_0.length c0_0, .slice A0_1 l0_1.length c0_1, .int .i64 a0_2] 35 (0, 0)) (ts18_ BK585.out) hb); clear hb hbox hg)))
 (try simp only [Act.put, List.setIfInBounds_toArray, List.set_cons_zero, List.set_cons_succ])
 go_cut [29] (fun v29 wc => ∃ (kq : Nat) (x29_2 : Bool), v29 = .bool x29_2 ∧ Aside0 (cupelref20_Same.j0 kq x29_2 l0_0 l0_1 a0_2 l1_0 l1_1 a1_2 = some r) ∧ Aside0 (kq ≤ k) ∧ Aside0 (wc.heap[gb585]? = some (.cells #[(.slice A0_0 l0_0.length c0_0), (.slice A0_1 l0_1.length c0_1), .int .i64 a0_2] 35 (0, 0))) ∧ Aside0 (wc.heap[gb586]? = some (.cells #[(.slice A1_0 l1_0.length c1_0), (.slice A1_1 l1_1.length c1_1), .int .i64 a1_2] 35 (0, 0))) ∧ Aside0 (Below w.heap.size w wc))
 case first =>
  have H := HC3.out
  clear HC3
  by_cases c6 : a0_2 = a1_2
  ·rw [if_pos c6] at H
   have c6b0 : (a0_2 == a1_2) = true := beq_iff_eq.mpr c6
   have c6b1 : (a0_2 != a1_2) = false := bne_eq_false_iff_eq.mpr c6
   clear c6
   (first | rw [c6b0] | (simp only [i64_w, i32_w]; rw [c6b0]) | skip)
   by_cases c7 : (l0_0.length : Int) = (l1_0.length : Int)
   ·rw [if_pos c7] at H
    have c7b0 : ((l0_0.length : Int) == (l1_0.length : Int)) = true := beq_iff_eq.mpr c7
    have c7b1 : ((l0_0.length : Int) != (l1_0.length : Int)) = false := bne_eq_false_iff_eq.mpr c7
    have c7b2 : (l0_0.length == l1_0.length) = true := by first | simpa using c7 | (simp at c7 ⊢; omega)
    clear c7
    have H' := Aside0.mk H
    clear H
    have hnb8 := NB585_586.out
    have hnc8 := NB586_585.out
    have hcz9_0 : w5.cell? ⟨gb585, 0, none⟩ = some (.slice A0_0 l0_0.length c0_0) := (blk_cell BK585.out 0).trans rfl
    have hcz9_1 : w5.cell? ⟨gb585, 1, none⟩ = some (.slice A0_1 l0_1.length c0_1) := (blk_cell BK585.out 1).trans rfl
    have hcz9_2 : w5.cell? ⟨gb585, 2, none⟩ = some (.int .i64 a0_2) := (blk_cell BK585.out 2).trans rfl
    have hfz9_0 := blk_frozen BK585.out 0
    have hfz9_1 := blk_frozen BK585.out 1
    have hfz9_2 := blk_frozen BK585.out 2
    have hcz10_0 : w5.cell? ⟨gb586, 0, none⟩ = some (.slice A1_0 l1_0.length c1_0) := (blk_cell BK586.out 0).trans rfl
    have hcz10_1 : w5.cell? ⟨gb586, 1, none⟩ = some (.slice A1_1 l1_1.length c1_1) := (blk_cell BK586.out 1).trans rfl
    have hcz10_2 : w5.cell? ⟨gb586, 2, none⟩ = some (.int .i64 a1_2) := (blk_cell BK586.out 2).trans rfl
    have hfz10_0 := blk_frozen BK586.out 0
    have hfz10_1 := blk_frozen BK586.out 1
    have hfz10_2 := blk_frozen BK586.out 2
    go_wp2
    repeat (go_quiet (fail); try go_wp2)
    go_meet
    case rel => exact ⟨_, (((l0_1.length : Int) != (l1_1.length : Int))), ts45_, H', ⟨ts1_⟩, ⟨ts18_ BK585.out⟩, ⟨ts18_ BK586.out⟩, ⟨ts32_ HB.out GE585.out GE586.out⟩⟩
   rw [if_neg c7] at H
   have c7b0 : ((l0_0.length : Int) == (l1_0.length : Int)) = false := beq_eq_false_iff_ne.mpr c7
   have c7b1 : ((l0_0.length : Int) != (l1_0.length : Int)) = true := bne_iff_ne.mpr c7
   have c7b2 : (l0_0.length == l1_0.length) = false := by first | simpa using c7 | (simp at c7 ⊢; omega)
   have H' := Aside0.mk H
   clear H
   have hnb11 := NB585_586.out
   have hnc11 := NB586_585.out
   have hcz12_0 : w5.cell? ⟨gb585, 0, none⟩ = some (.slice A0_0 l0_0.length c0_0) := (blk_cell BK585.out 0).trans rfl
   have hcz12_1 : w5.cell? ⟨gb585, 1, none⟩ = some (.slice A0_1 l0_1.length c0_1) := (blk_cell BK585.out 1).trans rfl
   have hcz12_2 : w5.cell? ⟨gb585, 2, none⟩ = some (.int .i64 a0_2) := (blk_cell BK585.out 2).trans rfl
   have hfz12_0 := blk_frozen BK585.out 0
   have hfz12_1 := blk_frozen BK585.out 1
   have hfz12_2 := blk_frozen BK585.out 2
   have hcz13_0 : w5.cell? ⟨gb586, 0, none⟩ = some (.slice A1_0 l1_0.length c1_0) := (blk_cell BK586.out 0).trans rfl
   have hcz13_1 : w5.cell? ⟨gb586, 1, none⟩ = some (.slice A1_1 l1_1.length c1_1) := (blk_cell BK586.out 1).trans rfl
   have hcz13_2 : w5.cell? ⟨gb586, 2, none⟩ = some (.int .i64 a1_2) := (blk_cell BK586.out 2).trans rfl
   have hfz13_0 := blk_frozen BK586.out 0
   have hfz13_1 := blk_frozen BK586.out 1
   have hfz13_2 := blk_frozen BK586.out 2
   go_wp2
   repeat (go_quiet (fail); try go_wp2)
   go_meet
   case rel => exact ⟨_, (true), ts45_, H', ⟨ts1_⟩, ⟨ts18_ BK585.out⟩, ⟨ts18_ BK586.out⟩, ⟨ts32_ HB.out GE585.out GE586.out⟩⟩
  rw [if_neg c6] at H
  have c6b0 : (a0_2 == a1_2) = false := beq_eq_false_iff_ne.mpr c6
  have c6b1 : (a0_2 != a1_2) = true := bne_iff_ne.mpr c6
  (first | rw [c6b0] | (simp only [i64_w, i32_w]; rw [c6b0]) | skip)
  have H' := Aside0.mk H
  clear H
  have hnb14 := NB585_586.out
  have hnc14 := NB586_585.out
  have hcz15_0 : w5.cell? ⟨gb585, 0, none⟩ = some (.slice A0_0 l0_0.length c0_0) := (blk_cell BK585.out 0).trans rfl
  have hcz15_1 : w5.cell? ⟨gb585, 1, none⟩ = some (.slice A0_1 l0_1.length c0_1) := (blk_cell BK585.out 1).trans rfl
  have hcz15_2 : w5.cell? ⟨gb585, 2, none⟩ = some (.int .i64 a0_2) := (blk_cell BK585.out 2).trans rfl
  have hfz15_0 := blk_frozen BK585.out 0
  have hfz15_1 := blk_frozen BK585.out 1
  have hfz15_2 := blk_frozen BK585.out 2
  have hcz16_0 : w5.cell? ⟨gb586, 0, none⟩ = some (.slice A1_0 l1_0.length c1_0) := (blk_cell BK586.out 0).trans rfl
  have hcz16_1 : w5.cell? ⟨gb586, 1, none⟩ = some (.slice A1_1 l1_1.length c1_1) := (blk_cell BK586.out 1).trans rfl
  have hcz16_2 : w5.cell? ⟨gb586, 2, none⟩ = some (.int .i64 a1_2) := (blk_cell BK586.out 2).trans rfl
  have hfz16_0 := blk_frozen BK586.out 0
  have hfz16_1 := blk_frozen BK586.out 1
  have hfz16_2 := blk_frozen BK586.out 2
  go_wp2
  repeat (go_quiet (fail); try go_wp2)
  go_meet
  case rel => exact ⟨_, (true), ts45_, H', ⟨ts1_⟩, ⟨ts18_ BK585.out⟩, ⟨ts18_ BK586.out⟩, ⟨ts32_ HB.out GE585.out GE586.out⟩⟩
 case rest =>
  clear HC3
  try clear c1
  try clear c2
  try clear p2
  try clear c6
  try clear c6b0
  try clear c6b1
  try clear c7
  try clear c7b0
  try clear c7b1
  try clear c7b2
  try clear c8
  try clear c11
  try clear c14
  try clear hcz10_0
  try clear hcz10_1
  try clear hcz10_2
  try clear hcz12_0
  try clear hcz12_1
  try clear hcz12_2
  try clear hcz13_0
  try clear hcz13_1
  try clear hcz13_2
  try clear hcz15_0
  try clear hcz15_1
  try clear hcz15_2
  try clear hcz16_0
  try clear hcz16_1
  try clear hcz16_2
  try clear hcz9_0
  try clear hcz9_1
  try clear hcz9_2
  try clear hfz10_0
  try clear hfz10_1
  try clear hfz10_2
  try clear hfz12_0
  try clear hfz12_1
  try clear hfz12_2
  try clear hfz13_0
  try clear hfz13_1
  try clear hfz13_2
  try clear hfz15_0
  try clear hfz15_1
  try clear hfz15_2
  try clear hfz16_0
  try clear hfz16_1
  try clear hfz16_2
  try clear hfz9_0
  try clear hfz9_1
  try clear hfz9_2
  obtain ⟨kq, x29_2, rfl, HA, HJ2, BK585, BK586, HB⟩ := hcut
  cases kq with
  | zero => exact absurd HA.out (by simp [cupelref20_Same.j0])
  | succ kj2 =>
   have H := HA.out
   clear HA
   simp only [cupelref20_Same.j0] at H
   by_cases c17 : x29_2 = true
   ·subst c17
    rw [if_pos rfl] at H
    obtain rfl := Option.some.inj H
    go_wp2
    repeat (go_quiet (fail); try go_wp2)
    go_ret
    exact ⟨ts35_, ts32_ HB.out GE585.out GE586.out⟩
   replace c17 := Bool.eq_false_iff.mpr c17
   subst c17
   rw [if_neg Bool.false_ne_true] at H
   have H' := Aside0.mk H
   clear H
   go_wp2
   repeat (go_quiet (fail); try go_wp2)
   go_loopg [5] kj2 (fun kq v5 w' => ∃ (x5_2 : Int), v5 = .int .i64 x5_2 ∧ Aside0 (cupelref20_Same.l0 kq x5_2 l0_0 l0_1 a0_2 l1_0 l1_1 a1_2 = some r) ∧ Aside0 (kq ≤ kj2) ∧ Aside0 (w'.heap[gb585]? = some (.cells #[(.slice A0_0 l0_0.length c0_0), (.slice A0_1 l0_1.length c0_1), .int .i64 a0_2] 35 (0, 0))) ∧ Aside0 (w'.heap[gb586]? = some (.cells #[(.slice A1_0 l1_0.length c1_0), (.slice A1_1 l1_1.length c1_1), .int .i64 a1_2] 35 (0, 0))) ∧ Aside0 (Below w.heap.size w w'))
   case atStart => exact ⟨(0), ts45_, H', ⟨Nat.le_refl _⟩, ⟨ts18_ BK585.out⟩, ⟨ts18_ BK586.out⟩, ⟨ts32_ HB.out GE585.out GE586.out⟩⟩
   case round =>
    clear H'
    try clear c1
    try clear c2
    try clear p2
    try clear c6
    try clear c6b0
    try clear c6b1
    try clear c7
    try clear c7b0
    try clear c7b1
    try clear c7b2
    try clear c8
    try clear c11
    try clear c14
    try clear c17
    try clear hcz10_0
    try clear hcz10_1
    try clear hcz10_2
    try clear hcz12_0
    try clear hcz12_1
    try clear hcz12_2
    try clear hcz13_0
    try clear hcz13_1
    try clear hcz13_2
    try clear hcz15_0
    try clear hcz15_1
    try clear hcz15_2
    try clear hcz16_0
    try clear hcz16_1
    try clear hcz16_2
    try clear hcz9_0
    try clear hcz9_1
    try clear hcz9_2
    try clear hfz10_0
    try clear hfz10_1
    try clear hfz10_2
    try clear hfz12_0
    try clear hfz12_1
    try clear hfz12_2
    try clear hfz13_0
    try clear hfz13_1
    try clear hfz13_2
    try clear hfz15_0
    try clear hfz15_1
    try clear hfz15_2
    try clear hfz16_0
    try clear hfz16_1
    try clear hfz16_2
    try clear hfz9_0
    try clear hfz9_1
    try clear hfz9_2
    try clear p2
    obtain ⟨x5_2, rfl, HA, HK2, BK585, BK586, HB⟩ := hrel
    cases gk with
    | zero => exact absurd HA.out (by simp [cupelref20_Same.l0])
    | succ k2 =>
     have H := HA.out
     clear HA
     simp only [cupelref20_Same.l0] at H
     by_cases c18 : x5_2 < (l0_0.length : Int)
     ·rw [if_pos c18] at H
      have c18b0 : decide (x5_2 < (l0_0.length : Int)) = true := decide_eq_true c18
      clear c18
      by_cases c19 : 0 ≤ x5_2
      ·rw [if_pos c19] at H
       have c19b0 : decide (0 ≤ x5_2) = true := decide_eq_true c19
       clear c19
       by_cases c20 : x5_2 < (l1_0.length : Int)
       ·rw [if_pos c20] at H
        have c20b0 : decide (x5_2 < (l1_0.length : Int)) = true := decide_eq_true c20
        clear c20
        by_cases c21 : (rd l0_0 x5_2) = (rd l1_0 x5_2)
        ·rw [if_pos c21] at H
         have c21b0 : ((rd l0_0 x5_2) == (rd l1_0 x5_2)) = true := beq_iff_eq.mpr c21
         have c21b1 : ((rd l0_0 x5_2) != (rd l1_0 x5_2)) = false := bne_eq_false_iff_eq.mpr c21
         clear c21
         have H' := Aside0.mk H
         clear H
         have hnb22 := NB585_586.out
         have hnc22 := NB586_585.out
         have hcz23_0 : wr.cell? ⟨gb585, 0, none⟩ = some (.slice A0_0 l0_0.length c0_0) := (blk_cell BK585.out 0).trans rfl
         have hcz23_1 : wr.cell? ⟨gb585, 1, none⟩ = some (.slice A0_1 l0_1.length c0_1) := (blk_cell BK585.out 1).trans rfl
         have hcz23_2 : wr.cell? ⟨gb585, 2, none⟩ = some (.int .i64 a0_2) := (blk_cell BK585.out 2).trans rfl
         have hfz23_0 := blk_frozen BK585.out 0
         have hfz23_1 := blk_frozen BK585.out 1
         have hfz23_2 := blk_frozen BK585.out 2
         have p587 : 0 ≤ (x5_2 : Int) := of_decide_eq_true ts31_
         have q587 : x5_2 < (l0_0.length : Int) := of_decide_eq_true ts31_
         obtain ⟨ad587, e587, hx587_0⟩ := Kd.at_int HR0_0.out x5_2 p587 q587
         cases e587
         replace hx587_0 := (HB.out.cell (World.block_lt_of_cell? w _ hx587_0)).trans hx587_0
         replace p587 := eq_true p587
         replace q587 := eq_true q587
         have hcz24_0 : wr.cell? ⟨gb586, 0, none⟩ = some (.slice A1_0 l1_0.length c1_0) := (blk_cell BK586.out 0).trans rfl
         have hcz24_1 : wr.cell? ⟨gb586, 1, none⟩ = some (.slice A1_1 l1_1.length c1_1) := (blk_cell BK586.out 1).trans rfl
         have hcz24_2 : wr.cell? ⟨gb586, 2, none⟩ = some (.int .i64 a1_2) := (blk_cell BK586.out 2).trans rfl
         have hfz24_0 := blk_frozen BK586.out 0
         have hfz24_1 := blk_frozen BK586.out 1
         have hfz24_2 := blk_frozen BK586.out 2
         have p588 : 0 ≤ (x5_2 : Int) := of_decide_eq_true ts31_
         have q588 : x5_2 < (l1_0.length : Int) := of_decide_eq_true ts31_
         obtain ⟨ad588, e588, hx588_0⟩ := Kd.at_int HR1_0.out x5_2 p588 q588
         cases e588
         replace hx588_0 := (HB.out.cell (World.block_lt_of_cell? w _ hx588_0)).trans hx588_0
         replace p588 := eq_true p588
         replace q588 := eq_true q588
         go_wp2
         repeat (go_quiet (fail); try go_wp2)
         go_roundg k2
         case measure => have := HJ2.out; have := HK2.out; omega
         case rel => exact ⟨(wrap64 (x5_2 + 1)), ts45_, H', ⟨by have := HJ2.out; have := HK2.out; omega⟩, ⟨ts18_ BK585.out⟩, ⟨ts18_ BK586.out⟩, ⟨ts32_ HB.out GE585.out GE586.out⟩⟩
        rw [if_neg c21] at H
        have c21b0 : ((rd l0_0 x5_2) == (rd l1_0 x5_2)) = false := beq_eq_false_iff_ne.mpr c21
        have c21b1 : ((rd l0_0 x5_2) != (rd l1_0 x5_2)) = true := bne_iff_ne.mpr c21
        obtain rfl := Option.some.inj H
        have hnb25 := NB585_586.out
        have hnc25 := NB586_585.out
        have hcz26_0 : wr.cell? ⟨gb585, 0, none⟩ = some (.slice A0_0 l0_0.length c0_0) := (blk_cell BK585.out 0).trans rfl
        have hcz26_1 : wr.cell? ⟨gb585, 1, none⟩ = some (.slice A0_1 l0_1.length c0_1) := (blk_cell BK585.out 1).trans rfl
        have hcz26_2 : wr.cell? ⟨gb585, 2, none⟩ = some (.int .i64 a0_2) := (blk_cell BK585.out 2).trans rfl
        have hfz26_0 := blk_frozen BK585.out 0
        have hfz26_1 := blk_frozen BK585.out 1
        have hfz26_2 := blk_frozen BK585.out 2
        have p587 : 0 ≤ (x5_2 : Int) := of_decide_eq_true ts31_
        have q587 : x5_2 < (l0_0.length : Int) := of_decide_eq_true ts31_
        obtain ⟨ad587, e587, hx587_0⟩ := Kd.at_int HR0_0.out x5_2 p587 q587
        cases e587
        replace hx587_0 := (HB.out.cell (World.block_lt_of_cell? w _ hx587_0)).trans hx587_0
        replace p587 := eq_true p587
        replace q587 := eq_true q587
        have hcz27_0 : wr.cell? ⟨gb586, 0, none⟩ = some (.slice A1_0 l1_0.length c1_0) := (blk_cell BK586.out 0).trans rfl
        have hcz27_1 : wr.cell? ⟨gb586, 1, none⟩ = some (.slice A1_1 l1_1.length c1_1) := (blk_cell BK586.out 1).trans rfl
        have hcz27_2 : wr.cell? ⟨gb586, 2, none⟩ = some (.int .i64 a1_2) := (blk_cell BK586.out 2).trans rfl
        have hfz27_0 := blk_frozen BK586.out 0
        have hfz27_1 := blk_frozen BK586.out 1
        have hfz27_2 := blk_frozen BK586.out 2
        have p588 : 0 ≤ (x5_2 : Int) := of_decide_eq_true ts31_
        have q588 : x5_2 < (l1_0.length : Int) := of_decide_eq_true ts31_
        obtain ⟨ad588, e588, hx588_0⟩ := Kd.at_int HR1_0.out x5_2 p588 q588
        cases e588
        replace hx588_0 := (HB.out.cell (World.block_lt_of_cell? w _ hx588_0)).trans hx588_0
        replace p588 := eq_true p588
        replace q588 := eq_true q588
        go_wp2
        repeat (go_quiet (fail); try go_wp2)
        go_ret
        exact ⟨ts35_, ts32_ HB.out GE585.out GE586.out⟩
       rw [if_neg c20] at H
       exact absurd H (by simp)
      rw [if_neg c19] at H
      exact absurd H (by simp)
     rw [if_neg c18] at H
     have c18b0 : decide (x5_2 < (l0_0.length : Int)) = false := decide_eq_false c18
     clear c18
     have H' := Aside0.mk H
     clear H
     have hnb28 := NB585_586.out
     have hnc28 := NB586_585.out
     have hcz29_0 : wr.cell? ⟨gb585, 0, none⟩ = some (.slice A0_0 l0_0.length c0_0) := (blk_cell BK585.out 0).trans rfl
     have hcz29_1 : wr.cell? ⟨gb585, 1, none⟩ = some (.slice A0_1 l0_1.length c0_1) := (blk_cell BK585.out 1).trans rfl
     have hcz29_2 : wr.cell? ⟨gb585, 2, none⟩ = some (.int .i64 a0_2) := (blk_cell BK585.out 2).trans rfl
     have hfz29_0 := blk_frozen BK585.out 0
     have hfz29_1 := blk_frozen BK585.out 1
     have hfz29_2 := blk_frozen BK585.out 2
     go_wp2
     repeat (go_quiet (fail); try go_wp2)
     go_loopg [6] k2 (fun kq v6 w' => ∃ (x6_3 : Int), v6 = .int .i64 x6_3 ∧ Aside0 (cupelref20_Same.l1 kq x6_3 l0_0 l0_1 a0_2 l1_0 l1_1 a1_2 = some r) ∧ Aside0 (kq ≤ k2) ∧ Aside0 (w'.heap[gb585]? = some (.cells #[(.slice A0_0 l0_0.length c0_0), (.slice A0_1 l0_1.length c0_1), .int .i64 a0_2] 35 (0, 0))) ∧ Aside0 (w'.heap[gb586]? = some (.cells #[(.slice A1_0 l1_0.length c1_0), (.slice A1_1 l1_1.length c1_1), .int .i64 a1_2] 35 (0, 0))) ∧ Aside0 (Below w.heap.size w w'))
     case atStart => exact ⟨(0), ts45_, H', ⟨Nat.le_refl _⟩, ⟨ts18_ BK585.out⟩, ⟨ts18_ BK586.out⟩, ⟨ts32_ HB.out GE585.out GE586.out⟩⟩
     case round =>
      clear H'
      try clear c1
      try clear c2
      try clear p2
      try clear p5
      try clear q5
      try clear hx5
      try clear c6
      try clear c6b0
      try clear c6b1
      try clear p6
      try clear c7
      try clear c7b0
      try clear c7b1
      try clear c7b2
      try clear c8
      try clear c11
      try clear c14
      try clear c17
      try clear c18
      try clear c18b0
      try clear c19
      try clear c19b0
      try clear c20
      try clear c20b0
      try clear c21
      try clear c21b0
      try clear c21b1
      try clear c22
      try clear c25
      try clear c28
      try clear hcz10_0
      try clear hcz10_1
      try clear hcz10_2
      try clear hcz12_0
      try clear hcz12_1
      try clear hcz12_2
      try clear hcz13_0
      try clear hcz13_1
      try clear hcz13_2
      try clear hcz15_0
      try clear hcz15_1
      try clear hcz15_2
      try clear hcz16_0
      try clear hcz16_1
      try clear hcz16_2
      try clear hcz23_0
      try clear hcz23_1
      try clear hcz23_2
      try clear hcz24_0
      try clear hcz24_1
      try clear hcz24_2
      try clear hcz26_0
      try clear hcz26_1
      try clear hcz26_2
      try clear hcz27_0
      try clear hcz27_1
      try clear hcz27_2
      try clear hcz29_0
      try clear hcz29_1
      try clear hcz29_2
      try clear hcz9_0
      try clear hcz9_1
      try clear hcz9_2
      try clear hfz10_0
      try clear hfz10_1
      try clear hfz10_2
      try clear hfz12_0
      try clear hfz12_1
      try clear hfz12_2
      try clear hfz13_0
      try clear hfz13_1
      try clear hfz13_2
      try clear hfz15_0
      try clear hfz15_1
      try clear hfz15_2
      try clear hfz16_0
      try clear hfz16_1
      try clear hfz16_2
      try clear hfz23_0
      try clear hfz23_1
      try clear hfz23_2
      try clear hfz24_0
      try clear hfz24_1
      try clear hfz24_2
      try clear hfz26_0
      try clear hfz26_1
      try clear hfz26_2
      try clear hfz27_0
      try clear hfz27_1
      try clear hfz27_2
      try clear hfz29_0
      try clear hfz29_1
      try clear hfz29_2
      try clear hfz9_0
      try clear hfz9_1
      try clear hfz9_2
      try clear hx587_0
      try clear hx588_0
      try clear p2
      try clear p587
      try clear p588
      try clear q587
      try clear q588
      obtain ⟨x6_3, rfl, HA, HK3, BK585, BK586, HB⟩ := hrel
      cases gk with
      | zero => exact absurd HA.out (by simp [cupelref20_Same.l1])
      | succ k3 =>
       have H := HA.out
       clear HA
       simp only [cupelref20_Same.l1] at H
       by_cases c30 : x6_3 < (l0_1.length : Int)
       ·rw [if_pos c30] at H
        have c30b0 : decide (x6_3 < (l0_1.length : Int)) = true := decide_eq_true c30
        clear c30
        by_cases c31 : 0 ≤ x6_3
        ·rw [if_pos c31] at H
         have c31b0 : decide (0 ≤ x6_3) = true := decide_eq_true c31
         clear c31
         by_cases c32 : x6_3 < (l1_1.length : Int)
         ·rw [if_pos c32] at H
          have c32b0 : decide (x6_3 < (l1_1.length : Int)) = true := decide_eq_true c32
          clear c32
          by_cases c33 : (rd l0_1 x6_3) = (rd l1_1 x6_3)
          ·rw [if_pos c33] at H
           have c33b0 : ((rd l0_1 x6_3) == (rd l1_1 x6_3)) = true := beq_iff_eq.mpr c33
           have c33b1 : ((rd l0_1 x6_3) != (rd l1_1 x6_3)) = false := bne_eq_false_iff_eq.mpr c33
           clear c33
           have H' := Aside0.mk H
           clear H
           have hnb34 := NB585_586.out
           have hnc34 := NB586_585.out
           have hcz35_0 : wr.cell? ⟨gb585, 0, none⟩ = some (.slice A0_0 l0_0.length c0_0) := (blk_cell BK585.out 0).trans rfl
           have hcz35_1 : wr.cell? ⟨gb585, 1, none⟩ = some (.slice A0_1 l0_1.length c0_1) := (blk_cell BK585.out 1).trans rfl
           have hcz35_2 : wr.cell? ⟨gb585, 2, none⟩ = some (.int .i64 a0_2) := (blk_cell BK585.out 2).trans rfl
           have hfz35_0 := blk_frozen BK585.out 0
           have hfz35_1 := blk_frozen BK585.out 1
           have hfz35_2 := blk_frozen BK585.out 2
           have p589 : 0 ≤ (x6_3 : Int) := of_decide_eq_true ts31_
           have q589 : x6_3 < (l0_1.length : Int) := of_decide_eq_true ts31_
           obtain ⟨ad589, e589, hx589_0⟩ := Kd.at_int HR0_1.out x6_3 p589 q589
           cases e589
           replace hx589_0 := (HB.out.cell (World.block_lt_of_cell? w _ hx589_0)).trans hx589_0
           replace p589 := eq_true p589
           replace q589 := eq_true q589
           have hcz36_0 : wr.cell? ⟨gb586, 0, none⟩ = some (.slice A1_0 l1_0.length c1_0) := (blk_cell BK586.out 0).trans rfl
           have hcz36_1 : wr.cell? ⟨gb586, 1, none⟩ = some (.slice A1_1 l1_1.length c1_1) := (blk_cell BK586.out 1).trans rfl
           have hcz36_2 : wr.cell? ⟨gb586, 2, none⟩ = some (.int .i64 a1_2) := (blk_cell BK586.out 2).trans rfl
           have hfz36_0 := blk_frozen BK586.out 0
           have hfz36_1 := blk_frozen BK586.out 1
           have hfz36_2 := blk_frozen BK586.out 2
           have p590 : 0 ≤ (x6_3 : Int) := of_decide_eq_true ts31_
           have q590 : x6_3 < (l1_1.length : Int) := of_decide_eq_true ts31_
           obtain ⟨ad590, e590, hx590_0⟩ := Kd.at_int HR1_1.out x6_3 p590 q590
           cases e590
           replace hx590_0 := (HB.out.cell (World.block_lt_of_cell? w _ hx590_0)).trans hx590_0
           replace p590 := eq_true p590
           replace q590 := eq_true q590
           go_wp2
           repeat (go_quiet (fail); try go_wp2)
           go_roundg k3
           case measure => have := HJ2.out; have := HK2.out; have := HK3.out; omega
           case rel => exact ⟨(wrap64 (x6_3 + 1)), ts45_, H', ⟨by have := HJ2.out; have := HK2.out; have := HK3.out; omega⟩, ⟨ts18_ BK585.out⟩, ⟨ts18_ BK586.out⟩, ⟨ts32_ HB.out GE585.out GE586.out⟩⟩
          rw [if_neg c33] at H
          have c33b0 : ((rd l0_1 x6_3) == (rd l1_1 x6_3)) = false := beq_eq_false_iff_ne.mpr c33
          have c33b1 : ((rd l0_1 x6_3) != (rd l1_1 x6_3)) = true := bne_iff_ne.mpr c33
          obtain rfl := Option.some.inj H
          have hnb37 := NB585_586.out
          have hnc37 := NB586_585.out
          have hcz38_0 : wr.cell? ⟨gb585, 0, none⟩ = some (.slice A0_0 l0_0.length c0_0) := (blk_cell BK585.out 0).trans rfl
          have hcz38_1 : wr.cell? ⟨gb585, 1, none⟩ = some (.slice A0_1 l0_1.length c0_1) := (blk_cell BK585.out 1).trans rfl
          have hcz38_2 : wr.cell? ⟨gb585, 2, none⟩ = some (.int .i64 a0_2) := (blk_cell BK585.out 2).trans rfl
          have hfz38_0 := blk_frozen BK585.out 0
          have hfz38_1 := blk_frozen BK585.out 1
          have hfz38_2 := blk_frozen BK585.out 2
          have p589 : 0 ≤ (x6_3 : Int) := of_decide_eq_true ts31_
          have q589 : x6_3 < (l0_1.length : Int) := of_decide_eq_true ts31_
          obtain ⟨ad589, e589, hx589_0⟩ := Kd.at_int HR0_1.out x6_3 p589 q589
          cases e589
          replace hx589_0 := (HB.out.cell (World.block_lt_of_cell? w _ hx589_0)).trans hx589_0
          replace p589 := eq_true p589
          replace q589 := eq_true q589
          have hcz39_0 : wr.cell? ⟨gb586, 0, none⟩ = some (.slice A1_0 l1_0.length c1_0) := (blk_cell BK586.out 0).trans rfl
          have hcz39_1 : wr.cell? ⟨gb586, 1, none⟩ = some (.slice A1_1 l1_1.length c1_1) := (blk_cell BK586.out 1).trans rfl
          have hcz39_2 : wr.cell? ⟨gb586, 2, none⟩ = some (.int .i64 a1_2) := (blk_cell BK586.out 2).trans rfl
          have hfz39_0 := blk_frozen BK586.out 0
          have hfz39_1 := blk_frozen BK586.out 1
          have hfz39_2 := blk_frozen BK586.out 2
          have p590 : 0 ≤ (x6_3 : Int) := of_decide_eq_true ts31_
          have q590 : x6_3 < (l1_1.length : Int) := of_decide_eq_true ts31_
          obtain ⟨ad590, e590, hx590_0⟩ := Kd.at_int HR1_1.out x6_3 p590 q590
          cases e590
          replace hx590_0 := (HB.out.cell (World.block_lt_of_cell? w _ hx590_0)).trans hx590_0
          replace p590 := eq_true p590
          replace q590 := eq_true q590
          go_wp2
          repeat (go_quiet (fail); try go_wp2)
          go_ret
          exact ⟨ts35_, ts32_ HB.out GE585.out GE586.out⟩
         rw [if_neg c32] at H
         exact absurd H (by simp)
        rw [if_neg c31] at H
        exact absurd H (by simp)
       rw [if_neg c30] at H
       have c30b0 : decide (x6_3 < (l0_1.length : Int)) = false := decide_eq_false c30
       clear c30
       obtain rfl := Option.some.inj H
       have hnb40 := NB585_586.out
       have hnc40 := NB586_585.out
       have hcz41_0 : wr.cell? ⟨gb585, 0, none⟩ = some (.slice A0_0 l0_0.length c0_0) := (blk_cell BK585.out 0).trans rfl
       have hcz41_1 : wr.cell? ⟨gb585, 1, none⟩ = some (.slice A0_1 l0_1.length c0_1) := (blk_cell BK585.out 1).trans rfl
       have hcz41_2 : wr.cell? ⟨gb585, 2, none⟩ = some (.int .i64 a0_2) := (blk_cell BK585.out 2).trans rfl
       have hfz41_0 := blk_frozen BK585.out 0
       have hfz41_1 := blk_frozen BK585.out 1
       have hfz41_2 := blk_frozen BK585.out 2
       go_wp2
       repeat (go_quiet (fail); try go_wp2)
       go_ret
       exact ⟨ts35_, ts32_ HB.out GE585.out GE586.out⟩
-- NOT PRINTED: function 5 (cupellaw20_TargetReads)
-- NOT PRINTED: function 84 (abi_NoEscape)
-- NOT PRINTED: function 70 (strings_Builder_copyCheck)
-- NOT PRINTED: function 48 (strings_Builder_WriteString)
-- NOT PRINTED: function 52 (strings_Builder_String)
-- NOT PRINTED: function 109 (bytealg_MakeNoZero)
-- NOT PRINTED: function 102 (strings_Builder_grow)
-- NOT PRINTED: function 89 (strings_Builder_Grow)
-- NOT PRINTED: function 74 (strings_Join)
-- NOT PRINTED: function 51 (target_line)
-- NOT PRINTED: function 22 (target_Print)
/-! ### cupelref20_digits: function 75 -/
def cupelref20_digits.f : Nat → Int → Option (ByteArray)
 | 0, _ => none
 | k + 1, a0 => (some (([(wrap64 (48 - (Int.tmod a0 10))) % 256] : List Int) : List Int)).bind fun y595 => (if (wrap64 (Int.tdiv a0 10)) = 0 then (some (strOfNums y595)) else ((cupelref20_digits.f k (wrap64 (Int.tdiv a0 10))).bind fun t598 => (if t598.size + (strOfNums y595).size ≤ 9223372036854775807 then (some (t598 ++ (strOfNums y595))) else (none))))
theorem cupelref20_digits.mono_l : ∀ k, (∀ y0, LeO (cupelref20_digits.f k y0) (cupelref20_digits.f (k + 1) y0))
 | 0 => fun _ r h => by simp [cupelref20_digits.f] at h
 | k + 1 => by
  have ih0 := cupelref20_digits.mono_l k
  ·intro y0
   unfold cupelref20_digits.f
   repeat' first
   | (with_reducible exact ih0 _)
   | (with_reducible exact LeO.refl _)
   | (with_reducible exact LeO.none _)
   | (with_reducible refine LeO.ite ?_ ?_)
   | (with_reducible refine LeO.bind ?_ (fun _ => ?_))
   | exact LeO.none _
   | refine LeO.ite ?_ ?_
   | refine LeO.bind ?_ (fun _ => ?_)
theorem cupelref20_digits.mono : ∀ a0 k, LeO (cupelref20_digits.f k a0) (cupelref20_digits.f (k + 1) a0) := by
 intro a0 k
 have ih0 := cupelref20_digits.mono_l k
 exact ih0 a0
/-! ### cupelref20_number: function 53 -/
def cupelref20_number.f (k : Nat) (a0 : Int) : Option (ByteArray) := if a0 < 0 then ((cupelref20_digits.f k a0).bind fun t599 => (if 1 + t599.size ≤ 9223372036854775807 then (some ((⟨#[45]⟩ : ByteArray) ++ t599)) else (none))) else ((cupelref20_digits.f k (wrap64 (-a0))).bind fun t600 => (some t600))
theorem cupelref20_number.mono : ∀ a0 k, LeO (cupelref20_number.f k a0) (cupelref20_number.f (k + 1) a0) := by
 intro a0 k
 unfold cupelref20_number.f
 repeat' first
   | (with_reducible exact cupelref20_digits.mono _ _)
   | (with_reducible exact LeO.refl _)
   | (with_reducible exact LeO.none _)
   | (with_reducible refine LeO.ite ?_ ?_)
   | (with_reducible refine LeO.bind ?_ (fun _ => ?_))
   | exact LeO.none _
   | refine LeO.ite ?_ ?_
   | refine LeO.bind ?_ (fun _ => ?_)
end Go.Proofs.YtlaijeeeblcinaaDoor.A
