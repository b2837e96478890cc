/- Written by wip/tools/xprint.py, a program of this session that drives the kit's printer. Not trusted: Lean checks it. -/
import Derived.Test.YtlaijeeeblcinaaDoorDx0
import Derived.Test.YtlaijeeeblcinaaDoorAx14
import Derived.Test.YtlaijeeeblcinaaDoorBx3
import Derived.Test.YtlaijeeeblcinaaDoorPr3
set_option linter.all false
set_option maxHeartbeats 8000000
set_option maxRecDepth 100000
namespace Go.Proofs.YtlaijeeeblcinaaDoor.A
open Go.RowKit Go.Proofs.YtlaijeeeblcinaaDoorW.PrintWords Go.Proofs.YtlaijeeeblcinaaDoorW.PrintLast Go.Proofs.YtlaijeeeblcinaaDoorW.PrintMore
attribute [local go_sem] max2_int min2_int max_two min_two max_three min_three max_four min_four   -- for this text's walks alone
set_option linter.unusedVariables false
set_option linter.unusedSimpArgs false
/-! ### cupellaw20_TargetPrints: function 6 -/
def cupellaw20_TargetPrints.j0 : Nat → Bool → List Int → List Int → Int → Option (Bool)
 | 0, _, _, _, _ => none
 | k + 1, x16, x102000, x102001, x102002 => if x16 = true then ((cupellaw20_awake.f k).bind fun t102 => (some t102)) else ((target_Print.f k x102000 x102001 x102002).bind fun bt103 => ((cupelref20_Print.f k x102000 x102001 x102002).bind fun bt105 => (if bt103.1.toList = bt105.1.toList then (if bt103.2 = bt105.2 then ((cupellaw20_awake.f k).bind fun t107 => (some t107)) else (none)) else (none))))
def cupellaw20_TargetPrints.f (k : Nat) (l0_0 : List Int) (l0_1 : List Int) (a0_2 : Int) : Option (Bool) := if (l0_0.length : Int) > 300 then (cupellaw20_TargetPrints.j0 k true l0_0 l0_1 a0_2) else (cupellaw20_TargetPrints.j0 k (decide ((l0_1.length : Int) > 300)) l0_0 l0_1 a0_2)
theorem cupellaw20_TargetPrints.mono_l : ∀ k, (∀ y0 y1 y2 y3, LeO (cupellaw20_TargetPrints.j0 k y0 y1 y2 y3) (cupellaw20_TargetPrints.j0 (k + 1) y0 y1 y2 y3))
 | 0 => fun _ _ _ _ r h => by simp [cupellaw20_TargetPrints.j0] at h
 | k + 1 => by
  have ih0 := cupellaw20_TargetPrints.mono_l k
  ·intro y0 y1 y2 y3
   unfold cupellaw20_TargetPrints.j0
   repeat' first
   | (with_reducible exact ih0 _ _ _ _)
   | (with_reducible exact cupellaw20_awake.mono _)
   | (with_reducible exact cupelref20_Print.mono _ _ _ _)
   | (with_reducible exact target_Print.mono _ _ _ _)
   | (with_reducible exact LeO.refl _)
   | (with_reducible exact LeO.none _)
   | (with_reducible refine LeO.ite ?_ ?_)
   | (with_reducible refine LeO.bind ?_ (fun _ => ?_))
   | exact LeO.none _
   | refine LeO.ite ?_ ?_
   | refine LeO.bind ?_ (fun _ => ?_)
theorem cupellaw20_TargetPrints.calls (k : Nat) (A0_0 : Option Addr) (c0_0 : Nat) (l0_0 : List Int) (A0_1 : Option Addr) (c0_1 : Nat) (l0_1 : List Int) (a0_2 : Int) (r : Bool) (w : World) (hr0_0 : Kd.C (Kd.int .u64) w A0_0 l0_0.length l0_0) (hc0_0 : l0_0.length ≤ c0_0) (hr0_1 : Kd.C (Kd.int .i64) w A0_1 l0_1.length l0_1) (hc0_1 : l0_1.length ≤ c0_1) (h : cupellaw20_TargetPrints.f k l0_0 l0_1 a0_2 = some r) (hE_ : Env w := by exact Env.below HEnv_.out (by repeat (first | (with_reducible first | exact HB.out | apply below_alloc | apply pw_below_drewN | apply below_drew1 | refine below_set ?_ (Aside0.out (by assumption))) | exact HB.out)) HEnv_.out.big) :
  Calls Tryd.prog 6 #[.agg #[.slice A0_0 l0_0.length c0_0, .slice A0_1 l0_1.length c0_1, .int .i64 a0_2]] w fun e w' => e = .returned (.bool r) ∧ Below w.heap.size w w' := by
 have HEnv_ := Aside0.mk hE_
 clear hE_
 have hu35 := Tryd.underlying35
 have HR0_0 := Aside0.mk hr0_0
 have HC0_0 := Aside0.mk hc0_0
 clear hr0_0 hc0_0
 have HR0_1 := Aside0.mk hr0_1
 have HC0_1 := Aside0.mk hc0_1
 clear hr0_1 hc0_1
 have HB := Aside0.mk (Below.refl w.heap.size w)
 have H : (if (l0_0.length : Int) > 300 then (cupellaw20_TargetPrints.j0 k true l0_0 l0_1 a0_2) else (cupellaw20_TargetPrints.j0 k (decide ((l0_1.length : Int) > 300)) l0_0 l0_1 a0_2)) = some r := h
 clear h
 have HC2 := Aside0.mk H
 clear H
 go_enter Tryd.func6, Tryd.ntmps6
 go_upto_region 1 with (first | ((with_reducible refine gate_dst (N := 1) rfl ?_); (try (refine gate_guard (by rfl) ?_; dsimp only)); refine box_event ?hg (N := 1) ?hd (cs := #[.slice A0_0 l0_0.length c0_0, .slice A0_1 l0_1.length c0_1, .int .i64 a0_2]) (t := 35) ?hr ?_; (case hd => rfl); (case hg => rfl); (case hr => exact ts15_); intro gb101 hg w3 hbox hb; have BK101 := Aside0.mk (hbox); have GW101 := Aside0.mk ((ts45_ HB.out : w.heap.size ≤ gb101)); have GE101 := Aside0.mk ((ts45_ HB.out : w.heap.size ≤ gb101)); replace HB := Aside0.mk (below_step (ts34_ HB.out) hb); clear hb hbox hg))
 (try simp only [Act.put, List.setIfInBounds_toArray, List.set_cons_zero, List.set_cons_succ])
 go_cut [16] (fun v16 wc => ∃ (kq : Nat) (x16_1 : Bool), v16 = .bool x16_1 ∧ Aside0 (cupellaw20_TargetPrints.j0 kq x16_1 l0_0 l0_1 a0_2 = some r) ∧ Aside0 (kq ≤ k) ∧ Aside0 (wc.heap[gb101]? = some (.cells #[(.slice A0_0 l0_0.length c0_0), (.slice A0_1 l0_1.length c0_1), .int .i64 a0_2] 35 (0, 0))) ∧ Aside0 (Below w.heap.size w wc))
 case first =>
  have H := HC2.out
  clear HC2
  by_cases c4 : (l0_0.length : Int) > 300
  ·rw [if_pos c4] at H
   have c4b0 : decide (300 < (l0_0.length : Int)) = true := decide_eq_true c4
   have c4b1 : decide (300 < l0_0.length) = true := decide_eq_true (by omega)
   clear c4
   (first | rw [c4b0] | (simp only [i64_w, i32_w]; rw [c4b0]) | skip)
   have H' := Aside0.mk H
   clear H
   have hcz5_0 : w3.cell? ⟨gb101, 0, none⟩ = some (.slice A0_0 l0_0.length c0_0) := (blk_cell BK101.out 0).trans rfl
   have hcz5_1 : w3.cell? ⟨gb101, 1, none⟩ = some (.slice A0_1 l0_1.length c0_1) := (blk_cell BK101.out 1).trans rfl
   have hcz5_2 : w3.cell? ⟨gb101, 2, none⟩ = some (.int .i64 a0_2) := (blk_cell BK101.out 2).trans rfl
   have hfz5_0 := blk_frozen BK101.out 0
   have hfz5_1 := blk_frozen BK101.out 1
   have hfz5_2 := blk_frozen BK101.out 2
   go_wp2
   go_meet
   case rel => exact ⟨_, (true), ts32_, H', ⟨ts3_⟩, ⟨ts14_ BK101.out⟩, ⟨ts17_ HB.out GE101.out⟩⟩
  rw [if_neg c4] at H
  have c4b0 : decide (300 < (l0_0.length : Int)) = false := decide_eq_false c4
  have c4b1 : decide (300 < l0_0.length) = false := decide_eq_false (by omega)
  clear c4
  (first | rw [c4b0] | (simp only [i64_w, i32_w]; rw [c4b0]) | skip)
  have H' := Aside0.mk H
  clear H
  have hcz6_0 : w3.cell? ⟨gb101, 0, none⟩ = some (.slice A0_0 l0_0.length c0_0) := (blk_cell BK101.out 0).trans rfl
  have hcz6_1 : w3.cell? ⟨gb101, 1, none⟩ = some (.slice A0_1 l0_1.length c0_1) := (blk_cell BK101.out 1).trans rfl
  have hcz6_2 : w3.cell? ⟨gb101, 2, none⟩ = some (.int .i64 a0_2) := (blk_cell BK101.out 2).trans rfl
  have hfz6_0 := blk_frozen BK101.out 0
  have hfz6_1 := blk_frozen BK101.out 1
  have hfz6_2 := blk_frozen BK101.out 2
  go_wp2
  go_meet
  case rel => exact ⟨_, (decide ((l0_1.length : Int) > 300)), ts32_, H', ⟨ts3_⟩, ⟨ts14_ BK101.out⟩, ⟨ts17_ HB.out GE101.out⟩⟩
 case rest =>
  clear HC2
  try clear p2
  try clear c4
  try clear c4b0
  try clear c4b1
  try clear c6
  try clear hcz5_0
  try clear hcz5_1
  try clear hcz5_2
  try clear hcz6_0
  try clear hcz6_1
  try clear hcz6_2
  try clear hfz5_0
  try clear hfz5_1
  try clear hfz5_2
  try clear hfz6_0
  try clear hfz6_1
  try clear hfz6_2
  obtain ⟨kq, x16_1, rfl, HA, HJ1, BK101, HB⟩ := hcut
  cases kq with
  | zero => exact absurd HA.out (by simp [cupellaw20_TargetPrints.j0])
  | succ kj1 =>
   have H := HA.out
   clear HA
   simp only [cupellaw20_TargetPrints.j0] at H
   by_cases c7 : x16_1 = true
   ·subst c7
    rw [if_pos rfl] at H
    obtain ⟨t102, A8, H⟩ := bsA_ H
    try dsimp only at H
    obtain rfl := Option.some.inj H
    go_wp2_with (first | ((with_reducible refine gate_callee (f := 9) rfl ?_); refine goesL_ (some 17) rfl rfl Tryd.func9 (by kernel_rfl) rfl #[] rfl ts8_ ?_; (with_reducible refine (cupellaw20_awake.calls kj1  t102 _ A8.out).mono ?_); rintro e w9 ⟨rfl, hb⟩; refine ⟨_, rfl, ?_⟩; replace BK101 := Aside0.mk (blk_below (g := gb101) (o := .cells #[.slice A0_0 l0_0.length c0_0, .slice A0_1 l0_1.length c0_1, .int .i64 a0_2] 35 (0, 0)) (ts14_ BK101.out) hb); replace HB := Aside0.mk (below_step (ts17_ HB.out GE101.out) hb); clear hb))
    go_ret
    exact ⟨ts26_, ts17_ HB.out GE101.out⟩
   replace c7 := Bool.eq_false_iff.mpr c7
   subst c7
   rw [if_neg Bool.false_ne_true] at H
   obtain ⟨⟨t103, t104⟩, A10, H⟩ := bsA_ H
   try dsimp only at H
   obtain ⟨⟨t105, t106⟩, A11, H⟩ := bsA_ H
   try dsimp only at H
   by_cases c12 : t103.toList = t105.toList
   ·rw [if_pos c12] at H
    have c12b0 : (t103.toList == t105.toList) = true := beq_iff_eq.mpr c12
    have c12b1 : (t103.toList != t105.toList) = false := bne_eq_false_iff_eq.mpr c12
    clear c12
    by_cases c13 : t104 = t106
    ·rw [if_pos c13] at H
     have c13b0 : (t104 == t106) = true := beq_iff_eq.mpr c13
     have c13b1 : (t104 != t106) = false := bne_eq_false_iff_eq.mpr c13
     clear c13
     obtain ⟨t107, A14, H⟩ := bsA_ H
     try dsimp only at H
     obtain rfl := Option.some.inj H
     have hcz15_0 : wc.cell? ⟨gb101, 0, none⟩ = some (.slice A0_0 l0_0.length c0_0) := (blk_cell BK101.out 0).trans rfl
     have hcz15_1 : wc.cell? ⟨gb101, 1, none⟩ = some (.slice A0_1 l0_1.length c0_1) := (blk_cell BK101.out 1).trans rfl
     have hcz15_2 : wc.cell? ⟨gb101, 2, none⟩ = some (.int .i64 a0_2) := (blk_cell BK101.out 2).trans rfl
     have hfz15_0 := blk_frozen BK101.out 0
     have hfz15_1 := blk_frozen BK101.out 1
     have hfz15_2 := blk_frozen BK101.out 2
     go_wp2_with (first | ((with_reducible refine gate_callee (f := 22) rfl ?_); refine goesL_ (some 20) rfl rfl Tryd.func22 (by kernel_rfl) rfl #[.agg #[.slice A0_0 l0_0.length c0_0, .slice A0_1 l0_1.length c0_1, .int .i64 a0_2]] rfl ts8_ ?_; (with_reducible refine (target_Print.calls kj1 _ _ l0_0 _ _ l0_1 a0_2 t103 t104 _ ?side1 ?side2 ?side3 ?side4 A10.out).mono ?_); (case side1 => exact ts35_ HR0_0.out HB.out); (case side2 => exact HC0_0.out); (case side3 => exact ts35_ HR0_1.out HB.out); (case side4 => exact HC0_1.out); rintro e w16 ⟨rfl, hb⟩; refine ⟨_, rfl, ?_⟩; replace BK101 := Aside0.mk (blk_below (g := gb101) (o := .cells #[.slice A0_0 l0_0.length c0_0, .slice A0_1 l0_1.length c0_1, .int .i64 a0_2] 35 (0, 0)) (ts14_ BK101.out) hb); replace HB := Aside0.mk (below_step (ts17_ HB.out GE101.out) hb); clear hb; have hcz17_0 : w16.cell? ⟨gb101, 0, none⟩ = some (.slice A0_0 l0_0.length c0_0) := (blk_cell BK101.out 0).trans rfl; have hcz17_1 : w16.cell? ⟨gb101, 1, none⟩ = some (.slice A0_1 l0_1.length c0_1) := (blk_cell BK101.out 1).trans rfl; have hcz17_2 : w16.cell? ⟨gb101, 2, none⟩ = some (.int .i64 a0_2) := (blk_cell BK101.out 2).trans rfl; have hfz17_0 := blk_frozen BK101.out 0; have hfz17_1 := blk_frozen BK101.out 1; have hfz17_2 := blk_frozen BK101.out 2) | ((with_reducible refine gate_callee (f := 23) rfl ?_); refine goesL_ (some 25) rfl rfl Tryd.func23 (by kernel_rfl) rfl #[.agg #[.slice A0_0 l0_0.length c0_0, .slice A0_1 l0_1.length c0_1, .int .i64 a0_2]] rfl ts8_ ?_; (with_reducible refine (cupelref20_Print.calls kj1 _ _ l0_0 _ _ l0_1 a0_2 t105 t106 _ ?side1 ?side2 ?side3 ?side4 A11.out).mono ?_); (case side1 => exact ts35_ HR0_0.out HB.out); (case side2 => exact HC0_0.out); (case side3 => exact ts35_ HR0_1.out HB.out); (case side4 => exact HC0_1.out); rintro e w18 ⟨rfl, hb⟩; refine ⟨_, rfl, ?_⟩; replace BK101 := Aside0.mk (blk_below (g := gb101) (o := .cells #[.slice A0_0 l0_0.length c0_0, .slice A0_1 l0_1.length c0_1, .int .i64 a0_2] 35 (0, 0)) (ts14_ BK101.out) hb); replace HB := Aside0.mk (below_step (ts17_ HB.out GE101.out) hb); clear hb) | (go_at_call 9; (with_reducible refine (cupellaw20_awake.calls kj1  t107 _ A14.out).mono ?_); rintro e w19 ⟨rfl, hb⟩; replace BK101 := Aside0.mk (blk_below (g := gb101) (o := .cells #[.slice A0_0 l0_0.length c0_0, .slice A0_1 l0_1.length c0_1, .int .i64 a0_2] 35 (0, 0)) (ts14_ BK101.out) hb); replace HB := Aside0.mk (below_step (ts17_ HB.out GE101.out) hb); clear hb))
     go_ret
     exact ⟨ts26_, ts17_ HB.out GE101.out⟩
    rw [if_neg c13] at H
    exact absurd H (by simp)
   rw [if_neg c12] at H
   exact absurd H (by simp)
end Go.Proofs.YtlaijeeeblcinaaDoor.A
