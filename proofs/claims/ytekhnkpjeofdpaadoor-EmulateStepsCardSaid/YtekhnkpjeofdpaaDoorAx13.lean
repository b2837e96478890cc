/- Written by wip/tools/xprint.py, a program of this session that drives the kit's printer (a part of the text Ax12). Not trusted: Lean checks it. -/
import Derived.Test.YtekhnkpjeofdpaaDoorAx0
namespace Go.Proofs.YtekhnkpjeofdpaaDoor.A
open Go.RowKit Go.Proofs.YtekhnkpjeofdpaaDoorW.PrintWords Go.Proofs.YtekhnkpjeofdpaaDoorW.PrintLast Go.Proofs.YtekhnkpjeofdpaaDoorW.PrintMore
attribute [local go_sem] max2_int min2_int max_two min_two max_three min_three max_four min_four   -- for this text's walks alone
set_option linter.unusedVariables false
set_option linter.unusedSimpArgs false
/-! ### cupelref10_begins: function 23 -/
mutual
def cupelref10_begins.l0 : Nat → List Int → List Int → Int → Option (Bool)
 | 0, _, _, _ => none
 | k + 1, x0, x1, x5 => if x5 < (x0.length : Int) then (cupelref10_begins.j1 k x0 x1 x5 (decide (x5 < (x1.length : Int)))) else (cupelref10_begins.j1 k x0 x1 x5 false)
def cupelref10_begins.j1 : Nat → List Int → List Int → Int → Bool → Option (Bool)
 | 0, _, _, _, _ => none
 | k + 1, x0, x1, x5, x15 => if x15 = true then (if 0 ≤ x5 then (if x5 < (x0.length : Int) then (if x5 < (x1.length : Int) then (if (rd x0 x5) = (rd x1 x5) then (cupelref10_begins.l0 k x0 x1 (wrap64 (x5 + 1))) else (some false)) else (none)) else (none)) else (none)) else (some (decide ((x0.length : Int) ≤ (x1.length : Int))))
end
def cupelref10_begins.f (k : Nat) (l0 : List Int) (l1 : List Int) : Option (Bool) := cupelref10_begins.l0 k l0 l1 0
set_option maxHeartbeats 8000000 in
set_option maxRecDepth 100000 in
theorem cupelref10_begins.calls (k : Nat) (A0 : Option Addr) (c0 : Nat) (l0 : List Int) (A1 : Option Addr) (c1 : Nat) (l1 : List Int) (r : Bool) (w : World) (hr0 : Kd.C (Kd.int .i64) w A0 l0.length l0) (hc0 : l0.length ≤ c0) (hr1 : Kd.C (Kd.int .i64) w A1 l1.length l1) (hc1 : l1.length ≤ c1) (h : cupelref10_begins.f k l0 l1 = some r) :
  Calls Tryd.prog 23 #[.slice A0 l0.length c0, .slice A1 l1.length c1] w fun e w' => e = .returned (.bool r) ∧ Drawn0 w w' := by
 have HR0 := Aside0.mk hr0
 have HC0 := Aside0.mk hc0
 clear hr0 hc0
 have HR1 := Aside0.mk hr1
 have HC1 := Aside0.mk hc1
 clear hr1 hc1
 have H : (cupelref10_begins.l0 k l0 l1 0) = some r := h
 clear h
 have H' := Aside0.mk H
 clear H
 go_enter Tryd.func23, Tryd.ntmps23
 go_wp2
 repeat (go_quiet (fail); try go_wp2)
 go_loopg [5] k (fun kq v5 w' => ∃ (x5_1 : Int), v5 = .int .i64 x5_1 ∧ Aside0 (cupelref10_begins.l0 kq l0 l1 x5_1 = some r) ∧ Aside0 (kq ≤ k) ∧ Drawn0 w w')
 case atStart => exact ⟨(0), ts36_, H', ⟨Nat.le_refl _⟩, ts11_⟩
 case round =>
  clear H'
  try clear c1
  try clear c2
  try clear p2
  obtain ⟨x5_1, rfl, HA, HK1, ⟨m1, rfl⟩⟩ := hrel
  cases gk with
  | zero => exact absurd HA.out (by simp [cupelref10_begins.l0])
  | succ k1 =>
   have H := HA.out
   clear HA
   simp only [cupelref10_begins.l0] at H
   have HC3 := Aside0.mk H
   clear H
   go_upto_region 2 with (fail)
   repeat (go_quiet (fail); go_upto_region 2 with (fail))
   go_cut [15] (fun v15 wc => ∃ (kq : Nat) (x15_2 : Bool), v15 = .bool x15_2 ∧ Aside0 (cupelref10_begins.j1 kq l0 l1 x5_1 x15_2 = some r) ∧ Aside0 (kq ≤ k1) ∧ Drawn0 w wc)
   case first =>
    have H := HC3.out
    clear HC3
    by_cases c4 : x5_1 < (l0.length : Int)
    ·rw [if_pos c4] at H
     have c4b0 : decide (x5_1 < (l0.length : Int)) = true := decide_eq_true c4
     clear c4
     (first | rw [c4b0] | (simp only [i64_w, i32_w]; rw [c4b0]) | skip)
     have H' := Aside0.mk H
     clear H
     go_wp2
     repeat (go_quiet (fail); try go_wp2)
     go_meet
     case rel => exact ⟨_, (decide (x5_1 < (l1.length : Int))), ts36_, H', ⟨ts34_ HK1.out⟩, ts11_⟩
    ·rw [if_neg c4] at H
     have c4b0 : decide (x5_1 < (l0.length : Int)) = false := decide_eq_false c4
     clear c4
     (first | rw [c4b0] | (simp only [i64_w, i32_w]; rw [c4b0]) | skip)
     have H' := Aside0.mk H
     clear H
     go_wp2
     repeat (go_quiet (fail); try go_wp2)
     go_meet
     case rel => exact ⟨_, (false), ts36_, H', ⟨ts34_ HK1.out⟩, ts11_⟩
   case rest =>
    clear HC3
    try clear c1
    try clear c2
    try clear p2
    try clear c4
    try clear c4b0
    try clear p2
    obtain ⟨kq, x15_2, rfl, HA, HJ2, ⟨mc2, rfl⟩⟩ := hcut
    cases kq with
    | zero => exact absurd HA.out (by simp [cupelref10_begins.j1])
    | succ kj2 =>
     have H := HA.out
     clear HA
     simp only [cupelref10_begins.j1] at H
     by_cases c5 : x15_2 = true
     ·subst c5
      rw [if_pos rfl] at H
      by_cases c6 : 0 ≤ x5_1
      ·rw [if_pos c6] at H
       have c6b0 : decide (0 ≤ x5_1) = true := decide_eq_true c6
       clear c6
       by_cases c7 : x5_1 < (l0.length : Int)
       ·rw [if_pos c7] at H
        have c7b0 : decide (x5_1 < (l0.length : Int)) = true := decide_eq_true c7
        clear c7
        by_cases c8 : x5_1 < (l1.length : Int)
        ·rw [if_pos c8] at H
         have c8b0 : decide (x5_1 < (l1.length : Int)) = true := decide_eq_true c8
         clear c8
         by_cases c9 : (rd l0 x5_1) = (rd l1 x5_1)
         ·rw [if_pos c9] at H
          have c9b0 : ((rd l0 x5_1) == (rd l1 x5_1)) = true := beq_iff_eq.mpr c9
          have c9b1 : ((rd l0 x5_1) != (rd l1 x5_1)) = false := bne_eq_false_iff_eq.mpr c9
          clear c9
          have H' := Aside0.mk H
          clear H
          have p582 : 0 ≤ (x5_1 : Int) := of_decide_eq_true ts7_
          have q582 : x5_1 < (l0.length : Int) := of_decide_eq_true ts7_
          obtain ⟨ad582, e582, hx582_0⟩ := Kd.at_int HR0.out x5_1 p582 q582
          cases e582
          replace p582 := eq_true p582
          replace q582 := eq_true q582
          have p583 : 0 ≤ (x5_1 : Int) := of_decide_eq_true ts7_
          have q583 : x5_1 < (l1.length : Int) := of_decide_eq_true ts7_
          obtain ⟨ad583, e583, hx583_0⟩ := Kd.at_int HR1.out x5_1 p583 q583
          cases e583
          replace p583 := eq_true p583
          replace q583 := eq_true q583
          go_wp2
          repeat (go_quiet (fail); try go_wp2)
          go_roundg kj2
          case measure => have := HK1.out; have := HJ2.out; omega
          case rel => exact ⟨(wrap64 (x5_1 + 1)), ts36_, H', ⟨by have := HK1.out; have := HJ2.out; omega⟩, ts11_⟩
         ·rw [if_neg c9] at H
          have c9b0 : ((rd l0 x5_1) == (rd l1 x5_1)) = false := beq_eq_false_iff_ne.mpr c9
          have c9b1 : ((rd l0 x5_1) != (rd l1 x5_1)) = true := bne_iff_ne.mpr c9
          obtain rfl := Option.some.inj H
          have p582 : 0 ≤ (x5_1 : Int) := of_decide_eq_true ts7_
          have q582 : x5_1 < (l0.length : Int) := of_decide_eq_true ts7_
          obtain ⟨ad582, e582, hx582_0⟩ := Kd.at_int HR0.out x5_1 p582 q582
          cases e582
          replace p582 := eq_true p582
          replace q582 := eq_true q582
          have p583 : 0 ≤ (x5_1 : Int) := of_decide_eq_true ts7_
          have q583 : x5_1 < (l1.length : Int) := of_decide_eq_true ts7_
          obtain ⟨ad583, e583, hx583_0⟩ := Kd.at_int HR1.out x5_1 p583 q583
          cases e583
          replace p583 := eq_true p583
          replace q583 := eq_true q583
          go_wp2
          repeat (go_quiet (fail); try go_wp2)
          go_ret
          exact ⟨ts36_, ts11_⟩
        ·rw [if_neg c8] at H
         exact absurd H (by simp)
       ·rw [if_neg c7] at H
        exact absurd H (by simp)
      ·rw [if_neg c6] at H
       exact absurd H (by simp)
     ·replace c5 := Bool.eq_false_iff.mpr c5
      subst c5
      rw [if_neg Bool.false_ne_true] at H
      obtain rfl := Option.some.inj H
      go_wp2
      repeat (go_quiet (fail); try go_wp2)
      go_ret
      exact ⟨ts36_, ts11_⟩
/-! ### cupelref10_Equal: function 11 -/
def cupelref10_Equal.f (k : Nat) (l0_0 : List Int) (a0_1 : Int) (a0_2 : Int) (l1_0 : List Int) (a1_1 : Int) (a1_2 : Int) : Option (Bool) := if a0_1 = a1_1 then (if a0_2 = a1_2 then (if (l0_0.length : Int) = (l1_0.length : Int) then ((cupelref10_begins.f k l0_0 l1_0).bind fun t586 => (some t586)) else (some false)) else (some false)) else (some false)
set_option maxHeartbeats 8000000 in
set_option maxRecDepth 100000 in
theorem cupelref10_Equal.calls (k : Nat) (A0_0 : Option Addr) (c0_0 : Nat) (l0_0 : List Int) (a0_1 : Int) (a0_2 : Int) (A1_0 : Option Addr) (c1_0 : Nat) (l1_0 : List Int) (a1_1 : Int) (a1_2 : Int) (r : Bool) (w : World) (hr0_0 : Kd.C (Kd.int .i64) w A0_0 l0_0.length l0_0) (hc0_0 : l0_0.length ≤ c0_0) (hr1_0 : Kd.C (Kd.int .i64) w A1_0 l1_0.length l1_0) (hc1_0 : l1_0.length ≤ c1_0) (h : cupelref10_Equal.f k l0_0 a0_1 a0_2 l1_0 a1_1 a1_2 = some r) :
  Calls Tryd.prog 11 #[.agg #[.slice A0_0 l0_0.length c0_0, .int .i64 a0_1, .int .i64 a0_2], .agg #[.slice A1_0 l1_0.length c1_0, .int .i64 a1_1, .int .i64 a1_2]] w fun e w' => e = .returned (.bool r) ∧ Below w.heap.size w w' := by
 have hu28 := Tryd.underlying28
 have HR0_0 := Aside0.mk hr0_0
 have HC0_0 := Aside0.mk hc0_0
 clear hr0_0 hc0_0
 have HR1_0 := Aside0.mk hr1_0
 have HC1_0 := Aside0.mk hc1_0
 clear hr1_0 hc1_0
 have HB := Aside0.mk (Below.refl w.heap.size w)
 have H : (if a0_1 = a1_1 then (if a0_2 = a1_2 then (if (l0_0.length : Int) = (l1_0.length : Int) then ((cupelref10_begins.f k l0_0 l1_0).bind fun t586 => (some t586)) else (some false)) else (some false)) else (some false)) = some r := h
 clear h
 by_cases c3 : a0_1 = a1_1
 ·rw [if_pos c3] at H
  have c3b0 : (a0_1 == a1_1) = true := beq_iff_eq.mpr c3
  have c3b1 : (a0_1 != a1_1) = false := bne_eq_false_iff_eq.mpr c3
  clear c3
  by_cases c4 : a0_2 = a1_2
  ·rw [if_pos c4] at H
   have c4b0 : (a0_2 == a1_2) = true := beq_iff_eq.mpr c4
   have c4b1 : (a0_2 != a1_2) = false := bne_eq_false_iff_eq.mpr c4
   clear c4
   by_cases c5 : (l0_0.length : Int) = (l1_0.length : Int)
   ·rw [if_pos c5] at H
    have c5b0 : ((l0_0.length : Int) == (l1_0.length : Int)) = true := beq_iff_eq.mpr c5
    have c5b1 : ((l0_0.length : Int) != (l1_0.length : Int)) = false := bne_eq_false_iff_eq.mpr c5
    have c5b2 : (l0_0.length == l1_0.length) = true := by first | simpa using c5 | (simp at c5 ⊢; omega)
    clear c5
    replace H := Option.bind_eq_some_iff.mp H
    obtain ⟨t586, A60, H⟩ := H
    try dsimp only at H
    have A6 := Aside0.mk A60
    clear A60
    obtain rfl := Option.some.inj H
    go_enter Tryd.func11, Tryd.ntmps11
    go_wp2_with (first | ((with_reducible refine gate_dst (N := 2) rfl ?_); (try (refine gate_guard (by rfl) ?_; dsimp only)); refine box_event ?hg (N := 2) ?hd (cs := #[.slice A0_0 l0_0.length c0_0, .int .i64 a0_1, .int .i64 a0_2]) (t := 28) ?hr ?_; (case hd => rfl); (case hg => rfl); (case hr => exact ts40_); intro gb584 hg w7 hbox hb; have n0_ := Aside0.mk (below_step (ts50_ HB.out) hb); have n1_ := Aside0.mk (hbox); have n2_ := Aside0.mk ((ts72_ HB.out : w.heap.size ≤ gb584)); have n3_ := Aside0.mk ((ts72_ HB.out : w.heap.size ≤ gb584)); clear HB; have HB := n0_; have BK584 := n1_; have GW584 := n2_; have GE584 := n3_; clear n0_ n1_ n2_ n3_; clear hb hbox hg) | ((with_reducible refine gate_dst (N := 3) rfl ?_); (try (refine gate_guard (by rfl) ?_; dsimp only)); refine box_event ?hg (N := 3) ?hd (cs := #[.slice A1_0 l1_0.length c1_0, .int .i64 a1_1, .int .i64 a1_2]) (t := 28) ?hr ?_; (case hd => rfl); (case hg => rfl); (case hr => exact ts40_); intro gb585 hg w8 hbox hb; have n0_ := Aside0.mk (blk_below (g := gb584) (o := .cells #[.slice A0_0 l0_0.length c0_0, .int .i64 a0_1, .int .i64 a0_2] 28 (0, 0)) (ts29_ BK584.out) hb); have n1_ := Aside0.mk (below_step (ts0_ HB.out GE584.out) hb); have n2_ := Aside0.mk (hbox); have n3_ := Aside0.mk ((ts63_ HB.out GE584.out : w.heap.size ≤ gb585)); have n4_ := Aside0.mk ((ts63_ HB.out GE584.out : w.heap.size ≤ gb585)); have n5_ := Aside0.mk ((ts68_ BK584.out : gb584 ≠ gb585)); have n6_ := Aside0.mk ((ts69_ BK584.out : gb585 ≠ gb584)); clear BK584; clear HB; have BK584 := n0_; have HB := n1_; have BK585 := n2_; have GW585 := n3_; have GE585 := n4_; have NB584_585 := n5_; have NB585_584 := n6_; clear n0_ n1_ n2_ n3_ n4_ n5_ n6_; clear hb hbox hg; have hnb9 := NB584_585.out; have hnc9 := NB585_584.out; have hcz10_0 : w8.cell? ⟨gb584, 0, none⟩ = some (.slice A0_0 l0_0.length c0_0) := (blk_cell BK584.out 0).trans rfl; have hcz10_1 : w8.cell? ⟨gb584, 1, none⟩ = some (.int .i64 a0_1) := (blk_cell BK584.out 1).trans rfl; have hcz10_2 : w8.cell? ⟨gb584, 2, none⟩ = some (.int .i64 a0_2) := (blk_cell BK584.out 2).trans rfl; have hfz10_0 := blk_frozen BK584.out 0; have hfz10_1 := blk_frozen BK584.out 1; have hfz10_2 := blk_frozen BK584.out 2; have hcz11_0 : w8.cell? ⟨gb585, 0, none⟩ = some (.slice A1_0 l1_0.length c1_0) := (blk_cell BK585.out 0).trans rfl; have hcz11_1 : w8.cell? ⟨gb585, 1, none⟩ = some (.int .i64 a1_1) := (blk_cell BK585.out 1).trans rfl; have hcz11_2 : w8.cell? ⟨gb585, 2, none⟩ = some (.int .i64 a1_2) := (blk_cell BK585.out 2).trans rfl; have hfz11_0 := blk_frozen BK585.out 0; have hfz11_1 := blk_frozen BK585.out 1; have hfz11_2 := blk_frozen BK585.out 2) | (go_at_call 23; (with_reducible refine (cupelref10_begins.calls k _ _ l0_0 _ _ l1_0 t586 _ ?side1 ?side2 ?side3 ?side4 A6.out).mono ?_); (case side1 => exact ts21_ HR0_0.out HB.out); (case side2 => exact HC0_0.out); (case side3 => exact ts21_ HR1_0.out HB.out); (case side4 => exact HC1_0.out); rintro e w' ⟨rfl, ⟨nd, rfl⟩⟩))
    go_ret
    exact ⟨ts9_, ts8_ HB.out GE584.out GE585.out⟩
   ·rw [if_neg c5] at H
    have c5b0 : ((l0_0.length : Int) == (l1_0.length : Int)) = false := beq_eq_false_iff_ne.mpr c5
    have c5b1 : ((l0_0.length : Int) != (l1_0.length : Int)) = true := bne_iff_ne.mpr c5
    have c5b2 : (l0_0.length == l1_0.length) = false := by first | simpa using c5 | (simp at c5 ⊢; omega)
    obtain rfl := Option.some.inj H
    go_enter Tryd.func11, Tryd.ntmps11
    go_wp2_with (first | ((with_reducible refine gate_dst (N := 2) rfl ?_); (try (refine gate_guard (by rfl) ?_; dsimp only)); refine box_event ?hg (N := 2) ?hd (cs := #[.slice A0_0 l0_0.length c0_0, .int .i64 a0_1, .int .i64 a0_2]) (t := 28) ?hr ?_; (case hd => rfl); (case hg => rfl); (case hr => exact ts40_); intro gb584 hg w12 hbox hb; have n0_ := Aside0.mk (below_step (ts50_ HB.out) hb); have n1_ := Aside0.mk (hbox); have n2_ := Aside0.mk ((ts72_ HB.out : w.heap.size ≤ gb584)); have n3_ := Aside0.mk ((ts72_ HB.out : w.heap.size ≤ gb584)); clear HB; have HB := n0_; have BK584 := n1_; have GW584 := n2_; have GE584 := n3_; clear n0_ n1_ n2_ n3_; clear hb hbox hg) | ((with_reducible refine gate_dst (N := 3) rfl ?_); (try (refine gate_guard (by rfl) ?_; dsimp only)); refine box_event ?hg (N := 3) ?hd (cs := #[.slice A1_0 l1_0.length c1_0, .int .i64 a1_1, .int .i64 a1_2]) (t := 28) ?hr ?_; (case hd => rfl); (case hg => rfl); (case hr => exact ts40_); intro gb585 hg w13 hbox hb; have n0_ := Aside0.mk (blk_below (g := gb584) (o := .cells #[.slice A0_0 l0_0.length c0_0, .int .i64 a0_1, .int .i64 a0_2] 28 (0, 0)) (ts29_ BK584.out) hb); have n1_ := Aside0.mk (below_step (ts0_ HB.out GE584.out) hb); have n2_ := Aside0.mk (hbox); have n3_ := Aside0.mk ((ts63_ HB.out GE584.out : w.heap.size ≤ gb585)); have n4_ := Aside0.mk ((ts63_ HB.out GE584.out : w.heap.size ≤ gb585)); have n5_ := Aside0.mk ((ts68_ BK584.out : gb584 ≠ gb585)); have n6_ := Aside0.mk ((ts69_ BK584.out : gb585 ≠ gb584)); clear BK584; clear HB; have BK584 := n0_; have HB := n1_; have BK585 := n2_; have GW585 := n3_; have GE585 := n4_; have NB584_585 := n5_; have NB585_584 := n6_; clear n0_ n1_ n2_ n3_ n4_ n5_ n6_; clear hb hbox hg; have hnb14 := NB584_585.out; have hnc14 := NB585_584.out; have hcz15_0 : w13.cell? ⟨gb584, 0, none⟩ = some (.slice A0_0 l0_0.length c0_0) := (blk_cell BK584.out 0).trans rfl; have hcz15_1 : w13.cell? ⟨gb584, 1, none⟩ = some (.int .i64 a0_1) := (blk_cell BK584.out 1).trans rfl; have hcz15_2 : w13.cell? ⟨gb584, 2, none⟩ = some (.int .i64 a0_2) := (blk_cell BK584.out 2).trans rfl; have hfz15_0 := blk_frozen BK584.out 0; have hfz15_1 := blk_frozen BK584.out 1; have hfz15_2 := blk_frozen BK584.out 2; have hcz16_0 : w13.cell? ⟨gb585, 0, none⟩ = some (.slice A1_0 l1_0.length c1_0) := (blk_cell BK585.out 0).trans rfl; have hcz16_1 : w13.cell? ⟨gb585, 1, none⟩ = some (.int .i64 a1_1) := (blk_cell BK585.out 1).trans rfl; have hcz16_2 : w13.cell? ⟨gb585, 2, none⟩ = some (.int .i64 a1_2) := (blk_cell BK585.out 2).trans rfl; have hfz16_0 := blk_frozen BK585.out 0; have hfz16_1 := blk_frozen BK585.out 1; have hfz16_2 := blk_frozen BK585.out 2))
    go_ret
    exact ⟨ts9_, ts8_ HB.out GE584.out GE585.out⟩
  ·rw [if_neg c4] at H
   have c4b0 : (a0_2 == a1_2) = false := beq_eq_false_iff_ne.mpr c4
   have c4b1 : (a0_2 != a1_2) = true := bne_iff_ne.mpr c4
   obtain rfl := Option.some.inj H
   go_enter Tryd.func11, Tryd.ntmps11
   go_wp2_with (first | ((with_reducible refine gate_dst (N := 2) rfl ?_); (try (refine gate_guard (by rfl) ?_; dsimp only)); refine box_event ?hg (N := 2) ?hd (cs := #[.slice A0_0 l0_0.length c0_0, .int .i64 a0_1, .int .i64 a0_2]) (t := 28) ?hr ?_; (case hd => rfl); (case hg => rfl); (case hr => exact ts40_); intro gb584 hg w17 hbox hb; have n0_ := Aside0.mk (below_step (ts50_ HB.out) hb); have n1_ := Aside0.mk (hbox); have n2_ := Aside0.mk ((ts72_ HB.out : w.heap.size ≤ gb584)); have n3_ := Aside0.mk ((ts72_ HB.out : w.heap.size ≤ gb584)); clear HB; have HB := n0_; have BK584 := n1_; have GW584 := n2_; have GE584 := n3_; clear n0_ n1_ n2_ n3_; clear hb hbox hg) | ((with_reducible refine gate_dst (N := 3) rfl ?_); (try (refine gate_guard (by rfl) ?_; dsimp only)); refine box_event ?hg (N := 3) ?hd (cs := #[.slice A1_0 l1_0.length c1_0, .int .i64 a1_1, .int .i64 a1_2]) (t := 28) ?hr ?_; (case hd => rfl); (case hg => rfl); (case hr => exact ts40_); intro gb585 hg w18 hbox hb; have n0_ := Aside0.mk (blk_below (g := gb584) (o := .cells #[.slice A0_0 l0_0.length c0_0, .int .i64 a0_1, .int .i64 a0_2] 28 (0, 0)) (ts29_ BK584.out) hb); have n1_ := Aside0.mk (below_step (ts0_ HB.out GE584.out) hb); have n2_ := Aside0.mk (hbox); have n3_ := Aside0.mk ((ts63_ HB.out GE584.out : w.heap.size ≤ gb585)); have n4_ := Aside0.mk ((ts63_ HB.out GE584.out : w.heap.size ≤ gb585)); have n5_ := Aside0.mk ((ts68_ BK584.out : gb584 ≠ gb585)); have n6_ := Aside0.mk ((ts69_ BK584.out : gb585 ≠ gb584)); clear BK584; clear HB; have BK584 := n0_; have HB := n1_; have BK585 := n2_; have GW585 := n3_; have GE585 := n4_; have NB584_585 := n5_; have NB585_584 := n6_; clear n0_ n1_ n2_ n3_ n4_ n5_ n6_; clear hb hbox hg; have hnb19 := NB584_585.out; have hnc19 := NB585_584.out; have hcz20_0 : w18.cell? ⟨gb584, 0, none⟩ = some (.slice A0_0 l0_0.length c0_0) := (blk_cell BK584.out 0).trans rfl; have hcz20_1 : w18.cell? ⟨gb584, 1, none⟩ = some (.int .i64 a0_1) := (blk_cell BK584.out 1).trans rfl; have hcz20_2 : w18.cell? ⟨gb584, 2, none⟩ = some (.int .i64 a0_2) := (blk_cell BK584.out 2).trans rfl; have hfz20_0 := blk_frozen BK584.out 0; have hfz20_1 := blk_frozen BK584.out 1; have hfz20_2 := blk_frozen BK584.out 2; have hcz21_0 : w18.cell? ⟨gb585, 0, none⟩ = some (.slice A1_0 l1_0.length c1_0) := (blk_cell BK585.out 0).trans rfl; have hcz21_1 : w18.cell? ⟨gb585, 1, none⟩ = some (.int .i64 a1_1) := (blk_cell BK585.out 1).trans rfl; have hcz21_2 : w18.cell? ⟨gb585, 2, none⟩ = some (.int .i64 a1_2) := (blk_cell BK585.out 2).trans rfl; have hfz21_0 := blk_frozen BK585.out 0; have hfz21_1 := blk_frozen BK585.out 1; have hfz21_2 := blk_frozen BK585.out 2))
   go_ret
   exact ⟨ts9_, ts8_ HB.out GE584.out GE585.out⟩
 ·rw [if_neg c3] at H
  have c3b0 : (a0_1 == a1_1) = false := beq_eq_false_iff_ne.mpr c3
  have c3b1 : (a0_1 != a1_1) = true := bne_iff_ne.mpr c3
  obtain rfl := Option.some.inj H
  go_enter Tryd.func11, Tryd.ntmps11
  go_wp2_with (first | ((with_reducible refine gate_dst (N := 2) rfl ?_); (try (refine gate_guard (by rfl) ?_; dsimp only)); refine box_event ?hg (N := 2) ?hd (cs := #[.slice A0_0 l0_0.length c0_0, .int .i64 a0_1, .int .i64 a0_2]) (t := 28) ?hr ?_; (case hd => rfl); (case hg => rfl); (case hr => exact ts40_); intro gb584 hg w22 hbox hb; have n0_ := Aside0.mk (below_step (ts50_ HB.out) hb); have n1_ := Aside0.mk (hbox); have n2_ := Aside0.mk ((ts72_ HB.out : w.heap.size ≤ gb584)); have n3_ := Aside0.mk ((ts72_ HB.out : w.heap.size ≤ gb584)); clear HB; have HB := n0_; have BK584 := n1_; have GW584 := n2_; have GE584 := n3_; clear n0_ n1_ n2_ n3_; clear hb hbox hg) | ((with_reducible refine gate_dst (N := 3) rfl ?_); (try (refine gate_guard (by rfl) ?_; dsimp only)); refine box_event ?hg (N := 3) ?hd (cs := #[.slice A1_0 l1_0.length c1_0, .int .i64 a1_1, .int .i64 a1_2]) (t := 28) ?hr ?_; (case hd => rfl); (case hg => rfl); (case hr => exact ts40_); intro gb585 hg w23 hbox hb; have n0_ := Aside0.mk (blk_below (g := gb584) (o := .cells #[.slice A0_0 l0_0.length c0_0, .int .i64 a0_1, .int .i64 a0_2] 28 (0, 0)) (ts29_ BK584.out) hb); have n1_ := Aside0.mk (below_step (ts0_ HB.out GE584.out) hb); have n2_ := Aside0.mk (hbox); have n3_ := Aside0.mk ((ts63_ HB.out GE584.out : w.heap.size ≤ gb585)); have n4_ := Aside0.mk ((ts63_ HB.out GE584.out : w.heap.size ≤ gb585)); have n5_ := Aside0.mk ((ts68_ BK584.out : gb584 ≠ gb585)); have n6_ := Aside0.mk ((ts69_ BK584.out : gb585 ≠ gb584)); clear BK584; clear HB; have BK584 := n0_; have HB := n1_; have BK585 := n2_; have GW585 := n3_; have GE585 := n4_; have NB584_585 := n5_; have NB585_584 := n6_; clear n0_ n1_ n2_ n3_ n4_ n5_ n6_; clear hb hbox hg; have hnb24 := NB584_585.out; have hnc24 := NB585_584.out; have hcz25_0 : w23.cell? ⟨gb584, 0, none⟩ = some (.slice A0_0 l0_0.length c0_0) := (blk_cell BK584.out 0).trans rfl; have hcz25_1 : w23.cell? ⟨gb584, 1, none⟩ = some (.int .i64 a0_1) := (blk_cell BK584.out 1).trans rfl; have hcz25_2 : w23.cell? ⟨gb584, 2, none⟩ = some (.int .i64 a0_2) := (blk_cell BK584.out 2).trans rfl; have hfz25_0 := blk_frozen BK584.out 0; have hfz25_1 := blk_frozen BK584.out 1; have hfz25_2 := blk_frozen BK584.out 2; have hcz26_0 : w23.cell? ⟨gb585, 0, none⟩ = some (.slice A1_0 l1_0.length c1_0) := (blk_cell BK585.out 0).trans rfl; have hcz26_1 : w23.cell? ⟨gb585, 1, none⟩ = some (.int .i64 a1_1) := (blk_cell BK585.out 1).trans rfl; have hcz26_2 : w23.cell? ⟨gb585, 2, none⟩ = some (.int .i64 a1_2) := (blk_cell BK585.out 2).trans rfl; have hfz26_0 := blk_frozen BK585.out 0; have hfz26_1 := blk_frozen BK585.out 1; have hfz26_2 := blk_frozen BK585.out 2))
  go_ret
  exact ⟨ts9_, ts8_ HB.out GE584.out GE585.out⟩
-- NOT PRINTED: function 3 (cupellaw23_EmulateRuns)
-- NOT PRINTED: function 13 (emulate_Machine_Step)
/-! ### cupelref10_Agree: function 15 -/
def cupelref10_Agree.f (k : Nat) (l0_0 : List Int) (a0_1 : Int) (a0_2 : Int) (l1_0 : List Int) (a1_1 : Int) (a1_2 : Int) : Option (Bool) := (cupelref10_Equal.f k l0_0 a0_1 a0_2 l1_0 a1_1 a1_2).bind fun t590 => (if t590 = true then (some true) else (if a0_1 = 4 then ((cupelref10_begins.f k l0_0 l1_0).bind fun t591 => (if t591 = true then (some true) else (if a1_1 = 4 then ((cupelref10_begins.f k l1_0 l0_0).bind fun t592 => (some t592)) else (some false)))) else (if a1_1 = 4 then ((cupelref10_begins.f k l1_0 l0_0).bind fun t593 => (some t593)) else (some false))))
-- NOT PRINTED: function 4 (cupellaw23_EmulateGoesOn)
-- NOT PRINTED: function 18 (emulate_Machine_State)
-- NOT PRINTED: function 20 (emulate_Machine_Peek)
-- NOT PRINTED: function 5 (cupellaw23_EmulateSteps)
-- NOT PRINTED: function 6 (cupellaw23_EmulateCopies)
-- NOT PRINTED: function 7 (cupellaw23_EmulateNone)
end Go.Proofs.YtekhnkpjeofdpaaDoor.A
