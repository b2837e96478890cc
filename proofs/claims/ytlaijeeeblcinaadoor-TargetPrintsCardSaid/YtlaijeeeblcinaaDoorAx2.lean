/- Written by wip/tools/xprint.py, a program of this session that drives the kit's printer. Not trusted: Lean checks it. -/
import Derived.Test.YtlaijeeeblcinaaDoorAx0
import Derived.Test.YtlaijeeeblcinaaDoorRefFindC
set_option linter.all false
set_option maxHeartbeats 8000000
set_option maxRecDepth 100000
namespace Go.Proofs.YtlaijeeeblcinaaDoor.A
open Go.RowKit Go.Proofs.YtlaijeeeblcinaaDoorW.PrintWords Go.Proofs.YtlaijeeeblcinaaDoorW.PrintLast Go.Proofs.YtlaijeeeblcinaaDoorW.PrintMore
attribute [local go_sem] max2_int min2_int max_two min_two max_three min_three max_four min_four   -- for this text's walks alone
set_option linter.unusedVariables false
set_option linter.unusedSimpArgs false
/-! ### cupelref20_register: function 28 -/
def cupelref20_register.f (a0 : Bool) (a1 : Int) : Option (Bool) := if a0 = true then (if a1 ≥ 0 then (some (decide (a1 < 10))) else (some false)) else (some (a1 == 0))
theorem cupelref20_register.calls (a0 : Bool) (a1 : Int) (r : Bool) (w : World) (h : cupelref20_register.f a0 a1 = some r) :
  Calls Tryd.prog 28 #[.bool a0, .int .i64 a1] w fun e w' => e = .returned (.bool r) ∧ Drawn0 w w' := by
 have H : (if a0 = true then (if a1 ≥ 0 then (some (decide (a1 < 10))) else (some false)) else (some (a1 == 0))) = some r := h
 clear h
 by_cases c3 : a0 = true
 ·subst c3
  rw [if_pos rfl] at H
  by_cases c4 : a1 ≥ 0
  ·rw [if_pos c4] at H
   have c4b0 : decide (0 ≤ a1) = true := decide_eq_true c4
   clear c4
   obtain rfl := Option.some.inj H
   go_enter Tryd.func28, Tryd.ntmps28
   go_wp2
   go_ret
   exact ⟨ts32_, ts16_⟩
  rw [if_neg c4] at H
  have c4b0 : decide (0 ≤ a1) = false := decide_eq_false c4
  clear c4
  obtain rfl := Option.some.inj H
  go_enter Tryd.func28, Tryd.ntmps28
  go_wp2
  go_ret
  exact ⟨ts32_, ts16_⟩
 replace c3 := Bool.eq_false_iff.mpr c3
 subst c3
 rw [if_neg Bool.false_ne_true] at H
 obtain rfl := Option.some.inj H
 go_enter Tryd.func28, Tryd.ntmps28
 go_wp2
 go_ret
 exact ⟨ts32_, ts16_⟩
/-! ### cupelref20_immediate: function 29 -/
def cupelref20_immediate.f (a0 : Int) (a1 : Int) : Option (Bool) := if a0 = 0 then (some (a1 == 0)) else (if a0 = 1 then (if a1 ≥ (-2147483648) then (some (decide (a1 < 2147483648))) else (some false)) else (if a0 = 3 then (if a1 ≥ 0 then (some (decide (a1 ≤ 20000))) else (some false)) else (some true)))
theorem cupelref20_immediate.calls (a0 : Int) (a1 : Int) (r : Bool) (w : World) (h : cupelref20_immediate.f a0 a1 = some r) :
  Calls Tryd.prog 29 #[.int .i64 a0, .int .i64 a1] w fun e w' => e = .returned (.bool r) ∧ Drawn0 w w' := by
 have H : (if a0 = 0 then (some (a1 == 0)) else (if a0 = 1 then (if a1 ≥ (-2147483648) then (some (decide (a1 < 2147483648))) else (some false)) else (if a0 = 3 then (if a1 ≥ 0 then (some (decide (a1 ≤ 20000))) else (some false)) else (some true)))) = some r := h
 clear h
 by_cases c3 : a0 = 0
 ·rw [if_pos c3] at H
  have c3b0 : (a0 == 0) = true := beq_iff_eq.mpr c3
  have c3b1 : (a0 != 0) = false := bne_eq_false_iff_eq.mpr c3
  clear c3
  obtain rfl := Option.some.inj H
  go_enter Tryd.func29, Tryd.ntmps29
  go_wp2
  go_ret
  exact ⟨ts32_, ts16_⟩
 rw [if_neg c3] at H
 have c3b0 : (a0 == 0) = false := beq_eq_false_iff_ne.mpr c3
 have c3b1 : (a0 != 0) = true := bne_iff_ne.mpr c3
 by_cases c4 : a0 = 1
 ·rw [if_pos c4] at H
  have c4b0 : (a0 == 1) = true := beq_iff_eq.mpr c4
  have c4b1 : (a0 != 1) = false := bne_eq_false_iff_eq.mpr c4
  clear c4
  by_cases c5 : a1 ≥ (-2147483648)
  ·rw [if_pos c5] at H
   have c5b0 : decide ((-2147483648) ≤ a1) = true := decide_eq_true c5
   clear c5
   obtain rfl := Option.some.inj H
   go_enter Tryd.func29, Tryd.ntmps29
   go_wp2
   go_ret
   exact ⟨ts32_, ts16_⟩
  rw [if_neg c5] at H
  have c5b0 : decide ((-2147483648) ≤ a1) = false := decide_eq_false c5
  clear c5
  obtain rfl := Option.some.inj H
  go_enter Tryd.func29, Tryd.ntmps29
  go_wp2
  go_ret
  exact ⟨ts32_, ts16_⟩
 rw [if_neg c4] at H
 have c4b0 : (a0 == 1) = false := beq_eq_false_iff_ne.mpr c4
 have c4b1 : (a0 != 1) = true := bne_iff_ne.mpr c4
 by_cases c6 : a0 = 3
 ·rw [if_pos c6] at H
  have c6b0 : (a0 == 3) = true := beq_iff_eq.mpr c6
  have c6b1 : (a0 != 3) = false := bne_eq_false_iff_eq.mpr c6
  clear c6
  by_cases c7 : a1 ≥ 0
  ·rw [if_pos c7] at H
   have c7b0 : decide (0 ≤ a1) = true := decide_eq_true c7
   clear c7
   obtain rfl := Option.some.inj H
   go_enter Tryd.func29, Tryd.ntmps29
   go_wp2
   go_ret
   exact ⟨ts32_, ts16_⟩
  rw [if_neg c7] at H
  have c7b0 : decide (0 ≤ a1) = false := decide_eq_false c7
  clear c7
  obtain rfl := Option.some.inj H
  go_enter Tryd.func29, Tryd.ntmps29
  go_wp2
  go_ret
  exact ⟨ts32_, ts16_⟩
 rw [if_neg c6] at H
 have c6b0 : (a0 == 3) = false := beq_eq_false_iff_ne.mpr c6
 have c6b1 : (a0 != 3) = true := bne_iff_ne.mpr c6
 obtain rfl := Option.some.inj H
 go_enter Tryd.func29, Tryd.ntmps29
 go_wp2
 go_ret
 exact ⟨ts32_, ts16_⟩
/-! ### cupelref20_Valid: function 11 -/
def cupelref20_Valid.f (a0_0 : Int) (a0_1 : Int) (a0_2 : Int) (a0_3 : Int) (a0_4 : Int) : Option (Bool) := (cupelref20_find.f a0_0).bind fun bt153 => (if bt153.2.2.2.2.2.2 = true then ((cupelref20_register.f bt153.2.2.1 a0_1).bind fun t161 => (if t161 = true then ((cupelref20_register.f bt153.2.2.2.1 a0_2).bind fun t162 => (if t162 = true then ((cupelref20_register.f bt153.2.2.2.2.1 a0_3).bind fun t163 => (if t163 = true then ((cupelref20_immediate.f bt153.2.2.2.2.2.1 a0_4).bind fun t164 => (some t164)) else (some false))) else (some false))) else (some false))) else (some false))
theorem cupelref20_Valid.calls (a0_0 : Int) (a0_1 : Int) (a0_2 : Int) (a0_3 : Int) (a0_4 : Int) (r : Bool) (w : World) (h : cupelref20_Valid.f a0_0 a0_1 a0_2 a0_3 a0_4 = some r) :
  Calls Tryd.prog 11 #[.agg #[.int .i64 a0_0, .int .i64 a0_1, .int .i64 a0_2, .int .i64 a0_3, .int .i64 a0_4]] w fun e w' => e = .returned (.bool r) ∧ Below w.heap.size w w' := by
 have hu26 := Tryd.underlying26
 have hu56 := Tryd.underlying56
 have HB := Aside0.mk (Below.refl w.heap.size w)
 have H : ((cupelref20_find.f a0_0).bind fun bt153 => (if bt153.2.2.2.2.2.2 = true then ((cupelref20_register.f bt153.2.2.1 a0_1).bind fun t161 => (if t161 = true then ((cupelref20_register.f bt153.2.2.2.1 a0_2).bind fun t162 => (if t162 = true then ((cupelref20_register.f bt153.2.2.2.2.1 a0_3).bind fun t163 => (if t163 = true then ((cupelref20_immediate.f bt153.2.2.2.2.2.1 a0_4).bind fun t164 => (some t164)) else (some false))) else (some false))) else (some false))) else (some false))) = some r := h
 clear h
 obtain ⟨⟨t153, t154, t155, t156, t157, t158, t159⟩, A2, H⟩ := bsA_ H
 try dsimp only at H
 by_cases c3 : t159 = true
 ·subst c3
  rw [if_pos rfl] at H
  obtain ⟨t161, A4, H⟩ := bsA_ H
  try dsimp only at H
  by_cases c5 : t161 = true
  ·subst c5
   rw [if_pos rfl] at H
   obtain ⟨t162, A6, H⟩ := bsA_ H
   try dsimp only at H
   by_cases c7 : t162 = true
   ·subst c7
    rw [if_pos rfl] at H
    obtain ⟨t163, A8, H⟩ := bsA_ H
    try dsimp only at H
    by_cases c9 : t163 = true
    ·subst c9
     rw [if_pos rfl] at H
     obtain ⟨t164, A10, H⟩ := bsA_ H
     try dsimp only at H
     obtain rfl := Option.some.inj H
     go_enter Tryd.func11, Tryd.ntmps11
     go_wp2_with (first | ((with_reducible refine gate_dst (N := 1) rfl ?_); refine box_event ?hg (N := 1) ?hd (cs := #[.int .i64 a0_0, .int .i64 a0_1, .int .i64 a0_2, .int .i64 a0_3, .int .i64 a0_4]) (t := 26) ?hr ?_; (case hd => rfl); (case hg => rfl); (case hr => exact ts15_); intro gb152 hg w11 hbox hb; have BK152 := Aside0.mk (hbox); have GW152 := Aside0.mk ((ts45_ HB.out : w.heap.size ≤ gb152)); have GE152 := Aside0.mk ((ts45_ HB.out : w.heap.size ≤ gb152)); replace HB := Aside0.mk (below_step (ts34_ HB.out) hb); clear hb hbox hg; have hcz12_0 : w11.cell? ⟨gb152, 0, none⟩ = some (.int .i64 a0_0) := (blk_cell BK152.out 0).trans rfl; have hcz12_1 : w11.cell? ⟨gb152, 1, none⟩ = some (.int .i64 a0_1) := (blk_cell BK152.out 1).trans rfl; have hcz12_2 : w11.cell? ⟨gb152, 2, none⟩ = some (.int .i64 a0_2) := (blk_cell BK152.out 2).trans rfl; have hcz12_3 : w11.cell? ⟨gb152, 3, none⟩ = some (.int .i64 a0_3) := (blk_cell BK152.out 3).trans rfl; have hcz12_4 : w11.cell? ⟨gb152, 4, none⟩ = some (.int .i64 a0_4) := (blk_cell BK152.out 4).trans rfl; have hfz12_0 := blk_frozen BK152.out 0; have hfz12_1 := blk_frozen BK152.out 1; have hfz12_2 := blk_frozen BK152.out 2; have hfz12_3 := blk_frozen BK152.out 3; have hfz12_4 := blk_frozen BK152.out 4) | ((with_reducible refine gate_callee (f := 27) rfl ?_); refine goesL_ (some 8) rfl rfl Tryd.func27 (by kernel_rfl) rfl #[.int .i64 a0_0] rfl ts8_ ?_; (with_reducible refine (cupelref20_find.calls a0_0 t153 t154 t155 t156 t157 t158 true _ A2.out).mono ?_); rintro e w13 ⟨rfl, hb⟩; refine ⟨_, rfl, ?_⟩; replace BK152 := Aside0.mk (blk_below (g := gb152) (o := .cells #[.int .i64 a0_0, .int .i64 a0_1, .int .i64 a0_2, .int .i64 a0_3, .int .i64 a0_4] 26 (0, 0)) (ts14_ BK152.out) hb); replace HB := Aside0.mk (below_step (ts17_ HB.out GE152.out) hb); clear hb) | ((with_reducible refine gate_dst (N := 3) rfl ?_); refine box_event ?hg (N := 3) ?hd (cs := #[.int .i64 0, .string (⟨#[]⟩ : ByteArray), .bool false, .bool false, .bool false, .int .i64 0]) (t := 56) ?hr ?_; (case hd => rfl); (case hg => rfl); (case hr => exact ts15_); intro gb160 hg w14 hbox hb; have BK160 := Aside0.mk (hbox); have GW160 := Aside0.mk ((ts38_ HB.out GE152.out : w.heap.size ≤ gb160)); have GE160 := Aside0.mk ((ts38_ HB.out GE152.out : w.heap.size ≤ gb160)); replace HB := Aside0.mk (below_step (ts17_ HB.out GE152.out) hb); have NB152_160 := Aside0.mk ((ts40_ BK152.out : gb152 ≠ gb160)); have NB160_152 := Aside0.mk ((ts36_ BK152.out : gb160 ≠ gb152)); replace BK152 := Aside0.mk (blk_below (g := gb152) (o := .cells #[.int .i64 a0_0, .int .i64 a0_1, .int .i64 a0_2, .int .i64 a0_3, .int .i64 a0_4] 26 (0, 0)) (ts14_ BK152.out) hb); clear hb hbox hg; have hnb15 := NB160_152.out; have hnc15 := NB152_160.out; have hcz16_0 : w14.cell? ⟨gb160, 0, none⟩ = some (.int .i64 0) := (blk_cell BK160.out 0).trans rfl; have hcz16_1 : w14.cell? ⟨gb160, 1, none⟩ = some (.string (⟨#[]⟩ : ByteArray)) := (blk_cell BK160.out 1).trans rfl; have hcz16_2 : w14.cell? ⟨gb160, 2, none⟩ = some (.bool false) := (blk_cell BK160.out 2).trans rfl; have hcz16_3 : w14.cell? ⟨gb160, 3, none⟩ = some (.bool false) := (blk_cell BK160.out 3).trans rfl; have hcz16_4 : w14.cell? ⟨gb160, 4, none⟩ = some (.bool false) := (blk_cell BK160.out 4).trans rfl; have hcz16_5 : w14.cell? ⟨gb160, 5, none⟩ = some (.int .i64 0) := (blk_cell BK160.out 5).trans rfl; have hfz16_0 := blk_frozen BK160.out 0; have hfz16_1 := blk_frozen BK160.out 1; have hfz16_2 := blk_frozen BK160.out 2; have hfz16_3 := blk_frozen BK160.out 3; have hfz16_4 := blk_frozen BK160.out 4; have hfz16_5 := blk_frozen BK160.out 5; have hcz17_0 : w14.cell? ⟨gb152, 0, none⟩ = some (.int .i64 a0_0) := (blk_cell BK152.out 0).trans rfl; have hcz17_1 : w14.cell? ⟨gb152, 1, none⟩ = some (.int .i64 a0_1) := (blk_cell BK152.out 1).trans rfl; have hcz17_2 : w14.cell? ⟨gb152, 2, none⟩ = some (.int .i64 a0_2) := (blk_cell BK152.out 2).trans rfl; have hcz17_3 : w14.cell? ⟨gb152, 3, none⟩ = some (.int .i64 a0_3) := (blk_cell BK152.out 3).trans rfl; have hcz17_4 : w14.cell? ⟨gb152, 4, none⟩ = some (.int .i64 a0_4) := (blk_cell BK152.out 4).trans rfl; have hfz17_0 := blk_frozen BK152.out 0; have hfz17_1 := blk_frozen BK152.out 1; have hfz17_2 := blk_frozen BK152.out 2; have hfz17_3 := blk_frozen BK152.out 3; have hfz17_4 := blk_frozen BK152.out 4) | (go_at_call 28; (with_reducible refine (cupelref20_register.calls t155 a0_1 true _ A4.out).mono ?_); rintro e w' ⟨rfl, ⟨nd, rfl⟩⟩) | (go_at_call 28; (with_reducible refine (cupelref20_register.calls t156 a0_2 true _ A6.out).mono ?_); rintro e w' ⟨rfl, ⟨nd, rfl⟩⟩) | (go_at_call 28; (with_reducible refine (cupelref20_register.calls t157 a0_3 true _ A8.out).mono ?_); rintro e w' ⟨rfl, ⟨nd, rfl⟩⟩) | (go_at_call 29; (with_reducible refine (cupelref20_immediate.calls t158 a0_4 t164 _ A10.out).mono ?_); rintro e w' ⟨rfl, ⟨nd, rfl⟩⟩))
     go_ret
     exact ⟨ts26_, ts25_ HB.out GE152.out GE160.out⟩
    replace c9 := Bool.eq_false_iff.mpr c9
    subst c9
    rw [if_neg Bool.false_ne_true] at H
    obtain rfl := Option.some.inj H
    go_enter Tryd.func11, Tryd.ntmps11
    go_wp2_with (first | ((with_reducible refine gate_dst (N := 1) rfl ?_); refine box_event ?hg (N := 1) ?hd (cs := #[.int .i64 a0_0, .int .i64 a0_1, .int .i64 a0_2, .int .i64 a0_3, .int .i64 a0_4]) (t := 26) ?hr ?_; (case hd => rfl); (case hg => rfl); (case hr => exact ts15_); intro gb152 hg w18 hbox hb; have BK152 := Aside0.mk (hbox); have GW152 := Aside0.mk ((ts45_ HB.out : w.heap.size ≤ gb152)); have GE152 := Aside0.mk ((ts45_ HB.out : w.heap.size ≤ gb152)); replace HB := Aside0.mk (below_step (ts34_ HB.out) hb); clear hb hbox hg; have hcz19_0 : w18.cell? ⟨gb152, 0, none⟩ = some (.int .i64 a0_0) := (blk_cell BK152.out 0).trans rfl; have hcz19_1 : w18.cell? ⟨gb152, 1, none⟩ = some (.int .i64 a0_1) := (blk_cell BK152.out 1).trans rfl; have hcz19_2 : w18.cell? ⟨gb152, 2, none⟩ = some (.int .i64 a0_2) := (blk_cell BK152.out 2).trans rfl; have hcz19_3 : w18.cell? ⟨gb152, 3, none⟩ = some (.int .i64 a0_3) := (blk_cell BK152.out 3).trans rfl; have hcz19_4 : w18.cell? ⟨gb152, 4, none⟩ = some (.int .i64 a0_4) := (blk_cell BK152.out 4).trans rfl; have hfz19_0 := blk_frozen BK152.out 0; have hfz19_1 := blk_frozen BK152.out 1; have hfz19_2 := blk_frozen BK152.out 2; have hfz19_3 := blk_frozen BK152.out 3; have hfz19_4 := blk_frozen BK152.out 4) | ((with_reducible refine gate_callee (f := 27) rfl ?_); refine goesL_ (some 8) rfl rfl Tryd.func27 (by kernel_rfl) rfl #[.int .i64 a0_0] rfl ts8_ ?_; (with_reducible refine (cupelref20_find.calls a0_0 t153 t154 t155 t156 t157 t158 true _ A2.out).mono ?_); rintro e w20 ⟨rfl, hb⟩; refine ⟨_, rfl, ?_⟩; replace BK152 := Aside0.mk (blk_below (g := gb152) (o := .cells #[.int .i64 a0_0, .int .i64 a0_1, .int .i64 a0_2, .int .i64 a0_3, .int .i64 a0_4] 26 (0, 0)) (ts14_ BK152.out) hb); replace HB := Aside0.mk (below_step (ts17_ HB.out GE152.out) hb); clear hb) | ((with_reducible refine gate_dst (N := 3) rfl ?_); refine box_event ?hg (N := 3) ?hd (cs := #[.int .i64 0, .string (⟨#[]⟩ : ByteArray), .bool false, .bool false, .bool false, .int .i64 0]) (t := 56) ?hr ?_; (case hd => rfl); (case hg => rfl); (case hr => exact ts15_); intro gb160 hg w21 hbox hb; have BK160 := Aside0.mk (hbox); have GW160 := Aside0.mk ((ts38_ HB.out GE152.out : w.heap.size ≤ gb160)); have GE160 := Aside0.mk ((ts38_ HB.out GE152.out : w.heap.size ≤ gb160)); replace HB := Aside0.mk (below_step (ts17_ HB.out GE152.out) hb); have NB152_160 := Aside0.mk ((ts40_ BK152.out : gb152 ≠ gb160)); have NB160_152 := Aside0.mk ((ts36_ BK152.out : gb160 ≠ gb152)); replace BK152 := Aside0.mk (blk_below (g := gb152) (o := .cells #[.int .i64 a0_0, .int .i64 a0_1, .int .i64 a0_2, .int .i64 a0_3, .int .i64 a0_4] 26 (0, 0)) (ts14_ BK152.out) hb); clear hb hbox hg; have hnb22 := NB160_152.out; have hnc22 := NB152_160.out; have hcz23_0 : w21.cell? ⟨gb160, 0, none⟩ = some (.int .i64 0) := (blk_cell BK160.out 0).trans rfl; have hcz23_1 : w21.cell? ⟨gb160, 1, none⟩ = some (.string (⟨#[]⟩ : ByteArray)) := (blk_cell BK160.out 1).trans rfl; have hcz23_2 : w21.cell? ⟨gb160, 2, none⟩ = some (.bool false) := (blk_cell BK160.out 2).trans rfl; have hcz23_3 : w21.cell? ⟨gb160, 3, none⟩ = some (.bool false) := (blk_cell BK160.out 3).trans rfl; have hcz23_4 : w21.cell? ⟨gb160, 4, none⟩ = some (.bool false) := (blk_cell BK160.out 4).trans rfl; have hcz23_5 : w21.cell? ⟨gb160, 5, none⟩ = some (.int .i64 0) := (blk_cell BK160.out 5).trans rfl; have hfz23_0 := blk_frozen BK160.out 0; have hfz23_1 := blk_frozen BK160.out 1; have hfz23_2 := blk_frozen BK160.out 2; have hfz23_3 := blk_frozen BK160.out 3; have hfz23_4 := blk_frozen BK160.out 4; have hfz23_5 := blk_frozen BK160.out 5; have hcz24_0 : w21.cell? ⟨gb152, 0, none⟩ = some (.int .i64 a0_0) := (blk_cell BK152.out 0).trans rfl; have hcz24_1 : w21.cell? ⟨gb152, 1, none⟩ = some (.int .i64 a0_1) := (blk_cell BK152.out 1).trans rfl; have hcz24_2 : w21.cell? ⟨gb152, 2, none⟩ = some (.int .i64 a0_2) := (blk_cell BK152.out 2).trans rfl; have hcz24_3 : w21.cell? ⟨gb152, 3, none⟩ = some (.int .i64 a0_3) := (blk_cell BK152.out 3).trans rfl; have hcz24_4 : w21.cell? ⟨gb152, 4, none⟩ = some (.int .i64 a0_4) := (blk_cell BK152.out 4).trans rfl; have hfz24_0 := blk_frozen BK152.out 0; have hfz24_1 := blk_frozen BK152.out 1; have hfz24_2 := blk_frozen BK152.out 2; have hfz24_3 := blk_frozen BK152.out 3; have hfz24_4 := blk_frozen BK152.out 4) | (go_at_call 28; (with_reducible refine (cupelref20_register.calls t155 a0_1 true _ A4.out).mono ?_); rintro e w' ⟨rfl, ⟨nd, rfl⟩⟩) | (go_at_call 28; (with_reducible refine (cupelref20_register.calls t156 a0_2 true _ A6.out).mono ?_); rintro e w' ⟨rfl, ⟨nd, rfl⟩⟩) | (go_at_call 28; (with_reducible refine (cupelref20_register.calls t157 a0_3 false _ A8.out).mono ?_); rintro e w' ⟨rfl, ⟨nd, rfl⟩⟩))
    go_ret
    exact ⟨ts26_, ts25_ HB.out GE152.out GE160.out⟩
   replace c7 := Bool.eq_false_iff.mpr c7
   subst c7
   rw [if_neg Bool.false_ne_true] at H
   obtain rfl := Option.some.inj H
   go_enter Tryd.func11, Tryd.ntmps11
   go_wp2_with (first | ((with_reducible refine gate_dst (N := 1) rfl ?_); refine box_event ?hg (N := 1) ?hd (cs := #[.int .i64 a0_0, .int .i64 a0_1, .int .i64 a0_2, .int .i64 a0_3, .int .i64 a0_4]) (t := 26) ?hr ?_; (case hd => rfl); (case hg => rfl); (case hr => exact ts15_); intro gb152 hg w25 hbox hb; have BK152 := Aside0.mk (hbox); have GW152 := Aside0.mk ((ts45_ HB.out : w.heap.size ≤ gb152)); have GE152 := Aside0.mk ((ts45_ HB.out : w.heap.size ≤ gb152)); replace HB := Aside0.mk (below_step (ts34_ HB.out) hb); clear hb hbox hg; have hcz26_0 : w25.cell? ⟨gb152, 0, none⟩ = some (.int .i64 a0_0) := (blk_cell BK152.out 0).trans rfl; have hcz26_1 : w25.cell? ⟨gb152, 1, none⟩ = some (.int .i64 a0_1) := (blk_cell BK152.out 1).trans rfl; have hcz26_2 : w25.cell? ⟨gb152, 2, none⟩ = some (.int .i64 a0_2) := (blk_cell BK152.out 2).trans rfl; have hcz26_3 : w25.cell? ⟨gb152, 3, none⟩ = some (.int .i64 a0_3) := (blk_cell BK152.out 3).trans rfl; have hcz26_4 : w25.cell? ⟨gb152, 4, none⟩ = some (.int .i64 a0_4) := (blk_cell BK152.out 4).trans rfl; have hfz26_0 := blk_frozen BK152.out 0; have hfz26_1 := blk_frozen BK152.out 1; have hfz26_2 := blk_frozen BK152.out 2; have hfz26_3 := blk_frozen BK152.out 3; have hfz26_4 := blk_frozen BK152.out 4) | ((with_reducible refine gate_callee (f := 27) rfl ?_); refine goesL_ (some 8) rfl rfl Tryd.func27 (by kernel_rfl) rfl #[.int .i64 a0_0] rfl ts8_ ?_; (with_reducible refine (cupelref20_find.calls a0_0 t153 t154 t155 t156 t157 t158 true _ A2.out).mono ?_); rintro e w27 ⟨rfl, hb⟩; refine ⟨_, rfl, ?_⟩; replace BK152 := Aside0.mk (blk_below (g := gb152) (o := .cells #[.int .i64 a0_0, .int .i64 a0_1, .int .i64 a0_2, .int .i64 a0_3, .int .i64 a0_4] 26 (0, 0)) (ts14_ BK152.out) hb); replace HB := Aside0.mk (below_step (ts17_ HB.out GE152.out) hb); clear hb) | ((with_reducible refine gate_dst (N := 3) rfl ?_); refine box_event ?hg (N := 3) ?hd (cs := #[.int .i64 0, .string (⟨#[]⟩ : ByteArray), .bool false, .bool false, .bool false, .int .i64 0]) (t := 56) ?hr ?_; (case hd => rfl); (case hg => rfl); (case hr => exact ts15_); intro gb160 hg w28 hbox hb; have BK160 := Aside0.mk (hbox); have GW160 := Aside0.mk ((ts38_ HB.out GE152.out : w.heap.size ≤ gb160)); have GE160 := Aside0.mk ((ts38_ HB.out GE152.out : w.heap.size ≤ gb160)); replace HB := Aside0.mk (below_step (ts17_ HB.out GE152.out) hb); have NB152_160 := Aside0.mk ((ts40_ BK152.out : gb152 ≠ gb160)); have NB160_152 := Aside0.mk ((ts36_ BK152.out : gb160 ≠ gb152)); replace BK152 := Aside0.mk (blk_below (g := gb152) (o := .cells #[.int .i64 a0_0, .int .i64 a0_1, .int .i64 a0_2, .int .i64 a0_3, .int .i64 a0_4] 26 (0, 0)) (ts14_ BK152.out) hb); clear hb hbox hg; have hnb29 := NB160_152.out; have hnc29 := NB152_160.out; have hcz30_0 : w28.cell? ⟨gb160, 0, none⟩ = some (.int .i64 0) := (blk_cell BK160.out 0).trans rfl; have hcz30_1 : w28.cell? ⟨gb160, 1, none⟩ = some (.string (⟨#[]⟩ : ByteArray)) := (blk_cell BK160.out 1).trans rfl; have hcz30_2 : w28.cell? ⟨gb160, 2, none⟩ = some (.bool false) := (blk_cell BK160.out 2).trans rfl; have hcz30_3 : w28.cell? ⟨gb160, 3, none⟩ = some (.bool false) := (blk_cell BK160.out 3).trans rfl; have hcz30_4 : w28.cell? ⟨gb160, 4, none⟩ = some (.bool false) := (blk_cell BK160.out 4).trans rfl; have hcz30_5 : w28.cell? ⟨gb160, 5, none⟩ = some (.int .i64 0) := (blk_cell BK160.out 5).trans rfl; have hfz30_0 := blk_frozen BK160.out 0; have hfz30_1 := blk_frozen BK160.out 1; have hfz30_2 := blk_frozen BK160.out 2; have hfz30_3 := blk_frozen BK160.out 3; have hfz30_4 := blk_frozen BK160.out 4; have hfz30_5 := blk_frozen BK160.out 5; have hcz31_0 : w28.cell? ⟨gb152, 0, none⟩ = some (.int .i64 a0_0) := (blk_cell BK152.out 0).trans rfl; have hcz31_1 : w28.cell? ⟨gb152, 1, none⟩ = some (.int .i64 a0_1) := (blk_cell BK152.out 1).trans rfl; have hcz31_2 : w28.cell? ⟨gb152, 2, none⟩ = some (.int .i64 a0_2) := (blk_cell BK152.out 2).trans rfl; have hcz31_3 : w28.cell? ⟨gb152, 3, none⟩ = some (.int .i64 a0_3) := (blk_cell BK152.out 3).trans rfl; have hcz31_4 : w28.cell? ⟨gb152, 4, none⟩ = some (.int .i64 a0_4) := (blk_cell BK152.out 4).trans rfl; have hfz31_0 := blk_frozen BK152.out 0; have hfz31_1 := blk_frozen BK152.out 1; have hfz31_2 := blk_frozen BK152.out 2; have hfz31_3 := blk_frozen BK152.out 3; have hfz31_4 := blk_frozen BK152.out 4) | (go_at_call 28; (with_reducible refine (cupelref20_register.calls t155 a0_1 true _ A4.out).mono ?_); rintro e w' ⟨rfl, ⟨nd, rfl⟩⟩) | (go_at_call 28; (with_reducible refine (cupelref20_register.calls t156 a0_2 false _ A6.out).mono ?_); rintro e w' ⟨rfl, ⟨nd, rfl⟩⟩))
   go_ret
   exact ⟨ts26_, ts25_ HB.out GE152.out GE160.out⟩
  replace c5 := Bool.eq_false_iff.mpr c5
  subst c5
  rw [if_neg Bool.false_ne_true] at H
  obtain rfl := Option.some.inj H
  go_enter Tryd.func11, Tryd.ntmps11
  go_wp2_with (first | ((with_reducible refine gate_dst (N := 1) rfl ?_); refine box_event ?hg (N := 1) ?hd (cs := #[.int .i64 a0_0, .int .i64 a0_1, .int .i64 a0_2, .int .i64 a0_3, .int .i64 a0_4]) (t := 26) ?hr ?_; (case hd => rfl); (case hg => rfl); (case hr => exact ts15_); intro gb152 hg w32 hbox hb; have BK152 := Aside0.mk (hbox); have GW152 := Aside0.mk ((ts45_ HB.out : w.heap.size ≤ gb152)); have GE152 := Aside0.mk ((ts45_ HB.out : w.heap.size ≤ gb152)); replace HB := Aside0.mk (below_step (ts34_ HB.out) hb); clear hb hbox hg; have hcz33_0 : w32.cell? ⟨gb152, 0, none⟩ = some (.int .i64 a0_0) := (blk_cell BK152.out 0).trans rfl; have hcz33_1 : w32.cell? ⟨gb152, 1, none⟩ = some (.int .i64 a0_1) := (blk_cell BK152.out 1).trans rfl; have hcz33_2 : w32.cell? ⟨gb152, 2, none⟩ = some (.int .i64 a0_2) := (blk_cell BK152.out 2).trans rfl; have hcz33_3 : w32.cell? ⟨gb152, 3, none⟩ = some (.int .i64 a0_3) := (blk_cell BK152.out 3).trans rfl; have hcz33_4 : w32.cell? ⟨gb152, 4, none⟩ = some (.int .i64 a0_4) := (blk_cell BK152.out 4).trans rfl; have hfz33_0 := blk_frozen BK152.out 0; have hfz33_1 := blk_frozen BK152.out 1; have hfz33_2 := blk_frozen BK152.out 2; have hfz33_3 := blk_frozen BK152.out 3; have hfz33_4 := blk_frozen BK152.out 4) | ((with_reducible refine gate_callee (f := 27) rfl ?_); refine goesL_ (some 8) rfl rfl Tryd.func27 (by kernel_rfl) rfl #[.int .i64 a0_0] rfl ts8_ ?_; (with_reducible refine (cupelref20_find.calls a0_0 t153 t154 t155 t156 t157 t158 true _ A2.out).mono ?_); rintro e w34 ⟨rfl, hb⟩; refine ⟨_, rfl, ?_⟩; replace BK152 := Aside0.mk (blk_below (g := gb152) (o := .cells #[.int .i64 a0_0, .int .i64 a0_1, .int .i64 a0_2, .int .i64 a0_3, .int .i64 a0_4] 26 (0, 0)) (ts14_ BK152.out) hb); replace HB := Aside0.mk (below_step (ts17_ HB.out GE152.out) hb); clear hb) | ((with_reducible refine gate_dst (N := 3) rfl ?_); refine box_event ?hg (N := 3) ?hd (cs := #[.int .i64 0, .string (⟨#[]⟩ : ByteArray), .bool false, .bool false, .bool false, .int .i64 0]) (t := 56) ?hr ?_; (case hd => rfl); (case hg => rfl); (case hr => exact ts15_); intro gb160 hg w35 hbox hb; have BK160 := Aside0.mk (hbox); have GW160 := Aside0.mk ((ts38_ HB.out GE152.out : w.heap.size ≤ gb160)); have GE160 := Aside0.mk ((ts38_ HB.out GE152.out : w.heap.size ≤ gb160)); replace HB := Aside0.mk (below_step (ts17_ HB.out GE152.out) hb); have NB152_160 := Aside0.mk ((ts40_ BK152.out : gb152 ≠ gb160)); have NB160_152 := Aside0.mk ((ts36_ BK152.out : gb160 ≠ gb152)); replace BK152 := Aside0.mk (blk_below (g := gb152) (o := .cells #[.int .i64 a0_0, .int .i64 a0_1, .int .i64 a0_2, .int .i64 a0_3, .int .i64 a0_4] 26 (0, 0)) (ts14_ BK152.out) hb); clear hb hbox hg; have hnb36 := NB160_152.out; have hnc36 := NB152_160.out; have hcz37_0 : w35.cell? ⟨gb160, 0, none⟩ = some (.int .i64 0) := (blk_cell BK160.out 0).trans rfl; have hcz37_1 : w35.cell? ⟨gb160, 1, none⟩ = some (.string (⟨#[]⟩ : ByteArray)) := (blk_cell BK160.out 1).trans rfl; have hcz37_2 : w35.cell? ⟨gb160, 2, none⟩ = some (.bool false) := (blk_cell BK160.out 2).trans rfl; have hcz37_3 : w35.cell? ⟨gb160, 3, none⟩ = some (.bool false) := (blk_cell BK160.out 3).trans rfl; have hcz37_4 : w35.cell? ⟨gb160, 4, none⟩ = some (.bool false) := (blk_cell BK160.out 4).trans rfl; have hcz37_5 : w35.cell? ⟨gb160, 5, none⟩ = some (.int .i64 0) := (blk_cell BK160.out 5).trans rfl; have hfz37_0 := blk_frozen BK160.out 0; have hfz37_1 := blk_frozen BK160.out 1; have hfz37_2 := blk_frozen BK160.out 2; have hfz37_3 := blk_frozen BK160.out 3; have hfz37_4 := blk_frozen BK160.out 4; have hfz37_5 := blk_frozen BK160.out 5; have hcz38_0 : w35.cell? ⟨gb152, 0, none⟩ = some (.int .i64 a0_0) := (blk_cell BK152.out 0).trans rfl; have hcz38_1 : w35.cell? ⟨gb152, 1, none⟩ = some (.int .i64 a0_1) := (blk_cell BK152.out 1).trans rfl; have hcz38_2 : w35.cell? ⟨gb152, 2, none⟩ = some (.int .i64 a0_2) := (blk_cell BK152.out 2).trans rfl; have hcz38_3 : w35.cell? ⟨gb152, 3, none⟩ = some (.int .i64 a0_3) := (blk_cell BK152.out 3).trans rfl; have hcz38_4 : w35.cell? ⟨gb152, 4, none⟩ = some (.int .i64 a0_4) := (blk_cell BK152.out 4).trans rfl; have hfz38_0 := blk_frozen BK152.out 0; have hfz38_1 := blk_frozen BK152.out 1; have hfz38_2 := blk_frozen BK152.out 2; have hfz38_3 := blk_frozen BK152.out 3; have hfz38_4 := blk_frozen BK152.out 4) | (go_at_call 28; (with_reducible refine (cupelref20_register.calls t155 a0_1 false _ A4.out).mono ?_); rintro e w' ⟨rfl, ⟨nd, rfl⟩⟩))
  go_ret
  exact ⟨ts26_, ts25_ HB.out GE152.out GE160.out⟩
 replace c3 := Bool.eq_false_iff.mpr c3
 subst c3
 rw [if_neg Bool.false_ne_true] at H
 obtain rfl := Option.some.inj H
 go_enter Tryd.func11, Tryd.ntmps11
 go_wp2_with (first | ((with_reducible refine gate_dst (N := 1) rfl ?_); refine box_event ?hg (N := 1) ?hd (cs := #[.int .i64 a0_0, .int .i64 a0_1, .int .i64 a0_2, .int .i64 a0_3, .int .i64 a0_4]) (t := 26) ?hr ?_; (case hd => rfl); (case hg => rfl); (case hr => exact ts15_); intro gb152 hg w39 hbox hb; have BK152 := Aside0.mk (hbox); have GW152 := Aside0.mk ((ts45_ HB.out : w.heap.size ≤ gb152)); have GE152 := Aside0.mk ((ts45_ HB.out : w.heap.size ≤ gb152)); replace HB := Aside0.mk (below_step (ts34_ HB.out) hb); clear hb hbox hg; have hcz40_0 : w39.cell? ⟨gb152, 0, none⟩ = some (.int .i64 a0_0) := (blk_cell BK152.out 0).trans rfl; have hcz40_1 : w39.cell? ⟨gb152, 1, none⟩ = some (.int .i64 a0_1) := (blk_cell BK152.out 1).trans rfl; have hcz40_2 : w39.cell? ⟨gb152, 2, none⟩ = some (.int .i64 a0_2) := (blk_cell BK152.out 2).trans rfl; have hcz40_3 : w39.cell? ⟨gb152, 3, none⟩ = some (.int .i64 a0_3) := (blk_cell BK152.out 3).trans rfl; have hcz40_4 : w39.cell? ⟨gb152, 4, none⟩ = some (.int .i64 a0_4) := (blk_cell BK152.out 4).trans rfl; have hfz40_0 := blk_frozen BK152.out 0; have hfz40_1 := blk_frozen BK152.out 1; have hfz40_2 := blk_frozen BK152.out 2; have hfz40_3 := blk_frozen BK152.out 3; have hfz40_4 := blk_frozen BK152.out 4) | ((with_reducible refine gate_callee (f := 27) rfl ?_); refine goesL_ (some 8) rfl rfl Tryd.func27 (by kernel_rfl) rfl #[.int .i64 a0_0] rfl ts8_ ?_; (with_reducible refine (cupelref20_find.calls a0_0 t153 t154 t155 t156 t157 t158 false _ A2.out).mono ?_); rintro e w41 ⟨rfl, hb⟩; refine ⟨_, rfl, ?_⟩; replace BK152 := Aside0.mk (blk_below (g := gb152) (o := .cells #[.int .i64 a0_0, .int .i64 a0_1, .int .i64 a0_2, .int .i64 a0_3, .int .i64 a0_4] 26 (0, 0)) (ts14_ BK152.out) hb); replace HB := Aside0.mk (below_step (ts17_ HB.out GE152.out) hb); clear hb) | ((with_reducible refine gate_dst (N := 3) rfl ?_); refine box_event ?hg (N := 3) ?hd (cs := #[.int .i64 0, .string (⟨#[]⟩ : ByteArray), .bool false, .bool false, .bool false, .int .i64 0]) (t := 56) ?hr ?_; (case hd => rfl); (case hg => rfl); (case hr => exact ts15_); intro gb160 hg w42 hbox hb; have BK160 := Aside0.mk (hbox); have GW160 := Aside0.mk ((ts38_ HB.out GE152.out : w.heap.size ≤ gb160)); have GE160 := Aside0.mk ((ts38_ HB.out GE152.out : w.heap.size ≤ gb160)); replace HB := Aside0.mk (below_step (ts17_ HB.out GE152.out) hb); have NB152_160 := Aside0.mk ((ts40_ BK152.out : gb152 ≠ gb160)); have NB160_152 := Aside0.mk ((ts36_ BK152.out : gb160 ≠ gb152)); replace BK152 := Aside0.mk (blk_below (g := gb152) (o := .cells #[.int .i64 a0_0, .int .i64 a0_1, .int .i64 a0_2, .int .i64 a0_3, .int .i64 a0_4] 26 (0, 0)) (ts14_ BK152.out) hb); clear hb hbox hg; have hnb43 := NB160_152.out; have hnc43 := NB152_160.out; have hcz44_0 : w42.cell? ⟨gb160, 0, none⟩ = some (.int .i64 0) := (blk_cell BK160.out 0).trans rfl; have hcz44_1 : w42.cell? ⟨gb160, 1, none⟩ = some (.string (⟨#[]⟩ : ByteArray)) := (blk_cell BK160.out 1).trans rfl; have hcz44_2 : w42.cell? ⟨gb160, 2, none⟩ = some (.bool false) := (blk_cell BK160.out 2).trans rfl; have hcz44_3 : w42.cell? ⟨gb160, 3, none⟩ = some (.bool false) := (blk_cell BK160.out 3).trans rfl; have hcz44_4 : w42.cell? ⟨gb160, 4, none⟩ = some (.bool false) := (blk_cell BK160.out 4).trans rfl; have hcz44_5 : w42.cell? ⟨gb160, 5, none⟩ = some (.int .i64 0) := (blk_cell BK160.out 5).trans rfl; have hfz44_0 := blk_frozen BK160.out 0; have hfz44_1 := blk_frozen BK160.out 1; have hfz44_2 := blk_frozen BK160.out 2; have hfz44_3 := blk_frozen BK160.out 3; have hfz44_4 := blk_frozen BK160.out 4; have hfz44_5 := blk_frozen BK160.out 5))
 go_ret
 exact ⟨ts26_, ts25_ HB.out GE152.out GE160.out⟩
/-! ### cupelref20_words: function 31 -/
def cupelref20_words.f (a0_0 : Int) (a0_1 : Int) (a0_2 : Int) (a0_3 : Int) (a0_4 : Int) : Option (List Int) := if a0_0 = 3 then (some (([IntKind.u64.wrap ((IntKind.u64.wrap ((IntKind.u64.wrap ((IntKind.u64.wrap (a0_0)) + (IntKind.u64.wrap ((IntKind.u64.wrap (a0_1)) * 256)))) + (IntKind.u64.wrap ((IntKind.u64.wrap (a0_2)) * 4096)))) + (IntKind.u64.wrap ((IntKind.u64.wrap (a0_3)) * 65536))), IntKind.u64.wrap (a0_4)] : List Int))) else (some (([IntKind.u64.wrap ((IntKind.u64.wrap ((IntKind.u64.wrap ((IntKind.u64.wrap ((IntKind.u64.wrap (a0_0)) + (IntKind.u64.wrap ((IntKind.u64.wrap (a0_1)) * 256)))) + (IntKind.u64.wrap ((IntKind.u64.wrap (a0_2)) * 4096)))) + (IntKind.u64.wrap ((IntKind.u64.wrap (a0_3)) * 65536)))) + (IntKind.u64.wrap ((IntKind.u64.wrap (a0_4)) * 4294967296)))] : List Int)))
theorem cupelref20_words.calls (a0_0 : Int) (a0_1 : Int) (a0_2 : Int) (a0_3 : Int) (a0_4 : Int) (r : List Int) (w : World) (h : cupelref20_words.f a0_0 a0_1 a0_2 a0_3 a0_4 = some r) :
  Calls Tryd.prog 31 #[.agg #[.int .i64 a0_0, .int .i64 a0_1, .int .i64 a0_2, .int .i64 a0_3, .int .i64 a0_4]] w fun e w' => ∃ v0_ : Value, e = .returned (v0_) ∧ Kd.R (Kd.int .u64) 48 w' w.heap.size (fun _ => True) v0_ r ∧ Below w.heap.size w w' := by
 have hu26 := Tryd.underlying26
 have HB := Aside0.mk (Below.refl w.heap.size w)
 have H : (if a0_0 = 3 then (some (([IntKind.u64.wrap ((IntKind.u64.wrap ((IntKind.u64.wrap ((IntKind.u64.wrap (a0_0)) + (IntKind.u64.wrap ((IntKind.u64.wrap (a0_1)) * 256)))) + (IntKind.u64.wrap ((IntKind.u64.wrap (a0_2)) * 4096)))) + (IntKind.u64.wrap ((IntKind.u64.wrap (a0_3)) * 65536))), IntKind.u64.wrap (a0_4)] : List Int))) else (some (([IntKind.u64.wrap ((IntKind.u64.wrap ((IntKind.u64.wrap ((IntKind.u64.wrap ((IntKind.u64.wrap (a0_0)) + (IntKind.u64.wrap ((IntKind.u64.wrap (a0_1)) * 256)))) + (IntKind.u64.wrap ((IntKind.u64.wrap (a0_2)) * 4096)))) + (IntKind.u64.wrap ((IntKind.u64.wrap (a0_3)) * 65536)))) + (IntKind.u64.wrap ((IntKind.u64.wrap (a0_4)) * 4294967296)))] : List Int)))) = some r := h
 clear h
 by_cases c2 : a0_0 = 3
 ·rw [if_pos c2] at H
  have c2b0 : (a0_0 == 3) = true := beq_iff_eq.mpr c2
  have c2b1 : (a0_0 != 3) = false := bne_eq_false_iff_eq.mpr c2
  clear c2
  obtain ⟨y166, hy166⟩ : ∃ y_ : List Int, y_ = (([IntKind.u64.wrap ((IntKind.u64.wrap ((IntKind.u64.wrap ((IntKind.u64.wrap (a0_0)) + (IntKind.u64.wrap ((IntKind.u64.wrap (a0_1)) * 256)))) + (IntKind.u64.wrap ((IntKind.u64.wrap (a0_2)) * 4096)))) + (IntKind.u64.wrap ((IntKind.u64.wrap (a0_3)) * 65536))), IntKind.u64.wrap (a0_4)] : List Int)) := ⟨_, rfl⟩
  replace H : (some y166) = some r := by first | (rw [hy166]; with_reducible exact H) | (have H2_ := (Option.bind_some _ _).symm.trans H; rw [hy166]; with_reducible exact H2_) | (have H2_ := (Option.bind_some _ _).symm.trans H; with_reducible exact H2_) | with_reducible exact H | (rw [hy166]; exact H) | exact H
  have Ny166 := Aside0.mk hy166
  clear hy166
  obtain rfl := Option.some.inj H
  go_enter Tryd.func31, Tryd.ntmps31
  go_wp2_with (first | ((with_reducible refine gate_dst (N := 1) rfl ?_); refine box_event ?hg (N := 1) ?hd (cs := #[.int .i64 a0_0, .int .i64 a0_1, .int .i64 a0_2, .int .i64 a0_3, .int .i64 a0_4]) (t := 26) ?hr ?_; (case hd => rfl); (case hg => rfl); (case hr => exact ts15_); intro gb165 hg w3 hbox hb; have BK165 := Aside0.mk (hbox); have GW165 := Aside0.mk ((ts45_ HB.out : w.heap.size ≤ gb165)); have GE165 := Aside0.mk ((ts45_ HB.out : w.heap.size ≤ gb165)); replace HB := Aside0.mk (below_step (ts34_ HB.out) hb); clear hb hbox hg; have hcz4_0 : w3.cell? ⟨gb165, 0, none⟩ = some (.int .i64 a0_0) := (blk_cell BK165.out 0).trans rfl; have hcz4_1 : w3.cell? ⟨gb165, 1, none⟩ = some (.int .i64 a0_1) := (blk_cell BK165.out 1).trans rfl; have hcz4_2 : w3.cell? ⟨gb165, 2, none⟩ = some (.int .i64 a0_2) := (blk_cell BK165.out 2).trans rfl; have hcz4_3 : w3.cell? ⟨gb165, 3, none⟩ = some (.int .i64 a0_3) := (blk_cell BK165.out 3).trans rfl; have hcz4_4 : w3.cell? ⟨gb165, 4, none⟩ = some (.int .i64 a0_4) := (blk_cell BK165.out 4).trans rfl; have hfz4_0 := blk_frozen BK165.out 0; have hfz4_1 := blk_frozen BK165.out 1; have hfz4_2 := blk_frozen BK165.out 2; have hfz4_3 := blk_frozen BK165.out 3; have hfz4_4 := blk_frozen BK165.out 4) | ((with_reducible refine gate_dst (N := 29) rfl ?_); refine Kd.R_lit (Kd.int .u64) _ 48 ?hg (N := 29) ?hd (xs := ([IntKind.u64.wrap ((IntKind.u64.wrap ((IntKind.u64.wrap ((IntKind.u64.wrap (a0_0)) + (IntKind.u64.wrap ((IntKind.u64.wrap (a0_1)) * 256)))) + (IntKind.u64.wrap ((IntKind.u64.wrap (a0_2)) * 4096)))) + (IntKind.u64.wrap ((IntKind.u64.wrap (a0_3)) * 65536))), IntKind.u64.wrap (a0_4)] : List Int)) (inner := [.int .u64 (IntKind.u64.wrap ((IntKind.u64.wrap ((IntKind.u64.wrap ((IntKind.u64.wrap (a0_0)) + (IntKind.u64.wrap ((IntKind.u64.wrap (a0_1)) * 256)))) + (IntKind.u64.wrap ((IntKind.u64.wrap (a0_2)) * 4096)))) + (IntKind.u64.wrap ((IntKind.u64.wrap (a0_3)) * 65536)))), .int .u64 (IntKind.u64.wrap (a0_4))]) (ok := fun _ => True) (okp := fun _ => True) ?hr ?hp (fun _ hk => hk) trivial (Below.refl _ _) (Nat.le_refl _) (by simp) ?_; (case hd => rfl); (case hg => rfl); (case hr => exact ts15_); (case hp => exact (Reps.one (show Kd.M (Kd.int .u64) _ _ _ (IntKind.u64.wrap ((IntKind.u64.wrap ((IntKind.u64.wrap ((IntKind.u64.wrap (a0_0)) + (IntKind.u64.wrap ((IntKind.u64.wrap (a0_1)) * 256)))) + (IntKind.u64.wrap ((IntKind.u64.wrap (a0_2)) * 4096)))) + (IntKind.u64.wrap ((IntKind.u64.wrap (a0_3)) * 65536)))) [.int .u64 (IntKind.u64.wrap ((IntKind.u64.wrap ((IntKind.u64.wrap ((IntKind.u64.wrap (a0_0)) + (IntKind.u64.wrap ((IntKind.u64.wrap (a0_1)) * 256)))) + (IntKind.u64.wrap ((IntKind.u64.wrap (a0_2)) * 4096)))) + (IntKind.u64.wrap ((IntKind.u64.wrap (a0_3)) * 65536))))] from rfl) (Reps.one (show Kd.M (Kd.int .u64) _ _ _ (IntKind.u64.wrap (a0_4)) [.int .u64 (IntKind.u64.wrap (a0_4))] from rfl) (Reps.none _ _)))); intro v167 w5 ho6 hb hg_ hnew_; clear hg_ hnew_; (first | rw [← Ny166.out] at ho6 | (simp only [Int.reduceToNat] at ho6; rw [← Ny166.out] at ho6)); have HO168 := Aside0.mk (Kd.R_lower ho6 (below_size (ts17_ HB.out GE165.out))); replace BK165 := Aside0.mk (blk_below (g := gb165) (o := .cells #[.int .i64 a0_0, .int .i64 a0_1, .int .i64 a0_2, .int .i64 a0_3, .int .i64 a0_4] 26 (0, 0)) (ts14_ BK165.out) hb); replace HB := Aside0.mk (below_step (ts17_ HB.out GE165.out) hb); clear hb ho6))
  go_ret
  exact ⟨_, ts26_, ts20_ HO168.out, ts17_ HB.out GE165.out⟩
 rw [if_neg c2] at H
 have c2b0 : (a0_0 == 3) = false := beq_eq_false_iff_ne.mpr c2
 have c2b1 : (a0_0 != 3) = true := bne_iff_ne.mpr c2
 obtain ⟨y169, hy169⟩ : ∃ y_ : List Int, y_ = (([IntKind.u64.wrap ((IntKind.u64.wrap ((IntKind.u64.wrap ((IntKind.u64.wrap ((IntKind.u64.wrap (a0_0)) + (IntKind.u64.wrap ((IntKind.u64.wrap (a0_1)) * 256)))) + (IntKind.u64.wrap ((IntKind.u64.wrap (a0_2)) * 4096)))) + (IntKind.u64.wrap ((IntKind.u64.wrap (a0_3)) * 65536)))) + (IntKind.u64.wrap ((IntKind.u64.wrap (a0_4)) * 4294967296)))] : List Int)) := ⟨_, rfl⟩
 replace H : (some y169) = some r := by first | (rw [hy169]; with_reducible exact H) | (have H2_ := (Option.bind_some _ _).symm.trans H; rw [hy169]; with_reducible exact H2_) | (have H2_ := (Option.bind_some _ _).symm.trans H; with_reducible exact H2_) | with_reducible exact H | (rw [hy169]; exact H) | exact H
 have Ny169 := Aside0.mk hy169
 clear hy169
 obtain rfl := Option.some.inj H
 go_enter Tryd.func31, Tryd.ntmps31
 go_wp2_with (first | ((with_reducible refine gate_dst (N := 1) rfl ?_); refine box_event ?hg (N := 1) ?hd (cs := #[.int .i64 a0_0, .int .i64 a0_1, .int .i64 a0_2, .int .i64 a0_3, .int .i64 a0_4]) (t := 26) ?hr ?_; (case hd => rfl); (case hg => rfl); (case hr => exact ts15_); intro gb165 hg w7 hbox hb; have BK165 := Aside0.mk (hbox); have GW165 := Aside0.mk ((ts45_ HB.out : w.heap.size ≤ gb165)); have GE165 := Aside0.mk ((ts45_ HB.out : w.heap.size ≤ gb165)); replace HB := Aside0.mk (below_step (ts34_ HB.out) hb); clear hb hbox hg; have hcz8_0 : w7.cell? ⟨gb165, 0, none⟩ = some (.int .i64 a0_0) := (blk_cell BK165.out 0).trans rfl; have hcz8_1 : w7.cell? ⟨gb165, 1, none⟩ = some (.int .i64 a0_1) := (blk_cell BK165.out 1).trans rfl; have hcz8_2 : w7.cell? ⟨gb165, 2, none⟩ = some (.int .i64 a0_2) := (blk_cell BK165.out 2).trans rfl; have hcz8_3 : w7.cell? ⟨gb165, 3, none⟩ = some (.int .i64 a0_3) := (blk_cell BK165.out 3).trans rfl; have hcz8_4 : w7.cell? ⟨gb165, 4, none⟩ = some (.int .i64 a0_4) := (blk_cell BK165.out 4).trans rfl; have hfz8_0 := blk_frozen BK165.out 0; have hfz8_1 := blk_frozen BK165.out 1; have hfz8_2 := blk_frozen BK165.out 2; have hfz8_3 := blk_frozen BK165.out 3; have hfz8_4 := blk_frozen BK165.out 4) | ((with_reducible refine gate_dst (N := 36) rfl ?_); refine Kd.R_lit (Kd.int .u64) _ 48 ?hg (N := 36) ?hd (xs := ([IntKind.u64.wrap ((IntKind.u64.wrap ((IntKind.u64.wrap ((IntKind.u64.wrap ((IntKind.u64.wrap (a0_0)) + (IntKind.u64.wrap ((IntKind.u64.wrap (a0_1)) * 256)))) + (IntKind.u64.wrap ((IntKind.u64.wrap (a0_2)) * 4096)))) + (IntKind.u64.wrap ((IntKind.u64.wrap (a0_3)) * 65536)))) + (IntKind.u64.wrap ((IntKind.u64.wrap (a0_4)) * 4294967296)))] : List Int)) (inner := [.int .u64 (IntKind.u64.wrap ((IntKind.u64.wrap ((IntKind.u64.wrap ((IntKind.u64.wrap ((IntKind.u64.wrap (a0_0)) + (IntKind.u64.wrap ((IntKind.u64.wrap (a0_1)) * 256)))) + (IntKind.u64.wrap ((IntKind.u64.wrap (a0_2)) * 4096)))) + (IntKind.u64.wrap ((IntKind.u64.wrap (a0_3)) * 65536)))) + (IntKind.u64.wrap ((IntKind.u64.wrap (a0_4)) * 4294967296))))]) (ok := fun _ => True) (okp := fun _ => True) ?hr ?hp (fun _ hk => hk) trivial (Below.refl _ _) (Nat.le_refl _) (by simp) ?_; (case hd => rfl); (case hg => rfl); (case hr => exact ts15_); (case hp => exact (Reps.one (show Kd.M (Kd.int .u64) _ _ _ (IntKind.u64.wrap ((IntKind.u64.wrap ((IntKind.u64.wrap ((IntKind.u64.wrap ((IntKind.u64.wrap (a0_0)) + (IntKind.u64.wrap ((IntKind.u64.wrap (a0_1)) * 256)))) + (IntKind.u64.wrap ((IntKind.u64.wrap (a0_2)) * 4096)))) + (IntKind.u64.wrap ((IntKind.u64.wrap (a0_3)) * 65536)))) + (IntKind.u64.wrap ((IntKind.u64.wrap (a0_4)) * 4294967296)))) [.int .u64 (IntKind.u64.wrap ((IntKind.u64.wrap ((IntKind.u64.wrap ((IntKind.u64.wrap ((IntKind.u64.wrap (a0_0)) + (IntKind.u64.wrap ((IntKind.u64.wrap (a0_1)) * 256)))) + (IntKind.u64.wrap ((IntKind.u64.wrap (a0_2)) * 4096)))) + (IntKind.u64.wrap ((IntKind.u64.wrap (a0_3)) * 65536)))) + (IntKind.u64.wrap ((IntKind.u64.wrap (a0_4)) * 4294967296))))] from rfl) (Reps.none _ _))); intro v170 w9 ho10 hb hg_ hnew_; clear hg_ hnew_; (first | rw [← Ny169.out] at ho10 | (simp only [Int.reduceToNat] at ho10; rw [← Ny169.out] at ho10)); have HO171 := Aside0.mk (Kd.R_lower ho10 (below_size (ts17_ HB.out GE165.out))); replace BK165 := Aside0.mk (blk_below (g := gb165) (o := .cells #[.int .i64 a0_0, .int .i64 a0_1, .int .i64 a0_2, .int .i64 a0_3, .int .i64 a0_4] 26 (0, 0)) (ts14_ BK165.out) hb); replace HB := Aside0.mk (below_step (ts17_ HB.out GE165.out) hb); clear hb ho10))
 go_ret
 exact ⟨_, ts26_, ts20_ HO171.out, ts17_ HB.out GE165.out⟩
/-! ### cupelref20_Encode: function 13 -/
mutual
def cupelref20_Encode.l0 : Nat → List (S26) → Int → Option (List Int × Int)
 | 0, _, _ => none
 | k + 1, x0, x5 => if x5 < (x0.length : Int) then (if 0 ≤ x5 then ((cupelref20_Valid.f ((rd_T26 x0 x5).f0) ((rd_T26 x0 x5).f1) ((rd_T26 x0 x5).f2) ((rd_T26 x0 x5).f3) ((rd_T26 x0 x5).f4)).bind fun t173 => (if t173 = true then (cupelref20_Encode.l0 k x0 (wrap64 (x5 + 1))) else (some (([] : List Int), 2)))) else (none)) else (cupelref20_Encode.l1 k x0 ([] : List Int) 0)
def cupelref20_Encode.l1 : Nat → List (S26) → List Int → Int → Option (List Int × Int)
 | 0, _, _, _ => none
 | k + 1, x0, x4, x6 => if x6 < (x0.length : Int) then (if 0 ≤ x6 then ((cupelref20_words.f ((rd_T26 x0 x6).f0) ((rd_T26 x0 x6).f1) ((rd_T26 x0 x6).f2) ((rd_T26 x0 x6).f3) ((rd_T26 x0 x6).f4)).bind fun t175 => (if x4.length + t175.length < 17592186044416 then (cupelref20_Encode.l1 k x0 (x4 ++ t175) (wrap64 (x6 + 1))) else (none))) else (none)) else (if (x4.length : Int) > 20000 then (some (([] : List Int), 3)) else (some (x4, 0)))
end
def cupelref20_Encode.f (k : Nat) (l0 : List (S26)) : Option (List Int × Int) := cupelref20_Encode.l0 k l0 0
theorem cupelref20_Encode.mono_l : ∀ k, (∀ y0 y1, LeO (cupelref20_Encode.l0 k y0 y1) (cupelref20_Encode.l0 (k + 1) y0 y1)) ∧ (∀ y0 y1 y2, LeO (cupelref20_Encode.l1 k y0 y1 y2) (cupelref20_Encode.l1 (k + 1) y0 y1 y2))
 | 0 => ⟨fun _ _ r h => by simp [cupelref20_Encode.l0] at h, fun _ _ _ r h => by simp [cupelref20_Encode.l1] at h⟩
 | k + 1 => by
  obtain ⟨ih0, ih1⟩ := cupelref20_Encode.mono_l k
  refine ⟨?_, ?_⟩
  ·intro y0 y1
   unfold cupelref20_Encode.l0
   repeat' first
   | (with_reducible exact ih0 _ _)
   | (with_reducible exact ih1 _ _ _)
   | (with_reducible exact LeO.refl _)
   | (with_reducible exact LeO.none _)
   | (with_reducible refine LeO.ite ?_ ?_)
   | (with_reducible refine LeO.bind ?_ (fun _ => ?_))
   | exact LeO.none _
   | refine LeO.ite ?_ ?_
   | refine LeO.bind ?_ (fun _ => ?_)
  intro y0 y1 y2
  unfold cupelref20_Encode.l1
  repeat' first
  | (with_reducible exact ih0 _ _)
  | (with_reducible exact ih1 _ _ _)
  | (with_reducible exact LeO.refl _)
  | (with_reducible exact LeO.none _)
  | (with_reducible refine LeO.ite ?_ ?_)
  | (with_reducible refine LeO.bind ?_ (fun _ => ?_))
  | exact LeO.none _
  | refine LeO.ite ?_ ?_
  | refine LeO.bind ?_ (fun _ => ?_)
/-! ### cupellaw20_sameWords: function 14 -/
mutual
def cupellaw20_sameWords.l0 : Nat → List Int → List Int → Int → Option (Bool)
 | 0, _, _, _ => none
 | k + 1, x0, x1, x5 => if x5 < (x0.length : Int) then (cupellaw20_sameWords.j1 k x0 x1 x5 (decide (x5 < (x1.length : Int)))) else (cupellaw20_sameWords.j1 k x0 x1 x5 false)
def cupellaw20_sameWords.j1 : Nat → List Int → List Int → Int → Bool → Option (Bool)
 | 0, _, _, _, _ => none
 | k + 1, x0, x1, x5, x15 => if x15 = true then (if 0 ≤ x5 then (if x5 < (x0.length : Int) then (if x5 < (x1.length : Int) then (if (rd x0 x5) = (rd x1 x5) then (cupellaw20_sameWords.l0 k x0 x1 (wrap64 (x5 + 1))) else (some false)) else (none)) else (none)) else (none)) else (some ((x0.length : Int) == (x1.length : Int)))
end
def cupellaw20_sameWords.f (k : Nat) (l0 : List Int) (l1 : List Int) : Option (Bool) := cupellaw20_sameWords.l0 k l0 l1 0
theorem cupellaw20_sameWords.mono_l : ∀ k, (∀ y0 y1 y2, LeO (cupellaw20_sameWords.l0 k y0 y1 y2) (cupellaw20_sameWords.l0 (k + 1) y0 y1 y2)) ∧ (∀ y0 y1 y2 y3, LeO (cupellaw20_sameWords.j1 k y0 y1 y2 y3) (cupellaw20_sameWords.j1 (k + 1) y0 y1 y2 y3))
 | 0 => ⟨fun _ _ _ r h => by simp [cupellaw20_sameWords.l0] at h, fun _ _ _ _ r h => by simp [cupellaw20_sameWords.j1] at h⟩
 | k + 1 => by
  obtain ⟨ih0, ih1⟩ := cupellaw20_sameWords.mono_l k
  refine ⟨?_, ?_⟩
  ·intro y0 y1 y2
   unfold cupellaw20_sameWords.l0
   repeat' first
   | (with_reducible exact ih0 _ _ _)
   | (with_reducible exact ih1 _ _ _ _)
   | (with_reducible exact LeO.refl _)
   | (with_reducible exact LeO.none _)
   | (with_reducible refine LeO.ite ?_ ?_)
   | (with_reducible refine LeO.bind ?_ (fun _ => ?_))
   | exact LeO.none _
   | refine LeO.ite ?_ ?_
   | refine LeO.bind ?_ (fun _ => ?_)
  intro y0 y1 y2 y3
  unfold cupellaw20_sameWords.j1
  repeat' first
  | (with_reducible exact ih0 _ _ _)
  | (with_reducible exact ih1 _ _ _ _)
  | (with_reducible exact LeO.refl _)
  | (with_reducible exact LeO.none _)
  | (with_reducible refine LeO.ite ?_ ?_)
  | (with_reducible refine LeO.bind ?_ (fun _ => ?_))
  | exact LeO.none _
  | refine LeO.ite ?_ ?_
  | refine LeO.bind ?_ (fun _ => ?_)
-- NOT PRINTED: function 3 (cupellaw20_TargetEncodes)
end Go.Proofs.YtlaijeeeblcinaaDoor.A
