/- Written by wip/tools/xprint.py, a program of this session that drives the kit's printer. Not trusted: Lean checks it. -/
import Derived.Test.YtekhnkpjeofdpaaDoorAx0
namespace Go.Proofs.YtekhnkpjeofdpaaDoor.A
open Go.RowKit Go.Proofs.YtekhnkpjeofdpaaDoorW.PrintWords Go.Proofs.YtekhnkpjeofdpaaDoorW.PrintLast Go.Proofs.YtekhnkpjeofdpaaDoorW.PrintMore
attribute [local go_sem] max2_int min2_int max_two min_two max_three min_three max_four min_four   -- for this text's walks alone
set_option linter.unusedVariables false
set_option linter.unusedSimpArgs false
-- NOT PRINTED: function 39 (target_all)
-- NOT PRINTED: function 24 (target_Check)
/-! ### slices_Clone_uint64_uint64: function 25 -/
def slices_Clone_uint64_uint64.f (l0 : List Int) : Option (List Int) := (some (([] : List Int) : List Int)).bind fun y102 => (if y102.length + l0.length < 17592186044416 then (some (y102 ++ l0)) else (none))
set_option maxHeartbeats 8000000 in
set_option maxRecDepth 100000 in
theorem slices_Clone_uint64_uint64.calls (A0 : Option Addr) (c0 : Nat) (l0 : List Int) (r : List Int) (w : World) (hr0 : Kd.C (Kd.int .u64) w A0 l0.length l0) (hc0 : l0.length ≤ c0) (h : slices_Clone_uint64_uint64.f l0 = some r) :
  Calls Tryd.prog 25 #[.slice A0 l0.length c0] w fun e w' => ∃ v0_ : Value, e = .returned (v0_) ∧ Kd.R (Kd.int .u64) 55 w' w.heap.size (fun _ => True) v0_ r ∧ Below w.heap.size w w' := by
 have HR0 := Aside0.mk hr0
 have HC0 := Aside0.mk hc0
 clear hr0 hc0
 have heqn_ : ∀ W : World, (binOp .eql 22 (.slice A0 l0.length c0) (.slice none 0 0)).run Tryd.prog W = .ok (.bool A0.isNone) W := fun W => Lib.run_eql_slice_nil W 22 55 A0 _ _ _ _ Tryd.underlying22
 rcases A0 with _ | ad0
 ·obtain rfl : l0 = [] := by
   rcases Nat.eq_zero_or_pos l0.length with h0 | h0
   ·exact List.eq_nil_of_length_eq_zero h0
   ·obtain ⟨_, h1, _⟩ := HR0.out.2.2 h0
    cases h1
  obtain rfl : r = [] := by
   simp [slices_Clone_uint64_uint64.f] at h
   exact h
  clear HR0 HC0 h
  simp only [List.length_nil] at heqn_
  go_enter Tryd.func25, Tryd.ntmps25
  go_wp2
  go_ret
  exact ⟨_, rfl, Kd.R_nil _ _ _ _ _, Below.refl _ _⟩
 have HB := Aside0.mk (Below.refl w.heap.size w)
 have H : ((some (([] : List Int) : List Int)).bind fun y102 => (if y102.length + l0.length < 17592186044416 then (some (y102 ++ l0)) else (none))) = some r := h
 clear h
 obtain ⟨y102, hy102⟩ : ∃ y_ : List Int, y_ = (([] : List Int)) := ⟨_, rfl⟩
 replace H : (if y102.length + l0.length < 17592186044416 then (some (y102 ++ l0)) else (none)) = some r := by first | (rw [hy102]; with_reducible exact H) | (have H2_ := (Option.bind_some _ _).symm.trans H; rw [hy102]; with_reducible exact H2_) | (have H2_ := (Option.bind_some _ _).symm.trans H; with_reducible exact H2_) | with_reducible exact H | (rw [hy102]; exact H) | exact H
 have Ny102 := Aside0.mk hy102
 clear hy102
 by_cases c2 : y102.length + l0.length < 17592186044416
 ·rw [if_pos c2] at H
  have LMc2 := Aside0.mk c2
  clear c2
  obtain ⟨y105, hy105⟩ : ∃ y_ : List Int, y_ = (y102 ++ l0) := ⟨_, rfl⟩
  replace H : (some y105) = some r := by first | (rw [hy105]; with_reducible exact H) | (have H2_ := (Option.bind_some _ _).symm.trans H; rw [hy105]; with_reducible exact H2_) | (have H2_ := (Option.bind_some _ _).symm.trans H; with_reducible exact H2_) | with_reducible exact H | (rw [hy105]; exact H) | exact H
  have Ny105 := Aside0.mk hy105
  clear hy105
  obtain rfl := Option.some.inj H
  go_enter Tryd.func25, Tryd.ntmps25
  go_wp2_with (first | ((with_reducible refine gate_dst (N := 5) rfl ?_); refine Kd.R_lit (Kd.int .u64) _ 55 ?hg (N := 5) ?hd (xs := ([] : List Int)) (inner := []) (ok := fun _ => True) (okp := fun _ => True) ?hr ?hp (fun _ hk => hk) trivial (Below.refl _ _) (Nat.le_refl _) (by simp) ?_; (case hd => rfl); (case hg => rfl); (case hr => exact ts40_); (case hp => exact (Reps.none _ _)); intro v103 w3 ho4 hb hg_ hnew_; clear hg_ hnew_; (first | rw [← Ny102.out] at ho4 | (simp only [Int.reduceToNat] at ho4; rw [← Ny102.out] at ho4)); have n0_ := Aside0.mk (Kd.R_lower ho4 (below_size (ts50_ HB.out))); have n1_ := Aside0.mk (below_step (ts50_ HB.out) hb); clear HB; have HO104 := n0_; have HB := n1_; clear n0_ n1_; clear hb ho4) | ((with_reducible refine gate_builtin (b := .append) (xs := #[.tmp 5, .tmp 6]) rfl ?_); at_builtin; refine Kd.R_append_rows (Kd.int .u64) (w0 := w) w.heap.size rfl (.tmp 5) (.tmp 6) 22 55 (.int .u64 0) 8 rfl Tryd.underlying22 info55 rfl (by decide) (by omega) v103 y102 l0 _ _ _ (fun _ => True) (fun _ => False) rfl rfl ?aO ?aR (fun _ _ h => h) (fun _ h => h.elim) ?aF ?aB ?aS ?aL ?_; (case aR => exact ts21_ HR0.out HB.out); (case aB => exact (ts50_ HB.out)); (case aF => exact (fun _ _ => trivial)); (case aO => exact (ts53_ HO104.out)); (case aS => exact (below_size (ts50_ HB.out))); (case aL => have := LMc2.out; omega); intro v106 w5 ho hb hg hat; rw [← Ny105.out] at ho; have n0_ := Aside0.mk (hb); have n1_ := Aside0.mk (ho); clear HB; clear HO104; have HB := n0_; have HO107 := n1_; clear n0_ n1_; clear ho hb hg hat))
  go_ret
  exact ⟨_, ts9_, ts53_ HO107.out, ts50_ HB.out⟩
 ·rw [if_neg c2] at H
  exact absurd H (by simp)
-- NOT PRINTED: function 12 (emulate_New)
-- NOT PRINTED: function 26 (emulate_Machine_none)
/-! ### slices_Clone_int64_int64: function 27 -/
def slices_Clone_int64_int64.f (l0 : List Int) : Option (List Int) := (some (([] : List Int) : List Int)).bind fun y108 => (if y108.length + l0.length < 17592186044416 then (some (y108 ++ l0)) else (none))
set_option maxHeartbeats 8000000 in
set_option maxRecDepth 100000 in
theorem slices_Clone_int64_int64.calls (A0 : Option Addr) (c0 : Nat) (l0 : List Int) (r : List Int) (w : World) (hr0 : Kd.C (Kd.int .i64) w A0 l0.length l0) (hc0 : l0.length ≤ c0) (h : slices_Clone_int64_int64.f l0 = some r) :
  Calls Tryd.prog 27 #[.slice A0 l0.length c0] w fun e w' => ∃ v0_ : Value, e = .returned (v0_) ∧ Kd.R (Kd.int .i64) 2 w' w.heap.size (fun _ => True) v0_ r ∧ Below w.heap.size w w' := by
 have HR0 := Aside0.mk hr0
 have HC0 := Aside0.mk hc0
 clear hr0 hc0
 have heqn_ : ∀ W : World, (binOp .eql 23 (.slice A0 l0.length c0) (.slice none 0 0)).run Tryd.prog W = .ok (.bool A0.isNone) W := fun W => Lib.run_eql_slice_nil W 23 2 A0 _ _ _ _ Tryd.underlying23
 rcases A0 with _ | ad0
 ·obtain rfl : l0 = [] := by
   rcases Nat.eq_zero_or_pos l0.length with h0 | h0
   ·exact List.eq_nil_of_length_eq_zero h0
   ·obtain ⟨_, h1, _⟩ := HR0.out.2.2 h0
    cases h1
  obtain rfl : r = [] := by
   simp [slices_Clone_int64_int64.f] at h
   exact h
  clear HR0 HC0 h
  simp only [List.length_nil] at heqn_
  go_enter Tryd.func27, Tryd.ntmps27
  go_wp2
  go_ret
  exact ⟨_, rfl, Kd.R_nil _ _ _ _ _, Below.refl _ _⟩
 have HB := Aside0.mk (Below.refl w.heap.size w)
 have H : ((some (([] : List Int) : List Int)).bind fun y108 => (if y108.length + l0.length < 17592186044416 then (some (y108 ++ l0)) else (none))) = some r := h
 clear h
 obtain ⟨y108, hy108⟩ : ∃ y_ : List Int, y_ = (([] : List Int)) := ⟨_, rfl⟩
 replace H : (if y108.length + l0.length < 17592186044416 then (some (y108 ++ l0)) else (none)) = some r := by first | (rw [hy108]; with_reducible exact H) | (have H2_ := (Option.bind_some _ _).symm.trans H; rw [hy108]; with_reducible exact H2_) | (have H2_ := (Option.bind_some _ _).symm.trans H; with_reducible exact H2_) | with_reducible exact H | (rw [hy108]; exact H) | exact H
 have Ny108 := Aside0.mk hy108
 clear hy108
 by_cases c2 : y108.length + l0.length < 17592186044416
 ·rw [if_pos c2] at H
  have LMc2 := Aside0.mk c2
  clear c2
  obtain ⟨y111, hy111⟩ : ∃ y_ : List Int, y_ = (y108 ++ l0) := ⟨_, rfl⟩
  replace H : (some y111) = some r := by first | (rw [hy111]; with_reducible exact H) | (have H2_ := (Option.bind_some _ _).symm.trans H; rw [hy111]; with_reducible exact H2_) | (have H2_ := (Option.bind_some _ _).symm.trans H; with_reducible exact H2_) | with_reducible exact H | (rw [hy111]; exact H) | exact H
  have Ny111 := Aside0.mk hy111
  clear hy111
  obtain rfl := Option.some.inj H
  go_enter Tryd.func27, Tryd.ntmps27
  go_wp2_with (first | ((with_reducible refine gate_dst (N := 5) rfl ?_); refine Kd.R_lit (Kd.int .i64) _ 2 ?hg (N := 5) ?hd (xs := ([] : List Int)) (inner := []) (ok := fun _ => True) (okp := fun _ => True) ?hr ?hp (fun _ hk => hk) trivial (Below.refl _ _) (Nat.le_refl _) (by simp) ?_; (case hd => rfl); (case hg => rfl); (case hr => exact ts40_); (case hp => exact (Reps.none _ _)); intro v109 w3 ho4 hb hg_ hnew_; clear hg_ hnew_; (first | rw [← Ny108.out] at ho4 | (simp only [Int.reduceToNat] at ho4; rw [← Ny108.out] at ho4)); have n0_ := Aside0.mk (Kd.R_lower ho4 (below_size (ts50_ HB.out))); have n1_ := Aside0.mk (below_step (ts50_ HB.out) hb); clear HB; have HO110 := n0_; have HB := n1_; clear n0_ n1_; clear hb ho4) | ((with_reducible refine gate_builtin (b := .append) (xs := #[.tmp 5, .tmp 6]) rfl ?_); at_builtin; refine Kd.R_append_rows (Kd.int .i64) (w0 := w) w.heap.size rfl (.tmp 5) (.tmp 6) 23 2 (.int .i64 0) 8 rfl Tryd.underlying23 info2 rfl (by decide) (by omega) v109 y108 l0 _ _ _ (fun _ => True) (fun _ => False) rfl rfl ?aO ?aR (fun _ _ h => h) (fun _ h => h.elim) ?aF ?aB ?aS ?aL ?_; (case aR => exact ts21_ HR0.out HB.out); (case aB => exact (ts50_ HB.out)); (case aF => exact (fun _ _ => trivial)); (case aO => exact (ts53_ HO110.out)); (case aS => exact (below_size (ts50_ HB.out))); (case aL => have := LMc2.out; omega); intro v112 w5 ho hb hg hat; rw [← Ny111.out] at ho; have n0_ := Aside0.mk (hb); have n1_ := Aside0.mk (ho); clear HB; clear HO110; have HB := n0_; have HO113 := n1_; clear n0_ n1_; clear ho hb hg hat))
  go_ret
  exact ⟨_, ts9_, ts53_ HO113.out, ts50_ HB.out⟩
 ·rw [if_neg c2] at H
  exact absurd H (by simp)
-- NOT PRINTED: function 14 (emulate_Machine_Behaviour)
-- NOT PRINTED: function 75 (target_find)
/-! ### target_fits: function 77 -/
def target_fits.f (a0 : Int) (a1 : Int) : Option (Bool) := if a0 = 0 then (some (a1 == 0)) else (if a0 = 1 then (some (a1 == (wrap64 (wrap32 (a1))))) else (if a0 = 3 then (if a1 ≥ 0 then (some (decide (a1 ≤ 20000))) else (some false)) else (some true)))
set_option maxHeartbeats 8000000 in
set_option maxRecDepth 100000 in
theorem target_fits.calls (a0 : Int) (a1 : Int) (r : Bool) (w : World) (h : target_fits.f a0 a1 = some r) :
  Calls Tryd.prog 77 #[.int .i64 a0, .int .i64 a1] w fun e w' => e = .returned (.bool r) ∧ Drawn0 w w' := by
 have H : (if a0 = 0 then (some (a1 == 0)) else (if a0 = 1 then (some (a1 == (wrap64 (wrap32 (a1))))) else (if a0 = 3 then (if a1 ≥ 0 then (some (decide (a1 ≤ 20000))) else (some false)) else (some true)))) = some r := h
 clear h
 by_cases c3 : a0 = 0
 ·rw [if_pos c3] at H
  have c3b0 : (a0 == 0) = true := beq_iff_eq.mpr c3
  have c3b1 : (a0 != 0) = false := bne_eq_false_iff_eq.mpr c3
  clear c3
  obtain rfl := Option.some.inj H
  go_enter Tryd.func77, Tryd.ntmps77
  go_wp2
  go_ret
  exact ⟨ts36_, ts11_⟩
 ·rw [if_neg c3] at H
  have c3b0 : (a0 == 0) = false := beq_eq_false_iff_ne.mpr c3
  have c3b1 : (a0 != 0) = true := bne_iff_ne.mpr c3
  by_cases c4 : a0 = 1
  ·rw [if_pos c4] at H
   have c4b0 : (a0 == 1) = true := beq_iff_eq.mpr c4
   have c4b1 : (a0 != 1) = false := bne_eq_false_iff_eq.mpr c4
   clear c4
   obtain rfl := Option.some.inj H
   go_enter Tryd.func77, Tryd.ntmps77
   go_wp2
   go_ret
   exact ⟨ts36_, ts11_⟩
  ·rw [if_neg c4] at H
   have c4b0 : (a0 == 1) = false := beq_eq_false_iff_ne.mpr c4
   have c4b1 : (a0 != 1) = true := bne_iff_ne.mpr c4
   by_cases c5 : a0 = 3
   ·rw [if_pos c5] at H
    have c5b0 : (a0 == 3) = true := beq_iff_eq.mpr c5
    have c5b1 : (a0 != 3) = false := bne_eq_false_iff_eq.mpr c5
    clear c5
    by_cases c6 : a1 ≥ 0
    ·rw [if_pos c6] at H
     have c6b0 : decide (0 ≤ a1) = true := decide_eq_true c6
     clear c6
     obtain rfl := Option.some.inj H
     go_enter Tryd.func77, Tryd.ntmps77
     go_wp2
     go_ret
     exact ⟨ts36_, ts11_⟩
    ·rw [if_neg c6] at H
     have c6b0 : decide (0 ≤ a1) = false := decide_eq_false c6
     clear c6
     obtain rfl := Option.some.inj H
     go_enter Tryd.func77, Tryd.ntmps77
     go_wp2
     go_ret
     exact ⟨ts36_, ts11_⟩
   ·rw [if_neg c5] at H
    have c5b0 : (a0 == 3) = false := beq_eq_false_iff_ne.mpr c5
    have c5b1 : (a0 != 3) = true := bne_iff_ne.mpr c5
    obtain rfl := Option.some.inj H
    go_enter Tryd.func77, Tryd.ntmps77
    go_wp2
    go_ret
    exact ⟨ts36_, ts11_⟩
-- NOT PRINTED: function 44 (target_Valid)
/-! ### slices_Equal_uint64_uint64: function 45 -/
def slices_Equal_uint64_uint64.l0 : Nat → List Int → List Int → Int → Int → Option (Bool)
 | 0, _, _, _, _ => none
 | k + 1, x0, x1, x12, x13 => if x13 < x12 then (if 0 ≤ x13 then (if x13 < (x0.length : Int) then (if x13 < (x1.length : Int) then (if (rd x0 x13) = (rd x1 x13) then (slices_Equal_uint64_uint64.l0 k x0 x1 x12 (wrap64 (x13 + 1))) else (some false)) else (none)) else (none)) else (none)) else (some true)
def slices_Equal_uint64_uint64.f (k : Nat) (l0 : List Int) (l1 : List Int) : Option (Bool) := if (l0.length : Int) = (l1.length : Int) then (slices_Equal_uint64_uint64.l0 k l0 l1 (l0.length : Int) 0) else (some false)
set_option maxHeartbeats 8000000 in
set_option maxRecDepth 100000 in
theorem slices_Equal_uint64_uint64.calls (k : Nat) (A0 : Option Addr) (c0 : Nat) (l0 : List Int) (A1 : Option Addr) (c1 : Nat) (l1 : List Int) (r : Bool) (w : World) (hr0 : Kd.C (Kd.int .u64) w A0 l0.length l0) (hc0 : l0.length ≤ c0) (hr1 : Kd.C (Kd.int .u64) w A1 l1.length l1) (hc1 : l1.length ≤ c1) (h : slices_Equal_uint64_uint64.f k l0 l1 = some r) :
  Calls Tryd.prog 45 #[.slice A0 l0.length c0, .slice A1 l1.length c1] w fun e w' => e = .returned (.bool r) ∧ Drawn0 w w' := by
 have HR0 := Aside0.mk hr0
 have HC0 := Aside0.mk hc0
 clear hr0 hc0
 have HR1 := Aside0.mk hr1
 have HC1 := Aside0.mk hc1
 clear hr1 hc1
 have H : (if (l0.length : Int) = (l1.length : Int) then (slices_Equal_uint64_uint64.l0 k l0 l1 (l0.length : Int) 0) else (some false)) = some r := h
 clear h
 by_cases c3 : (l0.length : Int) = (l1.length : Int)
 ·rw [if_pos c3] at H
  have c3b0 : ((l0.length : Int) == (l1.length : Int)) = true := beq_iff_eq.mpr c3
  have c3b1 : ((l0.length : Int) != (l1.length : Int)) = false := bne_eq_false_iff_eq.mpr c3
  have c3b2 : (l0.length == l1.length) = true := by first | simpa using c3 | (simp at c3 ⊢; omega)
  clear c3
  have H' := Aside0.mk H
  clear H
  go_enter Tryd.func45, Tryd.ntmps45
  go_wp2
  repeat (go_quiet (fail); try go_wp2)
  go_loopg [13] k (fun kq v13 w' => ∃ (x13_1 : Int), v13 = .int .i64 x13_1 ∧ Aside0 (slices_Equal_uint64_uint64.l0 kq l0 l1 (l0.length : Int) x13_1 = some r) ∧ Aside0 (kq ≤ k) ∧ Drawn0 w w')
  case atStart => exact ⟨(0), ts36_, H', ⟨Nat.le_refl _⟩, ts11_⟩
  case round =>
   clear H'
   try clear c1
   try clear p2
   try clear c3
   try clear c3b0
   try clear c3b1
   try clear c3b2
   obtain ⟨x13_1, rfl, HA, HK1, ⟨m1, rfl⟩⟩ := hrel
   cases gk with
   | zero => exact absurd HA.out (by simp [slices_Equal_uint64_uint64.l0])
   | succ k1 =>
    have H := HA.out
    clear HA
    simp only [slices_Equal_uint64_uint64.l0] at H
    by_cases c4 : x13_1 < (l0.length : Int)
    ·rw [if_pos c4] at H
     have c4b0 : decide (x13_1 < (l0.length : Int)) = true := decide_eq_true c4
     clear c4
     by_cases c5 : 0 ≤ x13_1
     ·rw [if_pos c5] at H
      have c5b0 : decide (0 ≤ x13_1) = true := decide_eq_true c5
      clear c5
      by_cases c6 : x13_1 < (l0.length : Int)
      ·rw [if_pos c6] at H
       have c6b0 : decide (x13_1 < (l0.length : Int)) = true := decide_eq_true c6
       clear c6
       by_cases c7 : x13_1 < (l1.length : Int)
       ·rw [if_pos c7] at H
        have c7b0 : decide (x13_1 < (l1.length : Int)) = true := decide_eq_true c7
        clear c7
        by_cases c8 : (rd l0 x13_1) = (rd l1 x13_1)
        ·rw [if_pos c8] at H
         have c8b0 : ((rd l0 x13_1) == (rd l1 x13_1)) = true := beq_iff_eq.mpr c8
         have c8b1 : ((rd l0 x13_1) != (rd l1 x13_1)) = false := bne_eq_false_iff_eq.mpr c8
         clear c8
         have H' := Aside0.mk H
         clear H
         have p116 : 0 ≤ (x13_1 : Int) := of_decide_eq_true ts7_
         have q116 : x13_1 < (l0.length : Int) := of_decide_eq_true ts7_
         obtain ⟨ad116, e116, hx116_0⟩ := Kd.at_int HR0.out x13_1 p116 q116
         cases e116
         replace p116 := eq_true p116
         replace q116 := eq_true q116
         have p117 : 0 ≤ (x13_1 : Int) := of_decide_eq_true ts7_
         have q117 : x13_1 < (l1.length : Int) := of_decide_eq_true ts7_
         obtain ⟨ad117, e117, hx117_0⟩ := Kd.at_int HR1.out x13_1 p117 q117
         cases e117
         replace p117 := eq_true p117
         replace q117 := eq_true q117
         go_wp2
         repeat (go_quiet (fail); try go_wp2)
         go_roundg k1
         case measure => have := HK1.out; omega
         case rel => exact ⟨(wrap64 (x13_1 + 1)), ts36_, H', ⟨by have := HK1.out; omega⟩, ts11_⟩
        ·rw [if_neg c8] at H
         have c8b0 : ((rd l0 x13_1) == (rd l1 x13_1)) = false := beq_eq_false_iff_ne.mpr c8
         have c8b1 : ((rd l0 x13_1) != (rd l1 x13_1)) = true := bne_iff_ne.mpr c8
         obtain rfl := Option.some.inj H
         have p116 : 0 ≤ (x13_1 : Int) := of_decide_eq_true ts7_
         have q116 : x13_1 < (l0.length : Int) := of_decide_eq_true ts7_
         obtain ⟨ad116, e116, hx116_0⟩ := Kd.at_int HR0.out x13_1 p116 q116
         cases e116
         replace p116 := eq_true p116
         replace q116 := eq_true q116
         have p117 : 0 ≤ (x13_1 : Int) := of_decide_eq_true ts7_
         have q117 : x13_1 < (l1.length : Int) := of_decide_eq_true ts7_
         obtain ⟨ad117, e117, hx117_0⟩ := Kd.at_int HR1.out x13_1 p117 q117
         cases e117
         replace p117 := eq_true p117
         replace q117 := eq_true q117
         go_wp2
         repeat (go_quiet (fail); try go_wp2)
         go_ret
         exact ⟨ts36_, ts11_⟩
       ·rw [if_neg c7] at H
        exact absurd H (by simp)
      ·rw [if_neg c6] at H
       exact absurd H (by simp)
     ·rw [if_neg c5] at H
      exact absurd H (by simp)
    ·rw [if_neg c4] at H
     have c4b0 : decide (x13_1 < (l0.length : Int)) = false := decide_eq_false c4
     clear c4
     obtain rfl := Option.some.inj H
     go_wp2
     repeat (go_quiet (fail); try go_wp2)
     go_ret
     exact ⟨ts36_, ts11_⟩
 ·rw [if_neg c3] at H
  have c3b0 : ((l0.length : Int) == (l1.length : Int)) = false := beq_eq_false_iff_ne.mpr c3
  have c3b1 : ((l0.length : Int) != (l1.length : Int)) = true := bne_iff_ne.mpr c3
  have c3b2 : (l0.length == l1.length) = false := by first | simpa using c3 | (simp at c3 ⊢; omega)
  obtain rfl := Option.some.inj H
  go_enter Tryd.func45, Tryd.ntmps45
  go_wp2
  repeat (go_quiet (fail); try go_wp2)
  go_ret
  exact ⟨ts36_, ts11_⟩
/-! ### target_words: function 46 -/
def target_words.f (l0 : List Int) (a1_0 : Int) (a1_1 : Int) (a1_2 : Int) (a1_3 : Int) (a1_4 : Int) : Option (List Int) := if a1_0 = 3 then ((some (([Go.bits .or .u64 (Go.bits .or .u64 (Go.bits .or .u64 (IntKind.u64.wrap (a1_0)) (IntKind.u64.wrap ((IntKind.u64.wrap (a1_1)) * 256))) (IntKind.u64.wrap ((IntKind.u64.wrap (a1_2)) * 4096))) (IntKind.u64.wrap ((IntKind.u64.wrap (a1_3)) * 65536)), IntKind.u64.wrap (a1_4)] : List Int) : List Int)).bind fun y119 => (if l0.length + y119.length < 17592186044416 then (some (l0 ++ y119)) else (none))) else (if l0.length < 17592186044416 then (some (l0 ++ [Go.bits .or .u64 (Go.bits .or .u64 (Go.bits .or .u64 (Go.bits .or .u64 (IntKind.u64.wrap (a1_0)) (IntKind.u64.wrap ((IntKind.u64.wrap (a1_1)) * 256))) (IntKind.u64.wrap ((IntKind.u64.wrap (a1_2)) * 4096))) (IntKind.u64.wrap ((IntKind.u64.wrap (a1_3)) * 65536))) (IntKind.u64.wrap ((IntKind.u64.wrap (a1_4)) * 4294967296))])) else (none))
set_option maxHeartbeats 8000000 in
set_option maxRecDepth 100000 in
theorem target_words.calls (P0_ : Nat → Prop) (u9000_ : Value) (l0 : List Int) (a1_0 : Int) (a1_1 : Int) (a1_2 : Int) (a1_3 : Int) (a1_4 : Int) (r : List Int) (w0 w : World) (hB : Below w0.heap.size w0 w) (ho0 : Kd.R (Kd.int .u64) 55 w w0.heap.size P0_ u9000_ l0) (h : target_words.f l0 a1_0 a1_1 a1_2 a1_3 a1_4 = some r) :
  Calls Tryd.prog 46 #[u9000_, .agg #[.int .i64 a1_0, .int .i64 a1_1, .int .i64 a1_2, .int .i64 a1_3, .int .i64 a1_4]] w fun e w' => ∃ v0_ : Value, e = .returned (v0_) ∧ Kd.R (Kd.int .u64) 55 w' w0.heap.size (fun k_ => (P0_ k_ ∨ w.heap.size ≤ k_)) v0_ r ∧ Below w0.heap.size w0 w' ∧ Kept w w' (fun k_ => P0_ k_) := by
 have hu67 := Tryd.underlying67
 have HO0 := Aside0.mk (show Kd.R (Kd.int .u64) 55 w w0.heap.size (fun k_ => (P0_ k_ ∨ w.heap.size ≤ k_)) u9000_ l0 from Kd.R_mono ho0 (fun k_ hk => (.inl hk)))
 have HK := Aside0.mk (Kept.refl w (fun k_ => P0_ k_))
 have HW0 := Aside0.mk hB.size
 have HB := Aside0.mk hB
 clear hB
 have H : (if a1_0 = 3 then ((some (([Go.bits .or .u64 (Go.bits .or .u64 (Go.bits .or .u64 (IntKind.u64.wrap (a1_0)) (IntKind.u64.wrap ((IntKind.u64.wrap (a1_1)) * 256))) (IntKind.u64.wrap ((IntKind.u64.wrap (a1_2)) * 4096))) (IntKind.u64.wrap ((IntKind.u64.wrap (a1_3)) * 65536)), IntKind.u64.wrap (a1_4)] : List Int) : List Int)).bind fun y119 => (if l0.length + y119.length < 17592186044416 then (some (l0 ++ y119)) else (none))) else (if l0.length < 17592186044416 then (some (l0 ++ [Go.bits .or .u64 (Go.bits .or .u64 (Go.bits .or .u64 (Go.bits .or .u64 (IntKind.u64.wrap (a1_0)) (IntKind.u64.wrap ((IntKind.u64.wrap (a1_1)) * 256))) (IntKind.u64.wrap ((IntKind.u64.wrap (a1_2)) * 4096))) (IntKind.u64.wrap ((IntKind.u64.wrap (a1_3)) * 65536))) (IntKind.u64.wrap ((IntKind.u64.wrap (a1_4)) * 4294967296))])) else (none))) = some r := h
 clear h
 by_cases c3 : a1_0 = 3
 ·rw [if_pos c3] at H
  have c3b0 : (a1_0 == 3) = true := beq_iff_eq.mpr c3
  have c3b1 : (a1_0 != 3) = false := bne_eq_false_iff_eq.mpr c3
  clear c3
  obtain ⟨y119, hy119⟩ : ∃ y_ : List Int, y_ = (([Go.bits .or .u64 (Go.bits .or .u64 (Go.bits .or .u64 (IntKind.u64.wrap (a1_0)) (IntKind.u64.wrap ((IntKind.u64.wrap (a1_1)) * 256))) (IntKind.u64.wrap ((IntKind.u64.wrap (a1_2)) * 4096))) (IntKind.u64.wrap ((IntKind.u64.wrap (a1_3)) * 65536)), IntKind.u64.wrap (a1_4)] : List Int)) := ⟨_, rfl⟩
  replace H : (if l0.length + y119.length < 17592186044416 then (some (l0 ++ y119)) else (none)) = some r := by first | (rw [hy119]; with_reducible exact H) | (have H2_ := (Option.bind_some _ _).symm.trans H; rw [hy119]; with_reducible exact H2_) | (have H2_ := (Option.bind_some _ _).symm.trans H; with_reducible exact H2_) | with_reducible exact H | (rw [hy119]; exact H) | exact H
  have Ny119 := Aside0.mk hy119
  clear hy119
  by_cases c4 : l0.length + y119.length < 17592186044416
  ·rw [if_pos c4] at H
   have LMc4 := Aside0.mk c4
   clear c4
   obtain ⟨y122, hy122⟩ : ∃ y_ : List Int, y_ = (l0 ++ y119) := ⟨_, rfl⟩
   replace H : (some y122) = some r := by first | (rw [hy122]; with_reducible exact H) | (have H2_ := (Option.bind_some _ _).symm.trans H; rw [hy122]; with_reducible exact H2_) | (have H2_ := (Option.bind_some _ _).symm.trans H; with_reducible exact H2_) | with_reducible exact H | (rw [hy122]; exact H) | exact H
   have Ny122 := Aside0.mk hy122
   clear hy122
   obtain rfl := Option.some.inj H
   go_enter Tryd.func46, Tryd.ntmps46
   go_wp2_with (first | ((with_reducible refine gate_dst (N := 3) rfl ?_); refine box_event ?hg (N := 3) ?hd (cs := #[.int .i64 a1_0, .int .i64 a1_1, .int .i64 a1_2, .int .i64 a1_3, .int .i64 a1_4]) (t := 67) ?hr ?_; (case hd => rfl); (case hg => rfl); (case hr => exact ts40_); intro gb118 hg w5 hbox hb; have n0_ := Aside0.mk (Kd.R_below (ts53_ HO0.out) hb); have n1_ := Aside0.mk (Kept.below (S := (fun k_ => P0_ k_)) (by repeat (first | (with_reducible first | exact HK.out | apply Kept.alloc | apply Kept.drewN | apply Kept.drew) | exact HK.out)) hb); have n2_ := Aside0.mk (below_step (ts50_ HB.out) hb); have n3_ := Aside0.mk (hbox); have n4_ := Aside0.mk ((by rw [hg]; exact (ts38_ HK.out) : w.heap.size ≤ gb118)); have n5_ := Aside0.mk ((ts72_ HB.out : w0.heap.size ≤ gb118)); clear HO0; clear HK; clear HB; have HO0 := n0_; have HK := n1_; have HB := n2_; have BK118 := n3_; have GW118 := n4_; have GE118 := n5_; clear n0_ n1_ n2_ n3_ n4_ n5_; clear hb hbox hg; have hcz6_0 : w5.cell? ⟨gb118, 0, none⟩ = some (.int .i64 a1_0) := (blk_cell BK118.out 0).trans rfl; have hcz6_1 : w5.cell? ⟨gb118, 1, none⟩ = some (.int .i64 a1_1) := (blk_cell BK118.out 1).trans rfl; have hcz6_2 : w5.cell? ⟨gb118, 2, none⟩ = some (.int .i64 a1_2) := (blk_cell BK118.out 2).trans rfl; have hcz6_3 : w5.cell? ⟨gb118, 3, none⟩ = some (.int .i64 a1_3) := (blk_cell BK118.out 3).trans rfl; have hcz6_4 : w5.cell? ⟨gb118, 4, none⟩ = some (.int .i64 a1_4) := (blk_cell BK118.out 4).trans rfl; have hfz6_0 := blk_frozen BK118.out 0; have hfz6_1 := blk_frozen BK118.out 1; have hfz6_2 := blk_frozen BK118.out 2; have hfz6_3 := blk_frozen BK118.out 3; have hfz6_4 := blk_frozen BK118.out 4) | ((with_reducible refine gate_dst (N := 32) rfl ?_); refine Kd.R_lit (Kd.int .u64) _ 55 ?hg (N := 32) ?hd (xs := ([Go.bits .or .u64 (Go.bits .or .u64 (Go.bits .or .u64 (IntKind.u64.wrap (a1_0)) (IntKind.u64.wrap ((IntKind.u64.wrap (a1_1)) * 256))) (IntKind.u64.wrap ((IntKind.u64.wrap (a1_2)) * 4096))) (IntKind.u64.wrap ((IntKind.u64.wrap (a1_3)) * 65536)), IntKind.u64.wrap (a1_4)] : List Int)) (inner := [.int .u64 (Go.bits .or .u64 (Go.bits .or .u64 (Go.bits .or .u64 (IntKind.u64.wrap (a1_0)) (IntKind.u64.wrap ((IntKind.u64.wrap (a1_1)) * 256))) (IntKind.u64.wrap ((IntKind.u64.wrap (a1_2)) * 4096))) (IntKind.u64.wrap ((IntKind.u64.wrap (a1_3)) * 65536))), .int .u64 (IntKind.u64.wrap (a1_4))]) (ok := fun _ => True) (okp := fun _ => True) ?hr ?hp (fun _ hk => hk) trivial (Below.refl _ _) (Nat.le_refl _) (by simp) ?_; (case hd => rfl); (case hg => rfl); (case hr => exact ts40_); (case hp => exact (Reps.one (show Kd.M (Kd.int .u64) _ _ _ (Go.bits .or .u64 (Go.bits .or .u64 (Go.bits .or .u64 (IntKind.u64.wrap (a1_0)) (IntKind.u64.wrap ((IntKind.u64.wrap (a1_1)) * 256))) (IntKind.u64.wrap ((IntKind.u64.wrap (a1_2)) * 4096))) (IntKind.u64.wrap ((IntKind.u64.wrap (a1_3)) * 65536))) [.int .u64 (Go.bits .or .u64 (Go.bits .or .u64 (Go.bits .or .u64 (IntKind.u64.wrap (a1_0)) (IntKind.u64.wrap ((IntKind.u64.wrap (a1_1)) * 256))) (IntKind.u64.wrap ((IntKind.u64.wrap (a1_2)) * 4096))) (IntKind.u64.wrap ((IntKind.u64.wrap (a1_3)) * 65536)))] from rfl) (Reps.one (show Kd.M (Kd.int .u64) _ _ _ (IntKind.u64.wrap (a1_4)) [.int .u64 (IntKind.u64.wrap (a1_4))] from rfl) (Reps.none _ _)))); intro v120 w7 ho8 hb hg_ hnew_; clear hg_ hnew_; (first | rw [← Ny119.out] at ho8 | (simp only [Int.reduceToNat] at ho8; rw [← Ny119.out] at ho8)); have n0_ := Aside0.mk (Kd.R_elder' (ts53_ HO0.out) (Kd.R_base ho8) hb); have n1_ := Aside0.mk (Kd.R_lower (Kd.R_new' (Kd.R_newM (M := fun k_ => (P0_ k_ ∨ w.heap.size ≤ k_)) ho8 (ts15_ HK.out GW118.out) (fun k_ h_ => .inr h_)) (Kd.R_lt (ts53_ HO0.out))) (below_size (ts0_ HB.out GE118.out))); have n2_ := Aside0.mk (blk_below (g := gb118) (o := .cells #[.int .i64 a1_0, .int .i64 a1_1, .int .i64 a1_2, .int .i64 a1_3, .int .i64 a1_4] 67 (0, 0)) (ts29_ BK118.out) hb); have n3_ := Aside0.mk (Kept.below (S := (fun k_ => P0_ k_)) (ts49_ HK.out GW118.out) hb); have n4_ := Aside0.mk (below_step (ts0_ HB.out GE118.out) hb); clear HO0; clear BK118; clear HK; clear HB; have HO0 := n0_; have HO121 := n1_; have BK118 := n2_; have HK := n3_; have HB := n4_; clear n0_ n1_ n2_ n3_ n4_; clear hb ho8; obtain ⟨Ao10, co10, eo10⟩ := Kd.R_slice HO121.out; subst eo10) | ((with_reducible refine gate_builtin (b := .append) (xs := #[.tmp 27, .tmp 32]) rfl ?_); at_builtin; refine Kd.R_append_rows (Kd.int .u64) (w0 := w0) w0.heap.size rfl (.tmp 27) (.tmp 32) 22 55 (.int .u64 0) 8 rfl Tryd.underlying22 info55 rfl (by decide) (by omega) u9000_ l0 y119 _ _ _ (fun k_ => (P0_ k_ ∨ w.heap.size ≤ k_) ∧ some k_ ≠ (.slice Ao10 y119.length co10 : Value).ownBlock) (fun _ => False) rfl rfl ?aO ?aR (fun _ _ h => h) (fun _ h => h.elim) ?aF ?aB ?aS ?aL ?_; (case aR => exact ts52_ HO121.out); (case aB => exact (ts0_ HB.out GE118.out)); (case aF => exact (fun k_ hk => ⟨(.inr (Nat.le_trans (ts15_ HK.out GW118.out) hk)), Kd.fresh' (Kd.R_lt (ts53_ HO121.out)) k_ hk⟩)); (case aO => exact (ts53_ HO0.out)); (case aS => exact (below_size (ts0_ HB.out GE118.out))); (case aL => have := LMc4.out; omega); intro v123 w9 ho hb hg hat; rw [← Ny122.out] at ho; have n0_ := Aside0.mk (blk_grown (g := gb118) (o := .cells #[.int .i64 a1_0, .int .i64 a1_1, .int .i64 a1_2, .int .i64 a1_3, .int .i64 a1_4] 67 (0, 0)) (ts29_ BK118.out) hg (Kd.R_ne HO0.out BK118.out (by decide))); have n1_ := Aside0.mk (Kd.R_after (ok := (fun k_ => (P0_ k_ ∨ w.heap.size ≤ k_))) (by (with_reducible repeat (first | apply Kd.R_alloc | apply Kd.R_drewN | apply Kd.R_drew)); exact Kd.R_mono HO121.out (fun _ hk => ⟨hk.1.1, hk.2⟩)) hg hat); have n2_ := Aside0.mk (hb); have n3_ := Aside0.mk (Kept.of_grown (S := (fun k_ => P0_ k_)) hg (ts49_ HK.out GW118.out) (fun k_ e_ => (HO0.out.1 k_ e_).1)); have n4_ := Aside0.mk (ho); clear BK118; clear HO121; clear HB; clear HK; clear HO0; have BK118 := n0_; have HO121 := n1_; have HB := n2_; have HK := n3_; have HO124 := n4_; clear n0_ n1_ n2_ n3_ n4_; clear ho hb hg hat))
   go_ret
   exact ⟨_, ts9_, by (with_reducible repeat (first | apply Kd.R_alloc | apply Kd.R_drewN | apply Kd.R_drew)); exact Kd.R_mono HO124.out (fun _ hk => hk.1), ts0_ HB.out GE118.out, ts49_ HK.out GW118.out⟩
  ·rw [if_neg c4] at H
   exact absurd H (by simp)
 ·rw [if_neg c3] at H
  have c3b0 : (a1_0 == 3) = false := beq_eq_false_iff_ne.mpr c3
  have c3b1 : (a1_0 != 3) = true := bne_iff_ne.mpr c3
  by_cases c11 : l0.length < 17592186044416
  ·rw [if_pos c11] at H
   have LMc11 := Aside0.mk c11
   clear c11
   obtain ⟨y125, hy125⟩ : ∃ y_ : List Int, y_ = (l0 ++ [Go.bits .or .u64 (Go.bits .or .u64 (Go.bits .or .u64 (Go.bits .or .u64 (IntKind.u64.wrap (a1_0)) (IntKind.u64.wrap ((IntKind.u64.wrap (a1_1)) * 256))) (IntKind.u64.wrap ((IntKind.u64.wrap (a1_2)) * 4096))) (IntKind.u64.wrap ((IntKind.u64.wrap (a1_3)) * 65536))) (IntKind.u64.wrap ((IntKind.u64.wrap (a1_4)) * 4294967296))]) := ⟨_, rfl⟩
   replace H : (some y125) = some r := by first | (rw [hy125]; with_reducible exact H) | (have H2_ := (Option.bind_some _ _).symm.trans H; rw [hy125]; with_reducible exact H2_) | (have H2_ := (Option.bind_some _ _).symm.trans H; with_reducible exact H2_) | with_reducible exact H | (rw [hy125]; exact H) | exact H
   have Ny125 := Aside0.mk hy125
   clear hy125
   obtain rfl := Option.some.inj H
   go_enter Tryd.func46, Tryd.ntmps46
   go_wp2_with (first | ((with_reducible refine gate_dst (N := 3) rfl ?_); refine box_event ?hg (N := 3) ?hd (cs := #[.int .i64 a1_0, .int .i64 a1_1, .int .i64 a1_2, .int .i64 a1_3, .int .i64 a1_4]) (t := 67) ?hr ?_; (case hd => rfl); (case hg => rfl); (case hr => exact ts40_); intro gb118 hg w12 hbox hb; have n0_ := Aside0.mk (Kd.R_below (ts53_ HO0.out) hb); have n1_ := Aside0.mk (Kept.below (S := (fun k_ => P0_ k_)) (by repeat (first | (with_reducible first | exact HK.out | apply Kept.alloc | apply Kept.drewN | apply Kept.drew) | exact HK.out)) hb); have n2_ := Aside0.mk (below_step (ts50_ HB.out) hb); have n3_ := Aside0.mk (hbox); have n4_ := Aside0.mk ((by rw [hg]; exact (ts38_ HK.out) : w.heap.size ≤ gb118)); have n5_ := Aside0.mk ((ts72_ HB.out : w0.heap.size ≤ gb118)); clear HO0; clear HK; clear HB; have HO0 := n0_; have HK := n1_; have HB := n2_; have BK118 := n3_; have GW118 := n4_; have GE118 := n5_; clear n0_ n1_ n2_ n3_ n4_ n5_; clear hb hbox hg; have hcz13_0 : w12.cell? ⟨gb118, 0, none⟩ = some (.int .i64 a1_0) := (blk_cell BK118.out 0).trans rfl; have hcz13_1 : w12.cell? ⟨gb118, 1, none⟩ = some (.int .i64 a1_1) := (blk_cell BK118.out 1).trans rfl; have hcz13_2 : w12.cell? ⟨gb118, 2, none⟩ = some (.int .i64 a1_2) := (blk_cell BK118.out 2).trans rfl; have hcz13_3 : w12.cell? ⟨gb118, 3, none⟩ = some (.int .i64 a1_3) := (blk_cell BK118.out 3).trans rfl; have hcz13_4 : w12.cell? ⟨gb118, 4, none⟩ = some (.int .i64 a1_4) := (blk_cell BK118.out 4).trans rfl; have hfz13_0 := blk_frozen BK118.out 0; have hfz13_1 := blk_frozen BK118.out 1; have hfz13_2 := blk_frozen BK118.out 2; have hfz13_3 := blk_frozen BK118.out 3; have hfz13_4 := blk_frozen BK118.out 4) | ((with_reducible refine gate_builtin (b := .append) (xs := #[.tmp 34, .tmp 41]) rfl ?_); at_builtin; refine Kd.R_append (Kd.int .u64) (w0 := w0) w0.heap.size rfl (.tmp 34) (.tmp 41) 22 55 (.int .u64 0) 8 rfl Tryd.underlying22 info55 rfl (by decide) (by omega) u9000_ l0 (Go.bits .or .u64 (Go.bits .or .u64 (Go.bits .or .u64 (Go.bits .or .u64 (IntKind.u64.wrap (a1_0)) (IntKind.u64.wrap ((IntKind.u64.wrap (a1_1)) * 256))) (IntKind.u64.wrap ((IntKind.u64.wrap (a1_2)) * 4096))) (IntKind.u64.wrap ((IntKind.u64.wrap (a1_3)) * 65536))) (IntKind.u64.wrap ((IntKind.u64.wrap (a1_4)) * 4294967296))) [.int .u64 (Go.bits .or .u64 (Go.bits .or .u64 (Go.bits .or .u64 (Go.bits .or .u64 (IntKind.u64.wrap (a1_0)) (IntKind.u64.wrap ((IntKind.u64.wrap (a1_1)) * 256))) (IntKind.u64.wrap ((IntKind.u64.wrap (a1_2)) * 4096))) (IntKind.u64.wrap ((IntKind.u64.wrap (a1_3)) * 65536))) (IntKind.u64.wrap ((IntKind.u64.wrap (a1_4)) * 4294967296)))] (fun k_ => (P0_ k_ ∨ w.heap.size ≤ k_)) (fun _ => False) rfl rfl ?aP (fun _ hk => hk.elim) ?aF ?aO ?aB ?aS ?aL ?_; (case aP => exact rfl); (case aB => exact (ts0_ HB.out GE118.out)); (case aF => exact (fun k_ hk => (.inr (Nat.le_trans (ts15_ HK.out GW118.out) hk)))); (case aO => exact (ts53_ HO0.out)); (case aS => exact (below_size (ts0_ HB.out GE118.out))); (case aL => have := LMc11.out; omega); intro v126 w14 ho hb hg hat; rw [← Ny125.out] at ho; have n0_ := Aside0.mk (blk_grown (g := gb118) (o := .cells #[.int .i64 a1_0, .int .i64 a1_1, .int .i64 a1_2, .int .i64 a1_3, .int .i64 a1_4] 67 (0, 0)) (ts29_ BK118.out) hg (Kd.R_ne HO0.out BK118.out (by decide))); have n1_ := Aside0.mk (hb); have n2_ := Aside0.mk (Kept.of_grown (S := (fun k_ => P0_ k_)) hg (ts49_ HK.out GW118.out) (fun k_ e_ => (HO0.out.1 k_ e_))); have n3_ := Aside0.mk (ho); clear BK118; clear HB; clear HK; clear HO0; have BK118 := n0_; have HB := n1_; have HK := n2_; have HO127 := n3_; clear n0_ n1_ n2_ n3_; clear ho hb hg hat))
   go_ret
   exact ⟨_, ts9_, ts53_ HO127.out, ts0_ HB.out GE118.out, ts49_ HK.out GW118.out⟩
  ·rw [if_neg c11] at H
   exact absurd H (by simp)
-- NOT PRINTED: function 35 (target_Decode)
-- NOT PRINTED: function 36 (emulate_Machine_trap)
-- NOT PRINTED: function 37 (emulate_makes)
/-! ### irsem_truth: function 62 -/
def irsem_truth.f (a0 : Bool) : Option (Int) := if a0 = true then (some 1) else (some 0)
set_option maxHeartbeats 8000000 in
set_option maxRecDepth 100000 in
theorem irsem_truth.calls (a0 : Bool) (r : Int) (w : World) (h : irsem_truth.f a0 = some r) :
  Calls Tryd.prog 62 #[.bool a0] w fun e w' => e = .returned (.int .i64 r) ∧ Drawn0 w w' := by
 have H : (if a0 = true then (some 1) else (some 0)) = some r := h
 clear h
 by_cases c2 : a0 = true
 ·subst c2
  rw [if_pos rfl] at H
  obtain rfl := Option.some.inj H
  go_enter Tryd.func62, Tryd.ntmps62
  go_wp2
  go_ret
  exact ⟨ts36_, ts11_⟩
 ·replace c2 := Bool.eq_false_iff.mpr c2
  subst c2
  rw [if_neg Bool.false_ne_true] at H
  obtain rfl := Option.some.inj H
  go_enter Tryd.func62, Tryd.ntmps62
  go_wp2
  go_ret
  exact ⟨ts36_, ts11_⟩
/-! ### irsem_Bin: function 38 -/
mutual
def irsem_Bin.j0 : Nat → Int → Int → Int → Int → Int → Int → Bool → Option (Int × Bool × Int)
 | 0, _, _, _, _, _, _, _ => none
 | k + 1, x0, x1, x2, x6, x8, x9, x25 => if x25 = true then (if x2 = 0 then (some (0, true, 0)) else (if x2 = (-1) then (irsem_Bin.j1 k x0 x1 x2 x6 x8 (x0 == 4)) else (irsem_Bin.j1 k x0 x1 x2 x6 x8 false))) else (if x9 = 6 then (some (Go.bits .and .i64 x1 x2, false, x8)) else (if x9 = 7 then (some (Go.bits .or .i64 x1 x2, false, x8)) else (if x9 = 8 then (some (Go.bits .xor .i64 x1 x2, false, x8)) else (if x9 = 9 then (if 0 ≤ (Int.tmod (IntKind.u64.wrap (x2)) 64) then (some (shl .i64 x1 (Int.tmod (IntKind.u64.wrap (x2)) 64), false, x8)) else (none)) else (if x9 = 10 then (if 0 ≤ (Int.tmod (IntKind.u64.wrap (x2)) 64) then (some (shr .i64 x1 (Int.tmod (IntKind.u64.wrap (x2)) 64), false, x8)) else (none)) else (if x9 = 11 then ((irsem_truth.f (x1 == x2)).bind fun t131 => (some (t131, false, x8))) else (if x9 = 12 then ((irsem_truth.f (x1 != x2)).bind fun t132 => (some (t132, false, x8))) else (if x9 = 13 then ((irsem_truth.f (decide (x1 < x2))).bind fun t133 => (some (t133, false, x8))) else (if x9 = 14 then ((irsem_truth.f (decide (x1 ≤ x2))).bind fun t134 => (some (t134, false, x8))) else (some (x6, false, 2)))))))))))
def irsem_Bin.j1 : Nat → Int → Int → Int → Int → Int → Bool → Option (Int × Bool × Int)
 | 0, _, _, _, _, _, _ => none
 | k + 1, x0, x1, x2, x6, x8, x34 => if x34 = true then (some (wrap64 (-x1), false, x8)) else (if x2 = (-1) then (some (x6, false, x8)) else (if x0 = 4 then (if x2 = 0 then (none) else (some (wrap64 (Int.tdiv x1 x2), false, x8))) else (if x2 = 0 then (none) else (some (Int.tmod x1 x2, false, x8)))))
end
def irsem_Bin.f (k : Nat) (a0 : Int) (a1 : Int) (a2 : Int) : Option (Int × Bool × Int) := if a0 = 1 then (some (wrap64 (a1 + a2), false, 0)) else (if a0 = 2 then (some (wrap64 (a1 - a2), false, 0)) else (if a0 = 3 then (some (wrap64 (a1 * a2), false, 0)) else (if a0 = 4 then (irsem_Bin.j0 k a0 a1 a2 0 0 a0 (a0 == 4)) else (irsem_Bin.j0 k a0 a1 a2 0 0 a0 (a0 == 5)))))
set_option maxHeartbeats 8000000 in
set_option maxRecDepth 100000 in
theorem irsem_Bin.calls (k : Nat) (a0 : Int) (a1 : Int) (a2 : Int) (r1 : Int) (r2 : Bool) (r3 : Int) (w : World) (h : irsem_Bin.f k a0 a1 a2 = some (r1, r2, r3)) :
  Calls Tryd.prog 38 #[.int .i64 a0, .int .i64 a1, .int .i64 a2] w fun e w' => e = .returned (.tuple #[.int .i64 r1, .bool r2, .int .i64 r3]) ∧ Drawn0 w w' := by
 have H : (if a0 = 1 then (some (wrap64 (a1 + a2), false, 0)) else (if a0 = 2 then (some (wrap64 (a1 - a2), false, 0)) else (if a0 = 3 then (some (wrap64 (a1 * a2), false, 0)) else (if a0 = 4 then (irsem_Bin.j0 k a0 a1 a2 0 0 a0 (a0 == 4)) else (irsem_Bin.j0 k a0 a1 a2 0 0 a0 (a0 == 5)))))) = some (r1, r2, r3) := h
 clear h
 by_cases c4 : a0 = 1
 ·rw [if_pos c4] at H
  have c4b0 : (a0 == 1) = true := beq_iff_eq.mpr c4
  have c4b1 : (a0 != 1) = false := bne_eq_false_iff_eq.mpr c4
  clear c4
  simp only [Option.some.injEq, Prod.mk.injEq] at H
  obtain ⟨rfl, rfl, rfl⟩ := H
  go_enter Tryd.func38, Tryd.ntmps38
  go_wp2
  go_ret3
  exact ⟨ts36_, ts11_⟩
 ·rw [if_neg c4] at H
  have c4b0 : (a0 == 1) = false := beq_eq_false_iff_ne.mpr c4
  have c4b1 : (a0 != 1) = true := bne_iff_ne.mpr c4
  by_cases c5 : a0 = 2
  ·rw [if_pos c5] at H
   have c5b0 : (a0 == 2) = true := beq_iff_eq.mpr c5
   have c5b1 : (a0 != 2) = false := bne_eq_false_iff_eq.mpr c5
   clear c5
   simp only [Option.some.injEq, Prod.mk.injEq] at H
   obtain ⟨rfl, rfl, rfl⟩ := H
   go_enter Tryd.func38, Tryd.ntmps38
   go_wp2
   go_ret3
   exact ⟨ts36_, ts11_⟩
  ·rw [if_neg c5] at H
   have c5b0 : (a0 == 2) = false := beq_eq_false_iff_ne.mpr c5
   have c5b1 : (a0 != 2) = true := bne_iff_ne.mpr c5
   by_cases c6 : a0 = 3
   ·rw [if_pos c6] at H
    have c6b0 : (a0 == 3) = true := beq_iff_eq.mpr c6
    have c6b1 : (a0 != 3) = false := bne_eq_false_iff_eq.mpr c6
    clear c6
    simp only [Option.some.injEq, Prod.mk.injEq] at H
    obtain ⟨rfl, rfl, rfl⟩ := H
    go_enter Tryd.func38, Tryd.ntmps38
    go_wp2
    go_ret3
    exact ⟨ts36_, ts11_⟩
   ·rw [if_neg c6] at H
    have c6b0 : (a0 == 3) = false := beq_eq_false_iff_ne.mpr c6
    have c6b1 : (a0 != 3) = true := bne_iff_ne.mpr c6
    have HC7 := Aside0.mk H
    clear H
    go_enter Tryd.func38, Tryd.ntmps38
    go_upto_if 25 with (fail)
    go_cut [25] (fun v25 wc => ∃ (kq : Nat) (x25_6 : Bool), v25 = .bool x25_6 ∧ Aside0 (irsem_Bin.j0 kq a0 a1 a2 0 0 a0 x25_6 = some (r1, r2, r3)) ∧ Aside0 (kq ≤ k) ∧ Drawn0 w wc)
    case first =>
     have H := HC7.out
     clear HC7
     by_cases c8 : a0 = 4
     ·rw [if_pos c8] at H
      have c8b0 : (a0 == 4) = true := beq_iff_eq.mpr c8
      have c8b1 : (a0 != 4) = false := bne_eq_false_iff_eq.mpr c8
      clear c8
      (first | rw [c8b0] | (simp only [i64_w, i32_w]; rw [c8b0]) | skip)
      have H' := Aside0.mk H
      clear H
      go_wp2
      go_meet
      case rel => exact ⟨_, ((a0 == 4)), ts36_, H', ⟨ts18_⟩, ts11_⟩
     ·rw [if_neg c8] at H
      have c8b0 : (a0 == 4) = false := beq_eq_false_iff_ne.mpr c8
      have c8b1 : (a0 != 4) = true := bne_iff_ne.mpr c8
      (first | rw [c8b0] | (simp only [i64_w, i32_w]; rw [c8b0]) | skip)
      have H' := Aside0.mk H
      clear H
      go_wp2
      go_meet
      case rel => exact ⟨_, ((a0 == 5)), ts36_, H', ⟨ts18_⟩, ts11_⟩
    case rest =>
     clear HC7
     try clear p2
     try clear c3
     try clear c4
     try clear c4b0
     try clear c4b1
     try clear c5
     try clear c5b0
     try clear c5b1
     try clear c6
     try clear c6b0
     try clear c6b1
     try clear p6
     try clear c8
     try clear c8b0
     try clear c8b1
     obtain ⟨kq, x25_6, rfl, HA, HJ6, ⟨mc6, rfl⟩⟩ := hcut
     cases kq with
     | zero => exact absurd HA.out (by simp [irsem_Bin.j0])
     | succ kj6 =>
      have H := HA.out
      clear HA
      simp only [irsem_Bin.j0] at H
      by_cases c9 : x25_6 = true
      ·subst c9
       rw [if_pos rfl] at H
       by_cases c10 : a2 = 0
       ·rw [if_pos c10] at H
        have c10b0 : (a2 == 0) = true := beq_iff_eq.mpr c10
        have c10b1 : (a2 != 0) = false := bne_eq_false_iff_eq.mpr c10
        clear c10
        simp only [Option.some.injEq, Prod.mk.injEq] at H
        obtain ⟨rfl, rfl, rfl⟩ := H
        go_wp2
        go_ret3
        exact ⟨ts36_, ts11_⟩
       ·rw [if_neg c10] at H
        have c10b0 : (a2 == 0) = false := beq_eq_false_iff_ne.mpr c10
        have c10b1 : (a2 != 0) = true := bne_iff_ne.mpr c10
        have HC11 := Aside0.mk H
        clear H
        go_upto_region 14 with (fail)
        go_cut [34] (fun v34 wc => ∃ (kq : Nat) (x34_10 : Bool), v34 = .bool x34_10 ∧ Aside0 (irsem_Bin.j1 kq a0 a1 a2 0 0 x34_10 = some (r1, r2, r3)) ∧ Aside0 (kq ≤ kj6) ∧ Drawn0 w wc)
        case first =>
         have H := HC11.out
         clear HC11
         by_cases c12 : a2 = (-1)
         ·rw [if_pos c12] at H
          have c12b0 : (a2 == (-1)) = true := beq_iff_eq.mpr c12
          have c12b1 : (a2 != (-1)) = false := bne_eq_false_iff_eq.mpr c12
          clear c12
          (first | rw [c12b0] | (simp only [i64_w, i32_w]; rw [c12b0]) | skip)
          have H' := Aside0.mk H
          clear H
          go_wp2
          go_meet
          case rel => exact ⟨_, ((a0 == 4)), ts36_, H', ⟨ts34_ HJ6.out⟩, ts11_⟩
         ·rw [if_neg c12] at H
          have c12b0 : (a2 == (-1)) = false := beq_eq_false_iff_ne.mpr c12
          have c12b1 : (a2 != (-1)) = true := bne_iff_ne.mpr c12
          (first | rw [c12b0] | (simp only [i64_w, i32_w]; rw [c12b0]) | skip)
          have H' := Aside0.mk H
          clear H
          go_wp2
          go_meet
          case rel => exact ⟨_, (false), ts36_, H', ⟨ts34_ HJ6.out⟩, ts11_⟩
        case rest =>
         clear HC11
         try clear c1
         try clear p2
         try clear c3
         try clear c4
         try clear c4b0
         try clear c4b1
         try clear c5
         try clear c5b0
         try clear c5b1
         try clear c6
         try clear c6b0
         try clear c6b1
         try clear p6
         try clear c8
         try clear c8b0
         try clear c8b1
         try clear c9
         try clear c10
         try clear c10b0
         try clear c10b1
         try clear c12
         try clear c12b0
         try clear c12b1
         try clear p2
         try clear p6
         obtain ⟨kq, x34_10, rfl, HA, HJ10, ⟨mc10, rfl⟩⟩ := hcut
         cases kq with
         | zero => exact absurd HA.out (by simp [irsem_Bin.j1])
         | succ kj10 =>
          have H := HA.out
          clear HA
          simp only [irsem_Bin.j1] at H
          by_cases c13 : x34_10 = true
          ·subst c13
           rw [if_pos rfl] at H
           simp only [Option.some.injEq, Prod.mk.injEq] at H
           obtain ⟨rfl, rfl, rfl⟩ := H
           go_wp2
           go_ret3
           exact ⟨ts36_, ts11_⟩
          ·replace c13 := Bool.eq_false_iff.mpr c13
           subst c13
           rw [if_neg Bool.false_ne_true] at H
           by_cases c14 : a2 = (-1)
           ·rw [if_pos c14] at H
            have c14b0 : (a2 == (-1)) = true := beq_iff_eq.mpr c14
            have c14b1 : (a2 != (-1)) = false := bne_eq_false_iff_eq.mpr c14
            clear c14
            simp only [Option.some.injEq, Prod.mk.injEq] at H
            obtain ⟨rfl, rfl, rfl⟩ := H
            go_wp2
            go_ret3
            exact ⟨ts36_, ts11_⟩
           ·rw [if_neg c14] at H
            have c14b0 : (a2 == (-1)) = false := beq_eq_false_iff_ne.mpr c14
            have c14b1 : (a2 != (-1)) = true := bne_iff_ne.mpr c14
            by_cases c15 : a0 = 4
            ·rw [if_pos c15] at H
             have c15b0 : (a0 == 4) = true := beq_iff_eq.mpr c15
             have c15b1 : (a0 != 4) = false := bne_eq_false_iff_eq.mpr c15
             clear c15
             by_cases c16 : a2 = 0
             ·rw [if_pos c16] at H
              exact absurd H (by simp)
             ·rw [if_neg c16] at H
              have c16b0 : (a2 == 0) = false := beq_eq_false_iff_ne.mpr c16
              have c16b1 : (a2 != 0) = true := bne_iff_ne.mpr c16
              simp only [Option.some.injEq, Prod.mk.injEq] at H
              obtain ⟨rfl, rfl, rfl⟩ := H
              go_wp2
              go_ret3
              exact ⟨ts36_, ts11_⟩
            ·rw [if_neg c15] at H
             have c15b0 : (a0 == 4) = false := beq_eq_false_iff_ne.mpr c15
             have c15b1 : (a0 != 4) = true := bne_iff_ne.mpr c15
             by_cases c17 : a2 = 0
             ·rw [if_pos c17] at H
              exact absurd H (by simp)
             ·rw [if_neg c17] at H
              have c17b0 : (a2 == 0) = false := beq_eq_false_iff_ne.mpr c17
              have c17b1 : (a2 != 0) = true := bne_iff_ne.mpr c17
              simp only [Option.some.injEq, Prod.mk.injEq] at H
              obtain ⟨rfl, rfl, rfl⟩ := H
              go_wp2
              go_ret3
              exact ⟨ts36_, ts11_⟩
      ·replace c9 := Bool.eq_false_iff.mpr c9
       subst c9
       rw [if_neg Bool.false_ne_true] at H
       by_cases c18 : a0 = 6
       ·rw [if_pos c18] at H
        have c18b0 : (a0 == 6) = true := beq_iff_eq.mpr c18
        have c18b1 : (a0 != 6) = false := bne_eq_false_iff_eq.mpr c18
        clear c18
        simp only [Option.some.injEq, Prod.mk.injEq] at H
        obtain ⟨rfl, rfl, rfl⟩ := H
        go_wp2
        go_ret3
        exact ⟨ts36_, ts11_⟩
       ·rw [if_neg c18] at H
        have c18b0 : (a0 == 6) = false := beq_eq_false_iff_ne.mpr c18
        have c18b1 : (a0 != 6) = true := bne_iff_ne.mpr c18
        by_cases c19 : a0 = 7
        ·rw [if_pos c19] at H
         have c19b0 : (a0 == 7) = true := beq_iff_eq.mpr c19
         have c19b1 : (a0 != 7) = false := bne_eq_false_iff_eq.mpr c19
         clear c19
         simp only [Option.some.injEq, Prod.mk.injEq] at H
         obtain ⟨rfl, rfl, rfl⟩ := H
         go_wp2
         go_ret3
         exact ⟨ts36_, ts11_⟩
        ·rw [if_neg c19] at H
         have c19b0 : (a0 == 7) = false := beq_eq_false_iff_ne.mpr c19
         have c19b1 : (a0 != 7) = true := bne_iff_ne.mpr c19
         by_cases c20 : a0 = 8
         ·rw [if_pos c20] at H
          have c20b0 : (a0 == 8) = true := beq_iff_eq.mpr c20
          have c20b1 : (a0 != 8) = false := bne_eq_false_iff_eq.mpr c20
          clear c20
          simp only [Option.some.injEq, Prod.mk.injEq] at H
          obtain ⟨rfl, rfl, rfl⟩ := H
          go_wp2
          go_ret3
          exact ⟨ts36_, ts11_⟩
         ·rw [if_neg c20] at H
          have c20b0 : (a0 == 8) = false := beq_eq_false_iff_ne.mpr c20
          have c20b1 : (a0 != 8) = true := bne_iff_ne.mpr c20
          by_cases c21 : a0 = 9
          ·rw [if_pos c21] at H
           have c21b0 : (a0 == 9) = true := beq_iff_eq.mpr c21
           have c21b1 : (a0 != 9) = false := bne_eq_false_iff_eq.mpr c21
           clear c21
           obtain ⟨ji22, hji22⟩ : ∃ j_ : Int, (Int.tmod (IntKind.u64.wrap (a2)) 64) = j_ := ⟨_, rfl⟩
           replace H : (if 0 ≤ (ji22) then (some (shl .i64 a1 (ji22), false, 0)) else (none)) = some (r1, r2, r3) := by first | (rw [hji22] at H; exact H) | (simp only [hji22] at H ⊢; exact H)
           by_cases c23 : 0 ≤ (ji22)
           ·rw [if_pos c23] at H
            have c23b0 := eq_true c23
            have c23b1 : decide (0 ≤ (ji22)) = true := decide_eq_true c23
            clear c23
            obtain ⟨ji24, hji24⟩ : ∃ j_ : Int, (shl .i64 a1 (ji22)) = j_ := ⟨_, rfl⟩
            replace H : (some (ji24, false, 0)) = some (r1, r2, r3) := by first | (rw [hji24] at H; exact H) | (simp only [hji24] at H ⊢; exact H)
            have hji24_ : (IntKind.i64.wrap (a1 * 2 ^ min (ji22).toNat 64)) = ji24 := hji24
            have hji24z : (ji22) ≤ 64 → (IntKind.i64.wrap (a1 * 2 ^ (ji22).toNat)) = ji24 := shl_small hji24
            have hji24y : (wrap64 (a1 * 2 ^ min (ji22).toNat 64)) = ji24 := (i64_w _).symm.trans hji24_
            have hji24x : (ji22) ≤ 64 → (wrap64 (a1 * 2 ^ (ji22).toNat)) = ji24 := fun h_ => (i64_w _).symm.trans (hji24z h_)
            simp only [Option.some.injEq, Prod.mk.injEq] at H
            obtain ⟨rfl, rfl, rfl⟩ := H
            go_wp2
            go_ret3
            exact ⟨by first | rfl | (simp; done) | (simp only [← hji22, ← hji24] <;> (first | rfl | simp)) | (simp [*]; done), ts11_⟩
           ·rw [if_neg c23] at H
            exact absurd H (by simp)
          ·rw [if_neg c21] at H
           have c21b0 : (a0 == 9) = false := beq_eq_false_iff_ne.mpr c21
           have c21b1 : (a0 != 9) = true := bne_iff_ne.mpr c21
           by_cases c25 : a0 = 10
           ·rw [if_pos c25] at H
            have c25b0 : (a0 == 10) = true := beq_iff_eq.mpr c25
            have c25b1 : (a0 != 10) = false := bne_eq_false_iff_eq.mpr c25
            clear c25
            obtain ⟨ji26, hji26⟩ : ∃ j_ : Int, (Int.tmod (IntKind.u64.wrap (a2)) 64) = j_ := ⟨_, rfl⟩
            replace H : (if 0 ≤ (ji26) then (some (shr .i64 a1 (ji26), false, 0)) else (none)) = some (r1, r2, r3) := by first | (rw [hji26] at H; exact H) | (simp only [hji26] at H ⊢; exact H)
            by_cases c27 : 0 ≤ (ji26)
            ·rw [if_pos c27] at H
             have c27b0 := eq_true c27
             have c27b1 : decide (0 ≤ (ji26)) = true := decide_eq_true c27
             clear c27
             obtain ⟨ji28, hji28⟩ : ∃ j_ : Int, (shr .i64 a1 (ji26)) = j_ := ⟨_, rfl⟩
             replace H : (some (ji28, false, 0)) = some (r1, r2, r3) := by first | (rw [hji28] at H; exact H) | (simp only [hji28] at H ⊢; exact H)
             have hji28_ : (a1 / 2 ^ min (ji26).toNat 64) = ji28 := hji28
             have hji28z : (ji26) ≤ 64 → (a1 / 2 ^ (ji26).toNat) = ji28 := shr_small hji28
             simp only [Option.some.injEq, Prod.mk.injEq] at H
             obtain ⟨rfl, rfl, rfl⟩ := H
             go_wp2
             go_ret3
             exact ⟨by first | rfl | (simp; done) | (simp only [← hji26, ← hji28] <;> (first | rfl | simp)) | (simp [*]; done), ts11_⟩
            ·rw [if_neg c27] at H
             exact absurd H (by simp)
           ·rw [if_neg c25] at H
            have c25b0 : (a0 == 10) = false := beq_eq_false_iff_ne.mpr c25
            have c25b1 : (a0 != 10) = true := bne_iff_ne.mpr c25
            by_cases c29 : a0 = 11
            ·rw [if_pos c29] at H
             have c29b0 : (a0 == 11) = true := beq_iff_eq.mpr c29
             have c29b1 : (a0 != 11) = false := bne_eq_false_iff_eq.mpr c29
             clear c29
             replace H := Option.bind_eq_some_iff.mp H
             obtain ⟨t131, A300, H⟩ := H
             try dsimp only at H
             have A30 := Aside0.mk A300
             clear A300
             simp only [Option.some.injEq, Prod.mk.injEq] at H
             obtain ⟨rfl, rfl, rfl⟩ := H
             go_wp2_with (first | ((with_reducible refine gate_callee (f := 62) rfl ?_); refine goesL_ (some 86) rfl rfl Tryd.func62 (by kernel_rfl) rfl #[.bool (a1 == a2)] rfl ts47_ ?_; (with_reducible refine (irsem_truth.calls (a1 == a2) t131 _ A30.out).mono ?_); rintro e w' ⟨rfl, ⟨nd, rfl⟩⟩; refine ⟨_, rfl, ?_⟩))
             go_ret3
             exact ⟨ts36_, ts11_⟩
            ·rw [if_neg c29] at H
             have c29b0 : (a0 == 11) = false := beq_eq_false_iff_ne.mpr c29
             have c29b1 : (a0 != 11) = true := bne_iff_ne.mpr c29
             by_cases c31 : a0 = 12
             ·rw [if_pos c31] at H
              have c31b0 : (a0 == 12) = true := beq_iff_eq.mpr c31
              have c31b1 : (a0 != 12) = false := bne_eq_false_iff_eq.mpr c31
              clear c31
              replace H := Option.bind_eq_some_iff.mp H
              obtain ⟨t132, A320, H⟩ := H
              try dsimp only at H
              have A32 := Aside0.mk A320
              clear A320
              simp only [Option.some.injEq, Prod.mk.injEq] at H
              obtain ⟨rfl, rfl, rfl⟩ := H
              go_wp2_with (first | ((with_reducible refine gate_callee (f := 62) rfl ?_); refine goesL_ (some 92) rfl rfl Tryd.func62 (by kernel_rfl) rfl #[.bool (a1 != a2)] rfl ts47_ ?_; (with_reducible refine (irsem_truth.calls (a1 != a2) t132 _ A32.out).mono ?_); rintro e w' ⟨rfl, ⟨nd, rfl⟩⟩; refine ⟨_, rfl, ?_⟩))
              go_ret3
              exact ⟨ts36_, ts11_⟩
             ·rw [if_neg c31] at H
              have c31b0 : (a0 == 12) = false := beq_eq_false_iff_ne.mpr c31
              have c31b1 : (a0 != 12) = true := bne_iff_ne.mpr c31
              by_cases c33 : a0 = 13
              ·rw [if_pos c33] at H
               have c33b0 : (a0 == 13) = true := beq_iff_eq.mpr c33
               have c33b1 : (a0 != 13) = false := bne_eq_false_iff_eq.mpr c33
               clear c33
               replace H := Option.bind_eq_some_iff.mp H
               obtain ⟨t133, A340, H⟩ := H
               try dsimp only at H
               have A34 := Aside0.mk A340
               clear A340
               simp only [Option.some.injEq, Prod.mk.injEq] at H
               obtain ⟨rfl, rfl, rfl⟩ := H
               go_wp2_with (first | ((with_reducible refine gate_callee (f := 62) rfl ?_); refine goesL_ (some 98) rfl rfl Tryd.func62 (by kernel_rfl) rfl #[.bool (decide (a1 < a2))] rfl ts47_ ?_; (with_reducible refine (irsem_truth.calls (decide (a1 < a2)) t133 _ A34.out).mono ?_); rintro e w' ⟨rfl, ⟨nd, rfl⟩⟩; refine ⟨_, rfl, ?_⟩))
               go_ret3
               exact ⟨ts36_, ts11_⟩
              ·rw [if_neg c33] at H
               have c33b0 : (a0 == 13) = false := beq_eq_false_iff_ne.mpr c33
               have c33b1 : (a0 != 13) = true := bne_iff_ne.mpr c33
               by_cases c35 : a0 = 14
               ·rw [if_pos c35] at H
                have c35b0 : (a0 == 14) = true := beq_iff_eq.mpr c35
                have c35b1 : (a0 != 14) = false := bne_eq_false_iff_eq.mpr c35
                clear c35
                replace H := Option.bind_eq_some_iff.mp H
                obtain ⟨t134, A360, H⟩ := H
                try dsimp only at H
                have A36 := Aside0.mk A360
                clear A360
                simp only [Option.some.injEq, Prod.mk.injEq] at H
                obtain ⟨rfl, rfl, rfl⟩ := H
                go_wp2_with (first | ((with_reducible refine gate_callee (f := 62) rfl ?_); refine goesL_ (some 104) rfl rfl Tryd.func62 (by kernel_rfl) rfl #[.bool (decide (a1 ≤ a2))] rfl ts47_ ?_; (with_reducible refine (irsem_truth.calls (decide (a1 ≤ a2)) t134 _ A36.out).mono ?_); rintro e w' ⟨rfl, ⟨nd, rfl⟩⟩; refine ⟨_, rfl, ?_⟩))
                go_ret3
                exact ⟨ts36_, ts11_⟩
               ·rw [if_neg c35] at H
                have c35b0 : (a0 == 14) = false := beq_eq_false_iff_ne.mpr c35
                have c35b1 : (a0 != 14) = true := bne_iff_ne.mpr c35
                simp only [Option.some.injEq, Prod.mk.injEq] at H
                obtain ⟨rfl, rfl, rfl⟩ := H
                go_wp2
                go_ret3
                exact ⟨ts36_, ts11_⟩
-- NOT PRINTED: function 22 (emulate_Machine_step)
-- NOT PRINTED: function 9 (emulate_Run)
end Go.Proofs.YtekhnkpjeofdpaaDoor.A
