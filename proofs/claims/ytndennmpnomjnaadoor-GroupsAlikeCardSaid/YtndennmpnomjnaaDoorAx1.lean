/- Written by wip/tools/xprint.py, a program of this session that drives the kit's printer. Not trusted: Lean checks it. -/
import Derived.Test.YtndennmpnomjnaaDoorAx0
import Derived.Test.YtndennmpnomjnaaDoorSortK
set_option linter.all false
set_option maxHeartbeats 8000000
set_option maxRecDepth 100000
namespace Go.Proofs.YtndennmpnomjnaaDoor.A
open Go.RowKit Go.Proofs.YtndennmpnomjnaaDoorW.PrintWords Go.Proofs.YtndennmpnomjnaaDoorW.PrintLast Go.Proofs.YtndennmpnomjnaaDoorW.PrintMore
attribute [local go_sem] max2_int min2_int max_two min_two max_three min_three max_four min_four   -- for this text's walks alone
set_option linter.unusedVariables false
set_option linter.unusedSimpArgs false
/-! ### slices_Equal_int64_int64: function 53 -/
def slices_Equal_int64_int64.l0 : Nat → List Int → List Int → Int → Int → Option (Bool)
 | 0, _, _, _, _ => none
 | k + 1, x0, x1, x12, x13 => if x13 < x12 then (if 0 ≤ x13 then (if x13 < (x0.length : Int) then (if x13 < (x1.length : Int) then (if (rd x0 x13) = (rd x1 x13) then (slices_Equal_int64_int64.l0 k x0 x1 x12 (wrap64 (x13 + 1))) else (some false)) else (none)) else (none)) else (none)) else (some true)
def slices_Equal_int64_int64.f (k : Nat) (l0 : List Int) (l1 : List Int) : Option (Bool) := if (l0.length : Int) = (l1.length : Int) then (slices_Equal_int64_int64.l0 k l0 l1 (l0.length : Int) 0) else (some false)
theorem slices_Equal_int64_int64.mono_l : ∀ k, (∀ y0 y1 y2 y3, LeO (slices_Equal_int64_int64.l0 k y0 y1 y2 y3) (slices_Equal_int64_int64.l0 (k + 1) y0 y1 y2 y3))
 | 0 => fun _ _ _ _ r h => by simp [slices_Equal_int64_int64.l0] at h
 | k + 1 => by
  have ih0 := slices_Equal_int64_int64.mono_l k
  ·intro y0 y1 y2 y3
   unfold slices_Equal_int64_int64.l0
   repeat' first
   | (with_reducible exact ih0 _ _ _ _)
   | (with_reducible exact LeO.refl _)
   | (with_reducible exact LeO.none _)
   | (with_reducible refine LeO.ite ?_ ?_)
   | (with_reducible refine LeO.bind ?_ (fun _ => ?_))
   | exact LeO.none _
   | refine LeO.ite ?_ ?_
   | refine LeO.bind ?_ (fun _ => ?_)
theorem slices_Equal_int64_int64.mono : ∀ a0 a1 k, LeO (slices_Equal_int64_int64.f k a0 a1) (slices_Equal_int64_int64.f (k + 1) a0 a1) := by
 intro a0 a1 k
 have ih0 := slices_Equal_int64_int64.mono_l k
 unfold slices_Equal_int64_int64.f
 repeat' first
   | (with_reducible exact ih0 _ _ _ _)
   | (with_reducible exact LeO.refl _)
   | (with_reducible exact LeO.none _)
   | (with_reducible refine LeO.ite ?_ ?_)
   | (with_reducible refine LeO.bind ?_ (fun _ => ?_))
   | exact LeO.none _
   | refine LeO.ite ?_ ?_
   | refine LeO.bind ?_ (fun _ => ?_)
theorem slices_Equal_int64_int64.calls (k : Nat) (A0 : Option Addr) (c0 : Nat) (l0 : List Int) (A1 : Option Addr) (c1 : Nat) (l1 : List Int) (r : Bool) (w : World) (hr0 : Kd.C (Kd.int .i64) w A0 l0.length l0) (hc0 : l0.length ≤ c0) (hr1 : Kd.C (Kd.int .i64) w A1 l1.length l1) (hc1 : l1.length ≤ c1) (h : slices_Equal_int64_int64.f k l0 l1 = some r) :
  Calls Tryd.prog 53 #[.slice A0 l0.length c0, .slice A1 l1.length c1] w fun e w' => e = .returned (.bool r) ∧ Drawn0 w w' := by
 have HR0 := Aside0.mk hr0
 have HC0 := Aside0.mk hc0
 clear hr0 hc0
 have HR1 := Aside0.mk hr1
 have HC1 := Aside0.mk hc1
 clear hr1 hc1
 have H : (if (l0.length : Int) = (l1.length : Int) then (slices_Equal_int64_int64.l0 k l0 l1 (l0.length : Int) 0) else (some false)) = some r := h
 clear h
 by_cases c3 : (l0.length : Int) = (l1.length : Int)
 ·rw [if_pos c3] at H
  have c3b0 : ((l0.length : Int) == (l1.length : Int)) = true := beq_iff_eq.mpr c3
  have c3b1 : ((l0.length : Int) != (l1.length : Int)) = false := bne_eq_false_iff_eq.mpr c3
  have c3b2 : (l0.length == l1.length) = true := by first | simpa using c3 | (simp at c3 ⊢; omega)
  clear c3
  have H' := Aside0.mk H
  clear H
  go_enter Tryd.func53, Tryd.ntmps53
  go_wp2
  repeat (go_quiet (fail); try go_wp2)
  go_loopg [13] k (fun kq v13 w' => ∃ (x13_1 : Int), v13 = .int .i64 x13_1 ∧ Aside0 (slices_Equal_int64_int64.l0 kq l0 l1 (l0.length : Int) x13_1 = some r) ∧ Aside0 (kq ≤ k) ∧ Drawn0 w w')
  case atStart => exact ⟨(0), ts34_, H', ⟨Nat.le_refl _⟩, ts19_⟩
  case round =>
   clear H'
   try clear c1
   try clear p2
   try clear c3
   try clear c3b0
   try clear c3b1
   try clear c3b2
   obtain ⟨x13_1, rfl, HA, HK1, ⟨m1, rfl⟩⟩ := hrel
   cases gk with
   | zero => exact absurd HA.out (by simp [slices_Equal_int64_int64.l0])
   | succ k1 =>
    have H := HA.out
    clear HA
    simp only [slices_Equal_int64_int64.l0] at H
    by_cases c4 : x13_1 < (l0.length : Int)
    ·rw [if_pos c4] at H
     have c4b0 : decide (x13_1 < (l0.length : Int)) = true := decide_eq_true c4
     clear c4
     by_cases c5 : 0 ≤ x13_1
     ·rw [if_pos c5] at H
      have c5b0 : decide (0 ≤ x13_1) = true := decide_eq_true c5
      clear c5
      by_cases c6 : x13_1 < (l0.length : Int)
      ·rw [if_pos c6] at H
       have c6b0 : decide (x13_1 < (l0.length : Int)) = true := decide_eq_true c6
       clear c6
       by_cases c7 : x13_1 < (l1.length : Int)
       ·rw [if_pos c7] at H
        have c7b0 : decide (x13_1 < (l1.length : Int)) = true := decide_eq_true c7
        clear c7
        by_cases c8 : (rd l0 x13_1) = (rd l1 x13_1)
        ·rw [if_pos c8] at H
         have c8b0 : ((rd l0 x13_1) == (rd l1 x13_1)) = true := beq_iff_eq.mpr c8
         have c8b1 : ((rd l0 x13_1) != (rd l1 x13_1)) = false := bne_eq_false_iff_eq.mpr c8
         clear c8
         have H' := Aside0.mk H
         clear H
         have p101 : 0 ≤ (x13_1 : Int) := of_decide_eq_true ts26_
         have q101 : x13_1 < (l0.length : Int) := of_decide_eq_true ts26_
         obtain ⟨ad101, e101, hx101_0⟩ := Kd.at_int HR0.out x13_1 p101 q101
         cases e101
         replace p101 := eq_true p101
         replace q101 := eq_true q101
         have p102 : 0 ≤ (x13_1 : Int) := of_decide_eq_true ts26_
         have q102 : x13_1 < (l1.length : Int) := of_decide_eq_true ts26_
         obtain ⟨ad102, e102, hx102_0⟩ := Kd.at_int HR1.out x13_1 p102 q102
         cases e102
         replace p102 := eq_true p102
         replace q102 := eq_true q102
         go_wp2
         repeat (go_quiet (fail); try go_wp2)
         go_roundg k1
         case measure => have := HK1.out; omega
         case rel => exact ⟨(wrap64 (x13_1 + 1)), ts34_, H', ⟨by have := HK1.out; omega⟩, ts19_⟩
        rw [if_neg c8] at H
        have c8b0 : ((rd l0 x13_1) == (rd l1 x13_1)) = false := beq_eq_false_iff_ne.mpr c8
        have c8b1 : ((rd l0 x13_1) != (rd l1 x13_1)) = true := bne_iff_ne.mpr c8
        obtain rfl := Option.some.inj H
        have p101 : 0 ≤ (x13_1 : Int) := of_decide_eq_true ts26_
        have q101 : x13_1 < (l0.length : Int) := of_decide_eq_true ts26_
        obtain ⟨ad101, e101, hx101_0⟩ := Kd.at_int HR0.out x13_1 p101 q101
        cases e101
        replace p101 := eq_true p101
        replace q101 := eq_true q101
        have p102 : 0 ≤ (x13_1 : Int) := of_decide_eq_true ts26_
        have q102 : x13_1 < (l1.length : Int) := of_decide_eq_true ts26_
        obtain ⟨ad102, e102, hx102_0⟩ := Kd.at_int HR1.out x13_1 p102 q102
        cases e102
        replace p102 := eq_true p102
        replace q102 := eq_true q102
        go_wp2
        repeat (go_quiet (fail); try go_wp2)
        go_ret
        exact ⟨ts34_, ts19_⟩
       rw [if_neg c7] at H
       exact absurd H (by simp)
      rw [if_neg c6] at H
      exact absurd H (by simp)
     rw [if_neg c5] at H
     exact absurd H (by simp)
    rw [if_neg c4] at H
    have c4b0 : decide (x13_1 < (l0.length : Int)) = false := decide_eq_false c4
    clear c4
    obtain rfl := Option.some.inj H
    go_wp2
    repeat (go_quiet (fail); try go_wp2)
    go_ret
    exact ⟨ts34_, ts19_⟩
 rw [if_neg c3] at H
 have c3b0 : ((l0.length : Int) == (l1.length : Int)) = false := beq_eq_false_iff_ne.mpr c3
 have c3b1 : ((l0.length : Int) != (l1.length : Int)) = true := bne_iff_ne.mpr c3
 have c3b2 : (l0.length == l1.length) = false := by first | simpa using c3 | (simp at c3 ⊢; omega)
 obtain rfl := Option.some.inj H
 go_enter Tryd.func53, Tryd.ntmps53
 go_wp2
 repeat (go_quiet (fail); try go_wp2)
 go_ret
 exact ⟨ts34_, ts19_⟩
/-! ### irsem_Agree_1: function 52 -/
def irsem_Agree_1.f (k : Nat) (l0 : List Int) (l1 : List Int) : Option (Bool) := if (l0.length : Int) ≤ (l1.length : Int) then (if 0 ≤ (l0.length : Int) then ((slices_Equal_int64_int64.f k l0 (l1.take ((l0.length : Int) : Int).toNat)).bind fun t104 => (some t104)) else (none)) else (some false)
theorem irsem_Agree_1.mono : ∀ a0 a1 k, LeO (irsem_Agree_1.f k a0 a1) (irsem_Agree_1.f (k + 1) a0 a1) := by
 intro a0 a1 k
 unfold irsem_Agree_1.f
 repeat' first
   | (with_reducible exact slices_Equal_int64_int64.mono _ _ _)
   | (with_reducible exact LeO.refl _)
   | (with_reducible exact LeO.none _)
   | (with_reducible refine LeO.ite ?_ ?_)
   | (with_reducible refine LeO.bind ?_ (fun _ => ?_))
   | exact LeO.none _
   | refine LeO.ite ?_ ?_
   | refine LeO.bind ?_ (fun _ => ?_)
theorem irsem_Agree_1.calls (k : Nat) (A0 : Option Addr) (c0 : Nat) (l0 : List Int) (A1 : Option Addr) (c1 : Nat) (l1 : List Int) (r : Bool) (w : World) (hr0 : Kd.C (Kd.int .i64) w A0 l0.length l0) (hc0 : l0.length ≤ c0) (hr1 : Kd.C (Kd.int .i64) w A1 l1.length l1) (hc1 : l1.length ≤ c1) (h : irsem_Agree_1.f k l0 l1 = some r) :
  Calls Tryd.prog 52 #[.slice A0 l0.length c0, .slice A1 l1.length c1] w fun e w' => e = .returned (.bool r) ∧ Drawn0 w w' := by
 have HR0 := Aside0.mk hr0
 have HC0 := Aside0.mk hc0
 clear hr0 hc0
 have HR1 := Aside0.mk hr1
 have HC1 := Aside0.mk hc1
 clear hr1 hc1
 have H : (if (l0.length : Int) ≤ (l1.length : Int) then (if 0 ≤ (l0.length : Int) then ((slices_Equal_int64_int64.f k l0 (l1.take ((l0.length : Int) : Int).toNat)).bind fun t104 => (some t104)) else (none)) else (some false)) = some r := h
 clear h
 by_cases c3 : (l0.length : Int) ≤ (l1.length : Int)
 ·rw [if_pos c3] at H
  have c3b0 : decide ((l0.length : Int) ≤ (l1.length : Int)) = true := decide_eq_true c3
  have c3b1 : decide (l0.length ≤ l1.length) = true := decide_eq_true (Int.ofNat_le.mp c3)
  clear c3
  by_cases c4 : 0 ≤ (l0.length : Int)
  ·rw [if_pos c4] at H
   have c4b0 := eq_true c4
   have c4b1 : decide (0 ≤ (l0.length : Int)) = true := decide_eq_true c4
   clear c4
   have c5b0 := eq_true (of_decide_eq_true ts26_ : (l0.length : Int) ≤ (l1.length : Int))
   obtain ⟨t104, A6, H⟩ := bsA_ H
   try dsimp only at H
   obtain rfl := Option.some.inj H
   obtain ⟨i07, hi07, _, hsz7, _⟩ := info_parts info2
   obtain ⟨hcut7, hA7, hC7⟩ := print_take_of (P := Tryd.prog) (Value.int .i64) 0 41 2 .i64 Tryd.underlying41 hi07 hsz7 A1 c1 l1 (l0.length : Int) (of_decide_eq_true ts26_) (of_decide_eq_true ts26_) HC1.out
   have HR103 := Aside0.mk (Kd.C_of_reads (h1 := fun _ => rfl) (hA7 _ (Kd.reads_of_C HR1.out)))
   have HC103 := Aside0.mk hC7
   clear hA7 hC7 hi07 hsz7
   go_enter Tryd.func52, Tryd.ntmps52
   go_wp2_with (first | (go_at_call 53; have hcq_ := slices_Equal_int64_int64.calls k A0 c0 l0 A1 c1 (l1.take ((l0.length : Int) : Int).toNat) t104 w HR0.out HC0.out HR103.out HC103.out A6.out; simp only [Int.toNat_natCast, List.length_take] at hcq_; refine hcq_.mono ?_; rintro e w' ⟨rfl, ⟨nd, rfl⟩⟩))
   go_ret
   exact ⟨ts34_, ts19_⟩
  rw [if_neg c4] at H
  exact absurd H (by simp)
 rw [if_neg c3] at H
 have c3b0 : decide ((l0.length : Int) ≤ (l1.length : Int)) = false := decide_eq_false c3
 have c3b1 : decide (l0.length ≤ l1.length) = false := decide_eq_false (fun h => c3 (Int.ofNat_le.mpr h))
 clear c3
 obtain rfl := Option.some.inj H
 go_enter Tryd.func52, Tryd.ntmps52
 go_wp2
 go_ret
 exact ⟨ts34_, ts19_⟩
/-! ### irsem_Agree: function 37 -/
def irsem_Agree.j0 : Nat → Bool → List Int → Int → Int → List Int → Int → Int → Option (Bool)
 | 0, _, _, _, _, _, _, _ => none
 | k + 1, x24, x106000, x106001, x106002, x107000, x107001, x107002 => if x24 = true then (some true) else (if x106001 = 4 then ((irsem_Agree_1.f k x106000 x107000).bind fun t108 => (if t108 = true then (some true) else (if x107001 = 4 then ((irsem_Agree_1.f k x107000 x106000).bind fun t109 => (some t109)) else (some false)))) else (if x107001 = 4 then ((irsem_Agree_1.f k x107000 x106000).bind fun t110 => (some t110)) else (some false)))
def irsem_Agree.f (k : Nat) (l0_0 : List Int) (a0_1 : Int) (a0_2 : Int) (l1_0 : List Int) (a1_1 : Int) (a1_2 : Int) : Option (Bool) := if a0_1 = a1_1 then (if a0_2 = a1_2 then ((slices_Equal_int64_int64.f k l0_0 l1_0).bind fun t107 => (irsem_Agree.j0 k t107 l0_0 a0_1 a0_2 l1_0 a1_1 a1_2)) else (irsem_Agree.j0 k false l0_0 a0_1 a0_2 l1_0 a1_1 a1_2)) else (irsem_Agree.j0 k false l0_0 a0_1 a0_2 l1_0 a1_1 a1_2)
theorem irsem_Agree.mono_l : ∀ k, (∀ y0 y1 y2 y3 y4 y5 y6, LeO (irsem_Agree.j0 k y0 y1 y2 y3 y4 y5 y6) (irsem_Agree.j0 (k + 1) y0 y1 y2 y3 y4 y5 y6))
 | 0 => fun _ _ _ _ _ _ _ r h => by simp [irsem_Agree.j0] at h
 | k + 1 => by
  have ih0 := irsem_Agree.mono_l k
  ·intro y0 y1 y2 y3 y4 y5 y6
   unfold irsem_Agree.j0
   repeat' first
   | (with_reducible exact ih0 _ _ _ _ _ _ _)
   | (with_reducible exact irsem_Agree_1.mono _ _ _)
   | (with_reducible exact slices_Equal_int64_int64.mono _ _ _)
   | (with_reducible exact LeO.refl _)
   | (with_reducible exact LeO.none _)
   | (with_reducible refine LeO.ite ?_ ?_)
   | (with_reducible refine LeO.bind ?_ (fun _ => ?_))
   | exact LeO.none _
   | refine LeO.ite ?_ ?_
   | refine LeO.bind ?_ (fun _ => ?_)
theorem irsem_Agree.mono : ∀ a0 a1 a2 a3 a4 a5 k, LeO (irsem_Agree.f k a0 a1 a2 a3 a4 a5) (irsem_Agree.f (k + 1) a0 a1 a2 a3 a4 a5) := by
 intro a0 a1 a2 a3 a4 a5 k
 have ih0 := irsem_Agree.mono_l k
 unfold irsem_Agree.f
 repeat' first
   | (with_reducible exact ih0 _ _ _ _ _ _ _)
   | (with_reducible exact irsem_Agree_1.mono _ _ _)
   | (with_reducible exact slices_Equal_int64_int64.mono _ _ _)
   | (with_reducible exact LeO.refl _)
   | (with_reducible exact LeO.none _)
   | (with_reducible refine LeO.ite ?_ ?_)
   | (with_reducible refine LeO.bind ?_ (fun _ => ?_))
   | exact LeO.none _
   | refine LeO.ite ?_ ?_
   | refine LeO.bind ?_ (fun _ => ?_)
theorem irsem_Agree.calls (k : Nat) (A0_0 : Option Addr) (c0_0 : Nat) (l0_0 : List Int) (a0_1 : Int) (a0_2 : Int) (A1_0 : Option Addr) (c1_0 : Nat) (l1_0 : List Int) (a1_1 : Int) (a1_2 : Int) (r : Bool) (w : World) (hr0_0 : Kd.C (Kd.int .i64) w A0_0 l0_0.length l0_0) (hc0_0 : l0_0.length ≤ c0_0) (hr1_0 : Kd.C (Kd.int .i64) w A1_0 l1_0.length l1_0) (hc1_0 : l1_0.length ≤ c1_0) (h : irsem_Agree.f k l0_0 a0_1 a0_2 l1_0 a1_1 a1_2 = some r) :
  Calls Tryd.prog 37 #[.agg #[.slice A0_0 l0_0.length c0_0, .int .i64 a0_1, .int .i64 a0_2], .agg #[.slice A1_0 l1_0.length c1_0, .int .i64 a1_1, .int .i64 a1_2]] w fun e w' => e = .returned (.bool r) ∧ Below w.heap.size w w' := by
 have hu43 := Tryd.underlying43
 have HR0_0 := Aside0.mk hr0_0
 have HC0_0 := Aside0.mk hc0_0
 clear hr0_0 hc0_0
 have HR1_0 := Aside0.mk hr1_0
 have HC1_0 := Aside0.mk hc1_0
 clear hr1_0 hc1_0
 have HB := Aside0.mk (Below.refl w.heap.size w)
 have H : (if a0_1 = a1_1 then (if a0_2 = a1_2 then ((slices_Equal_int64_int64.f k l0_0 l1_0).bind fun t107 => (irsem_Agree.j0 k t107 l0_0 a0_1 a0_2 l1_0 a1_1 a1_2)) else (irsem_Agree.j0 k false l0_0 a0_1 a0_2 l1_0 a1_1 a1_2)) else (irsem_Agree.j0 k false l0_0 a0_1 a0_2 l1_0 a1_1 a1_2)) = some r := h
 clear h
 have HC3 := Aside0.mk H
 clear H
 go_enter Tryd.func37, Tryd.ntmps37
 go_upto_region 2 with (first | ((with_reducible refine gate_dst (N := 2) rfl ?_); refine box_event ?hg (N := 2) ?hd (cs := #[.slice A0_0 l0_0.length c0_0, .int .i64 a0_1, .int .i64 a0_2]) (t := 43) ?hr ?_; (case hd => rfl); (case hg => rfl); (case hr => exact ts18_); intro gb105 hg w4 hbox hb; have BK105 := Aside0.mk (hbox); have GW105 := Aside0.mk ((ts51_ HB.out : w.heap.size ≤ gb105)); have GE105 := Aside0.mk ((ts51_ HB.out : w.heap.size ≤ gb105)); replace HB := Aside0.mk (below_step (ts35_ HB.out) hb); clear hb hbox hg) | ((with_reducible refine gate_dst (N := 3) rfl ?_); refine box_event ?hg (N := 3) ?hd (cs := #[.slice A1_0 l1_0.length c1_0, .int .i64 a1_1, .int .i64 a1_2]) (t := 43) ?hr ?_; (case hd => rfl); (case hg => rfl); (case hr => exact ts18_); intro gb106 hg w5 hbox hb; have BK106 := Aside0.mk (hbox); have GW106 := Aside0.mk ((ts45_ HB.out GE105.out : w.heap.size ≤ gb106)); have GE106 := Aside0.mk ((ts45_ HB.out GE105.out : w.heap.size ≤ gb106)); replace HB := Aside0.mk (below_step (ts20_ HB.out GE105.out) hb); have NB105_106 := Aside0.mk ((by rw [hg]; exact Nat.ne_of_lt (blk_lt (g := gb105) (o := .cells #[.slice A0_0 l0_0.length c0_0, .int .i64 a0_1, .int .i64 a0_2] 43 (0, 0)) (ts17_ BK105.out)) : gb105 ≠ gb106)); have NB106_105 := Aside0.mk ((by rw [hg]; exact Nat.ne_of_gt (blk_lt (g := gb105) (o := .cells #[.slice A0_0 l0_0.length c0_0, .int .i64 a0_1, .int .i64 a0_2] 43 (0, 0)) (ts17_ BK105.out)) : gb106 ≠ gb105)); replace BK105 := Aside0.mk (blk_below (g := gb105) (o := .cells #[.slice A0_0 l0_0.length c0_0, .int .i64 a0_1, .int .i64 a0_2] 43 (0, 0)) (ts17_ BK105.out) hb); clear hb hbox hg))
 (try simp only [Act.put, List.setIfInBounds_toArray, List.set_cons_zero, List.set_cons_succ])
 go_cut [24] (fun v24 wc => ∃ (kq : Nat) (x24_2 : Bool), v24 = .bool x24_2 ∧ Aside0 (irsem_Agree.j0 kq x24_2 l0_0 a0_1 a0_2 l1_0 a1_1 a1_2 = some r) ∧ Aside0 (kq ≤ k) ∧ Aside0 (wc.heap[gb105]? = some (.cells #[(.slice A0_0 l0_0.length c0_0), .int .i64 a0_1, .int .i64 a0_2] 43 (0, 0))) ∧ Aside0 (wc.heap[gb106]? = some (.cells #[(.slice A1_0 l1_0.length c1_0), .int .i64 a1_1, .int .i64 a1_2] 43 (0, 0))) ∧ Aside0 (Below w.heap.size w wc))
 case first =>
  have H := HC3.out
  clear HC3
  by_cases c6 : a0_1 = a1_1
  ·rw [if_pos c6] at H
   have c6b0 : (a0_1 == a1_1) = true := beq_iff_eq.mpr c6
   have c6b1 : (a0_1 != a1_1) = false := bne_eq_false_iff_eq.mpr c6
   clear c6
   (first | rw [c6b0] | (simp only [i64_w, i32_w]; rw [c6b0]) | skip)
   by_cases c7 : a0_2 = a1_2
   ·rw [if_pos c7] at H
    have c7b0 : (a0_2 == a1_2) = true := beq_iff_eq.mpr c7
    have c7b1 : (a0_2 != a1_2) = false := bne_eq_false_iff_eq.mpr c7
    clear c7
    obtain ⟨t107, A8, H⟩ := bsA_ H
    try dsimp only at H
    have H' := Aside0.mk H
    clear H
    have hnb9 := NB105_106.out
    have hnc9 := NB106_105.out
    have hcz10_0 : w5.cell? ⟨gb105, 0, none⟩ = some (.slice A0_0 l0_0.length c0_0) := (blk_cell BK105.out 0).trans rfl
    have hcz10_1 : w5.cell? ⟨gb105, 1, none⟩ = some (.int .i64 a0_1) := (blk_cell BK105.out 1).trans rfl
    have hcz10_2 : w5.cell? ⟨gb105, 2, none⟩ = some (.int .i64 a0_2) := (blk_cell BK105.out 2).trans rfl
    have hfz10_0 := blk_frozen BK105.out 0
    have hfz10_1 := blk_frozen BK105.out 1
    have hfz10_2 := blk_frozen BK105.out 2
    have hcz11_0 : w5.cell? ⟨gb106, 0, none⟩ = some (.slice A1_0 l1_0.length c1_0) := (blk_cell BK106.out 0).trans rfl
    have hcz11_1 : w5.cell? ⟨gb106, 1, none⟩ = some (.int .i64 a1_1) := (blk_cell BK106.out 1).trans rfl
    have hcz11_2 : w5.cell? ⟨gb106, 2, none⟩ = some (.int .i64 a1_2) := (blk_cell BK106.out 2).trans rfl
    have hfz11_0 := blk_frozen BK106.out 0
    have hfz11_1 := blk_frozen BK106.out 1
    have hfz11_2 := blk_frozen BK106.out 2
    go_wp2_with (first | (go_at_call 53; (with_reducible refine (slices_Equal_int64_int64.calls k _ _ l0_0 _ _ l1_0 t107 _ ?side1 ?side2 ?side3 ?side4 A8.out).mono ?_); (case side1 => exact ts9_ HR0_0.out HB.out); (case side2 => exact HC0_0.out); (case side3 => exact ts9_ HR1_0.out HB.out); (case side4 => exact HC1_0.out); rintro e w' ⟨rfl, ⟨nd, rfl⟩⟩))
    go_meet
    case rel => exact ⟨_, (t107), ts34_, H', ⟨ts1_⟩, ⟨ts17_ BK105.out⟩, ⟨ts17_ BK106.out⟩, ⟨ts27_ HB.out GE105.out GE106.out⟩⟩
   rw [if_neg c7] at H
   have c7b0 : (a0_2 == a1_2) = false := beq_eq_false_iff_ne.mpr c7
   have c7b1 : (a0_2 != a1_2) = true := bne_iff_ne.mpr c7
   have H' := Aside0.mk H
   clear H
   have hnb12 := NB105_106.out
   have hnc12 := NB106_105.out
   have hcz13_0 : w5.cell? ⟨gb105, 0, none⟩ = some (.slice A0_0 l0_0.length c0_0) := (blk_cell BK105.out 0).trans rfl
   have hcz13_1 : w5.cell? ⟨gb105, 1, none⟩ = some (.int .i64 a0_1) := (blk_cell BK105.out 1).trans rfl
   have hcz13_2 : w5.cell? ⟨gb105, 2, none⟩ = some (.int .i64 a0_2) := (blk_cell BK105.out 2).trans rfl
   have hfz13_0 := blk_frozen BK105.out 0
   have hfz13_1 := blk_frozen BK105.out 1
   have hfz13_2 := blk_frozen BK105.out 2
   have hcz14_0 : w5.cell? ⟨gb106, 0, none⟩ = some (.slice A1_0 l1_0.length c1_0) := (blk_cell BK106.out 0).trans rfl
   have hcz14_1 : w5.cell? ⟨gb106, 1, none⟩ = some (.int .i64 a1_1) := (blk_cell BK106.out 1).trans rfl
   have hcz14_2 : w5.cell? ⟨gb106, 2, none⟩ = some (.int .i64 a1_2) := (blk_cell BK106.out 2).trans rfl
   have hfz14_0 := blk_frozen BK106.out 0
   have hfz14_1 := blk_frozen BK106.out 1
   have hfz14_2 := blk_frozen BK106.out 2
   go_wp2
   go_meet
   case rel => exact ⟨_, (false), ts34_, H', ⟨ts1_⟩, ⟨ts17_ BK105.out⟩, ⟨ts17_ BK106.out⟩, ⟨ts27_ HB.out GE105.out GE106.out⟩⟩
  rw [if_neg c6] at H
  have c6b0 : (a0_1 == a1_1) = false := beq_eq_false_iff_ne.mpr c6
  have c6b1 : (a0_1 != a1_1) = true := bne_iff_ne.mpr c6
  (first | rw [c6b0] | (simp only [i64_w, i32_w]; rw [c6b0]) | skip)
  have H' := Aside0.mk H
  clear H
  have hnb15 := NB105_106.out
  have hnc15 := NB106_105.out
  have hcz16_0 : w5.cell? ⟨gb105, 0, none⟩ = some (.slice A0_0 l0_0.length c0_0) := (blk_cell BK105.out 0).trans rfl
  have hcz16_1 : w5.cell? ⟨gb105, 1, none⟩ = some (.int .i64 a0_1) := (blk_cell BK105.out 1).trans rfl
  have hcz16_2 : w5.cell? ⟨gb105, 2, none⟩ = some (.int .i64 a0_2) := (blk_cell BK105.out 2).trans rfl
  have hfz16_0 := blk_frozen BK105.out 0
  have hfz16_1 := blk_frozen BK105.out 1
  have hfz16_2 := blk_frozen BK105.out 2
  have hcz17_0 : w5.cell? ⟨gb106, 0, none⟩ = some (.slice A1_0 l1_0.length c1_0) := (blk_cell BK106.out 0).trans rfl
  have hcz17_1 : w5.cell? ⟨gb106, 1, none⟩ = some (.int .i64 a1_1) := (blk_cell BK106.out 1).trans rfl
  have hcz17_2 : w5.cell? ⟨gb106, 2, none⟩ = some (.int .i64 a1_2) := (blk_cell BK106.out 2).trans rfl
  have hfz17_0 := blk_frozen BK106.out 0
  have hfz17_1 := blk_frozen BK106.out 1
  have hfz17_2 := blk_frozen BK106.out 2
  go_wp2
  go_meet
  case rel => exact ⟨_, (false), ts34_, H', ⟨ts1_⟩, ⟨ts17_ BK105.out⟩, ⟨ts17_ BK106.out⟩, ⟨ts27_ HB.out GE105.out GE106.out⟩⟩
 case rest =>
  clear HC3
  try clear c1
  try clear p2
  try clear c3
  try clear c6
  try clear c6b0
  try clear c6b1
  try clear c7
  try clear c7b0
  try clear c7b1
  try clear c9
  try clear c12
  try clear c15
  try clear hcz10_0
  try clear hcz10_1
  try clear hcz10_2
  try clear hcz11_0
  try clear hcz11_1
  try clear hcz11_2
  try clear hcz13_0
  try clear hcz13_1
  try clear hcz13_2
  try clear hcz14_0
  try clear hcz14_1
  try clear hcz14_2
  try clear hcz16_0
  try clear hcz16_1
  try clear hcz16_2
  try clear hcz17_0
  try clear hcz17_1
  try clear hcz17_2
  try clear hfz10_0
  try clear hfz10_1
  try clear hfz10_2
  try clear hfz11_0
  try clear hfz11_1
  try clear hfz11_2
  try clear hfz13_0
  try clear hfz13_1
  try clear hfz13_2
  try clear hfz14_0
  try clear hfz14_1
  try clear hfz14_2
  try clear hfz16_0
  try clear hfz16_1
  try clear hfz16_2
  try clear hfz17_0
  try clear hfz17_1
  try clear hfz17_2
  obtain ⟨kq, x24_2, rfl, HA, HJ2, BK105, BK106, HB⟩ := hcut
  cases kq with
  | zero => exact absurd HA.out (by simp [irsem_Agree.j0])
  | succ kj2 =>
   have H := HA.out
   clear HA
   simp only [irsem_Agree.j0] at H
   by_cases c18 : x24_2 = true
   ·subst c18
    rw [if_pos rfl] at H
    obtain rfl := Option.some.inj H
    go_wp2
    go_ret
    exact ⟨ts30_, ts27_ HB.out GE105.out GE106.out⟩
   replace c18 := Bool.eq_false_iff.mpr c18
   subst c18
   rw [if_neg Bool.false_ne_true] at H
   by_cases c19 : a0_1 = 4
   ·rw [if_pos c19] at H
    have c19b0 : (a0_1 == 4) = true := beq_iff_eq.mpr c19
    have c19b1 : (a0_1 != 4) = false := bne_eq_false_iff_eq.mpr c19
    clear c19
    obtain ⟨t108, A20, H⟩ := bsA_ H
    try dsimp only at H
    by_cases c21 : t108 = true
    ·subst c21
     rw [if_pos rfl] at H
     obtain rfl := Option.some.inj H
     have hnb22 := NB105_106.out
     have hnc22 := NB106_105.out
     have hcz23_0 : wc.cell? ⟨gb105, 0, none⟩ = some (.slice A0_0 l0_0.length c0_0) := (blk_cell BK105.out 0).trans rfl
     have hcz23_1 : wc.cell? ⟨gb105, 1, none⟩ = some (.int .i64 a0_1) := (blk_cell BK105.out 1).trans rfl
     have hcz23_2 : wc.cell? ⟨gb105, 2, none⟩ = some (.int .i64 a0_2) := (blk_cell BK105.out 2).trans rfl
     have hfz23_0 := blk_frozen BK105.out 0
     have hfz23_1 := blk_frozen BK105.out 1
     have hfz23_2 := blk_frozen BK105.out 2
     have hcz24_0 : wc.cell? ⟨gb106, 0, none⟩ = some (.slice A1_0 l1_0.length c1_0) := (blk_cell BK106.out 0).trans rfl
     have hcz24_1 : wc.cell? ⟨gb106, 1, none⟩ = some (.int .i64 a1_1) := (blk_cell BK106.out 1).trans rfl
     have hcz24_2 : wc.cell? ⟨gb106, 2, none⟩ = some (.int .i64 a1_2) := (blk_cell BK106.out 2).trans rfl
     have hfz24_0 := blk_frozen BK106.out 0
     have hfz24_1 := blk_frozen BK106.out 1
     have hfz24_2 := blk_frozen BK106.out 2
     go_wp2_with (first | (go_at_call 52; (with_reducible refine (irsem_Agree_1.calls kj2 _ _ l0_0 _ _ l1_0 true _ ?side1 ?side2 ?side3 ?side4 A20.out).mono ?_); (case side1 => exact ts9_ HR0_0.out HB.out); (case side2 => exact HC0_0.out); (case side3 => exact ts9_ HR1_0.out HB.out); (case side4 => exact HC1_0.out); rintro e w' ⟨rfl, ⟨nd, rfl⟩⟩))
     go_ret
     exact ⟨ts30_, ts27_ HB.out GE105.out GE106.out⟩
    replace c21 := Bool.eq_false_iff.mpr c21
    subst c21
    rw [if_neg Bool.false_ne_true] at H
    by_cases c25 : a1_1 = 4
    ·rw [if_pos c25] at H
     have c25b0 : (a1_1 == 4) = true := beq_iff_eq.mpr c25
     have c25b1 : (a1_1 != 4) = false := bne_eq_false_iff_eq.mpr c25
     clear c25
     obtain ⟨t109, A26, H⟩ := bsA_ H
     try dsimp only at H
     obtain rfl := Option.some.inj H
     have hnb27 := NB105_106.out
     have hnc27 := NB106_105.out
     have hcz28_0 : wc.cell? ⟨gb105, 0, none⟩ = some (.slice A0_0 l0_0.length c0_0) := (blk_cell BK105.out 0).trans rfl
     have hcz28_1 : wc.cell? ⟨gb105, 1, none⟩ = some (.int .i64 a0_1) := (blk_cell BK105.out 1).trans rfl
     have hcz28_2 : wc.cell? ⟨gb105, 2, none⟩ = some (.int .i64 a0_2) := (blk_cell BK105.out 2).trans rfl
     have hfz28_0 := blk_frozen BK105.out 0
     have hfz28_1 := blk_frozen BK105.out 1
     have hfz28_2 := blk_frozen BK105.out 2
     have hcz29_0 : wc.cell? ⟨gb106, 0, none⟩ = some (.slice A1_0 l1_0.length c1_0) := (blk_cell BK106.out 0).trans rfl
     have hcz29_1 : wc.cell? ⟨gb106, 1, none⟩ = some (.int .i64 a1_1) := (blk_cell BK106.out 1).trans rfl
     have hcz29_2 : wc.cell? ⟨gb106, 2, none⟩ = some (.int .i64 a1_2) := (blk_cell BK106.out 2).trans rfl
     have hfz29_0 := blk_frozen BK106.out 0
     have hfz29_1 := blk_frozen BK106.out 1
     have hfz29_2 := blk_frozen BK106.out 2
     go_wp2_with (first | (go_at_call 52; (with_reducible refine (irsem_Agree_1.calls kj2 _ _ l0_0 _ _ l1_0 false _ ?side1 ?side2 ?side3 ?side4 A20.out).mono ?_); (case side1 => exact ts9_ HR0_0.out HB.out); (case side2 => exact HC0_0.out); (case side3 => exact ts9_ HR1_0.out HB.out); (case side4 => exact HC1_0.out); rintro e w' ⟨rfl, ⟨nd, rfl⟩⟩) | (go_at_call 52; (with_reducible refine (irsem_Agree_1.calls kj2 _ _ l1_0 _ _ l0_0 t109 _ ?side1 ?side2 ?side3 ?side4 A26.out).mono ?_); (case side1 => exact ts44_ HR1_0.out HB.out GE105.out GE106.out); (case side2 => exact HC1_0.out); (case side3 => exact ts44_ HR0_0.out HB.out GE105.out GE106.out); (case side4 => exact HC0_0.out); rintro e w' ⟨rfl, ⟨nd, rfl⟩⟩))
     go_ret
     exact ⟨ts30_, ts27_ HB.out GE105.out GE106.out⟩
    rw [if_neg c25] at H
    have c25b0 : (a1_1 == 4) = false := beq_eq_false_iff_ne.mpr c25
    have c25b1 : (a1_1 != 4) = true := bne_iff_ne.mpr c25
    obtain rfl := Option.some.inj H
    have hnb30 := NB105_106.out
    have hnc30 := NB106_105.out
    have hcz31_0 : wc.cell? ⟨gb105, 0, none⟩ = some (.slice A0_0 l0_0.length c0_0) := (blk_cell BK105.out 0).trans rfl
    have hcz31_1 : wc.cell? ⟨gb105, 1, none⟩ = some (.int .i64 a0_1) := (blk_cell BK105.out 1).trans rfl
    have hcz31_2 : wc.cell? ⟨gb105, 2, none⟩ = some (.int .i64 a0_2) := (blk_cell BK105.out 2).trans rfl
    have hfz31_0 := blk_frozen BK105.out 0
    have hfz31_1 := blk_frozen BK105.out 1
    have hfz31_2 := blk_frozen BK105.out 2
    have hcz32_0 : wc.cell? ⟨gb106, 0, none⟩ = some (.slice A1_0 l1_0.length c1_0) := (blk_cell BK106.out 0).trans rfl
    have hcz32_1 : wc.cell? ⟨gb106, 1, none⟩ = some (.int .i64 a1_1) := (blk_cell BK106.out 1).trans rfl
    have hcz32_2 : wc.cell? ⟨gb106, 2, none⟩ = some (.int .i64 a1_2) := (blk_cell BK106.out 2).trans rfl
    have hfz32_0 := blk_frozen BK106.out 0
    have hfz32_1 := blk_frozen BK106.out 1
    have hfz32_2 := blk_frozen BK106.out 2
    go_wp2_with (first | (go_at_call 52; (with_reducible refine (irsem_Agree_1.calls kj2 _ _ l0_0 _ _ l1_0 false _ ?side1 ?side2 ?side3 ?side4 A20.out).mono ?_); (case side1 => exact ts9_ HR0_0.out HB.out); (case side2 => exact HC0_0.out); (case side3 => exact ts9_ HR1_0.out HB.out); (case side4 => exact HC1_0.out); rintro e w' ⟨rfl, ⟨nd, rfl⟩⟩))
    go_ret
    exact ⟨ts30_, ts27_ HB.out GE105.out GE106.out⟩
   rw [if_neg c19] at H
   have c19b0 : (a0_1 == 4) = false := beq_eq_false_iff_ne.mpr c19
   have c19b1 : (a0_1 != 4) = true := bne_iff_ne.mpr c19
   by_cases c33 : a1_1 = 4
   ·rw [if_pos c33] at H
    have c33b0 : (a1_1 == 4) = true := beq_iff_eq.mpr c33
    have c33b1 : (a1_1 != 4) = false := bne_eq_false_iff_eq.mpr c33
    clear c33
    obtain ⟨t110, A34, H⟩ := bsA_ H
    try dsimp only at H
    obtain rfl := Option.some.inj H
    have hnb35 := NB105_106.out
    have hnc35 := NB106_105.out
    have hcz36_0 : wc.cell? ⟨gb105, 0, none⟩ = some (.slice A0_0 l0_0.length c0_0) := (blk_cell BK105.out 0).trans rfl
    have hcz36_1 : wc.cell? ⟨gb105, 1, none⟩ = some (.int .i64 a0_1) := (blk_cell BK105.out 1).trans rfl
    have hcz36_2 : wc.cell? ⟨gb105, 2, none⟩ = some (.int .i64 a0_2) := (blk_cell BK105.out 2).trans rfl
    have hfz36_0 := blk_frozen BK105.out 0
    have hfz36_1 := blk_frozen BK105.out 1
    have hfz36_2 := blk_frozen BK105.out 2
    have hcz37_0 : wc.cell? ⟨gb106, 0, none⟩ = some (.slice A1_0 l1_0.length c1_0) := (blk_cell BK106.out 0).trans rfl
    have hcz37_1 : wc.cell? ⟨gb106, 1, none⟩ = some (.int .i64 a1_1) := (blk_cell BK106.out 1).trans rfl
    have hcz37_2 : wc.cell? ⟨gb106, 2, none⟩ = some (.int .i64 a1_2) := (blk_cell BK106.out 2).trans rfl
    have hfz37_0 := blk_frozen BK106.out 0
    have hfz37_1 := blk_frozen BK106.out 1
    have hfz37_2 := blk_frozen BK106.out 2
    go_wp2_with (first | (go_at_call 52; (with_reducible refine (irsem_Agree_1.calls kj2 _ _ l1_0 _ _ l0_0 t110 _ ?side1 ?side2 ?side3 ?side4 A34.out).mono ?_); (case side1 => exact ts9_ HR1_0.out HB.out); (case side2 => exact HC1_0.out); (case side3 => exact ts9_ HR0_0.out HB.out); (case side4 => exact HC0_0.out); rintro e w' ⟨rfl, ⟨nd, rfl⟩⟩))
    go_ret
    exact ⟨ts30_, ts27_ HB.out GE105.out GE106.out⟩
   rw [if_neg c33] at H
   have c33b0 : (a1_1 == 4) = false := beq_eq_false_iff_ne.mpr c33
   have c33b1 : (a1_1 != 4) = true := bne_iff_ne.mpr c33
   obtain rfl := Option.some.inj H
   have hnb38 := NB105_106.out
   have hnc38 := NB106_105.out
   have hcz39_0 : wc.cell? ⟨gb105, 0, none⟩ = some (.slice A0_0 l0_0.length c0_0) := (blk_cell BK105.out 0).trans rfl
   have hcz39_1 : wc.cell? ⟨gb105, 1, none⟩ = some (.int .i64 a0_1) := (blk_cell BK105.out 1).trans rfl
   have hcz39_2 : wc.cell? ⟨gb105, 2, none⟩ = some (.int .i64 a0_2) := (blk_cell BK105.out 2).trans rfl
   have hfz39_0 := blk_frozen BK105.out 0
   have hfz39_1 := blk_frozen BK105.out 1
   have hfz39_2 := blk_frozen BK105.out 2
   have hcz40_0 : wc.cell? ⟨gb106, 0, none⟩ = some (.slice A1_0 l1_0.length c1_0) := (blk_cell BK106.out 0).trans rfl
   have hcz40_1 : wc.cell? ⟨gb106, 1, none⟩ = some (.int .i64 a1_1) := (blk_cell BK106.out 1).trans rfl
   have hcz40_2 : wc.cell? ⟨gb106, 2, none⟩ = some (.int .i64 a1_2) := (blk_cell BK106.out 2).trans rfl
   have hfz40_0 := blk_frozen BK106.out 0
   have hfz40_1 := blk_frozen BK106.out 1
   have hfz40_2 := blk_frozen BK106.out 2
   go_wp2
   go_ret
   exact ⟨ts30_, ts27_ HB.out GE105.out GE106.out⟩
/-! ### observe_kind: function 38 -/
def observe_kind.l0 : Nat → Int → Int → Int → List Int → Int → Int → List Int → Int → Int → Option (Int × Int)
 | 0, _, _, _, _, _, _, _, _, _ => none
 | k + 1, x6, x15, x16, x112000, x112001, x112002, x113000, x113001, x113002 => if x16 < x15 then (if 0 ≤ x16 then (if x16 < (x112000.length : Int) then (if x16 < (x113000.length : Int) then (if (rd x112000 x16) = (rd x113000 x16) then (observe_kind.l0 k x6 x15 (wrap64 (x16 + 1)) x112000 x112001 x112002 x113000 x113001 x113002) else (some (1, x16))) else (none)) else (none)) else (none)) else (if (x112000.length : Int) = (x113000.length : Int) then (if x112001 = x113001 then (some (4, x6)) else (some (3, x6))) else (some (2, x6)))
def observe_kind.f (k : Nat) (l0_0 : List Int) (a0_1 : Int) (a0_2 : Int) (l1_0 : List Int) (a1_1 : Int) (a1_2 : Int) : Option (Int × Int) := observe_kind.l0 k (mn (l0_0.length : Int) (l1_0.length : Int)) (mn (l0_0.length : Int) (l1_0.length : Int)) 0 l0_0 a0_1 a0_2 l1_0 a1_1 a1_2
theorem observe_kind.mono_l : ∀ k, (∀ y0 y1 y2 y3 y4 y5 y6 y7 y8, LeO (observe_kind.l0 k y0 y1 y2 y3 y4 y5 y6 y7 y8) (observe_kind.l0 (k + 1) y0 y1 y2 y3 y4 y5 y6 y7 y8))
 | 0 => fun _ _ _ _ _ _ _ _ _ r h => by simp [observe_kind.l0] at h
 | k + 1 => by
  have ih0 := observe_kind.mono_l k
  ·intro y0 y1 y2 y3 y4 y5 y6 y7 y8
   unfold observe_kind.l0
   repeat' first
   | (with_reducible exact ih0 _ _ _ _ _ _ _ _ _)
   | (with_reducible exact LeO.refl _)
   | (with_reducible exact LeO.none _)
   | (with_reducible refine LeO.ite ?_ ?_)
   | (with_reducible refine LeO.bind ?_ (fun _ => ?_))
   | exact LeO.none _
   | refine LeO.ite ?_ ?_
   | refine LeO.bind ?_ (fun _ => ?_)
theorem observe_kind.mono : ∀ a0 a1 a2 a3 a4 a5 k, LeO (observe_kind.f k a0 a1 a2 a3 a4 a5) (observe_kind.f (k + 1) a0 a1 a2 a3 a4 a5) := by
 intro a0 a1 a2 a3 a4 a5 k
 have ih0 := observe_kind.mono_l k
 unfold observe_kind.f
 repeat' first
   | (with_reducible exact ih0 _ _ _ _ _ _ _ _ _)
   | (with_reducible exact LeO.refl _)
   | (with_reducible exact LeO.none _)
   | (with_reducible refine LeO.ite ?_ ?_)
   | (with_reducible refine LeO.bind ?_ (fun _ => ?_))
   | exact LeO.none _
   | refine LeO.ite ?_ ?_
   | refine LeO.bind ?_ (fun _ => ?_)
theorem observe_kind.calls (k : Nat) (A0_0 : Option Addr) (c0_0 : Nat) (l0_0 : List Int) (a0_1 : Int) (a0_2 : Int) (A1_0 : Option Addr) (c1_0 : Nat) (l1_0 : List Int) (a1_1 : Int) (a1_2 : Int) (r1 : Int) (r2 : Int) (w : World) (hr0_0 : Kd.C (Kd.int .i64) w A0_0 l0_0.length l0_0) (hc0_0 : l0_0.length ≤ c0_0) (hr1_0 : Kd.C (Kd.int .i64) w A1_0 l1_0.length l1_0) (hc1_0 : l1_0.length ≤ c1_0) (h : observe_kind.f k l0_0 a0_1 a0_2 l1_0 a1_1 a1_2 = some (r1, r2)) :
  Calls Tryd.prog 38 #[.agg #[.slice A0_0 l0_0.length c0_0, .int .i64 a0_1, .int .i64 a0_2], .agg #[.slice A1_0 l1_0.length c1_0, .int .i64 a1_1, .int .i64 a1_2]] w fun e w' => e = .returned (.tuple #[.int .i64 r1, .int .i64 r2]) ∧ Below w.heap.size w w' := by
 have hu43 := Tryd.underlying43
 have HR0_0 := Aside0.mk hr0_0
 have HC0_0 := Aside0.mk hc0_0
 clear hr0_0 hc0_0
 have HR1_0 := Aside0.mk hr1_0
 have HC1_0 := Aside0.mk hc1_0
 clear hr1_0 hc1_0
 have HB := Aside0.mk (Below.refl w.heap.size w)
 have H : (observe_kind.l0 k (mn (l0_0.length : Int) (l1_0.length : Int)) (mn (l0_0.length : Int) (l1_0.length : Int)) 0 l0_0 a0_1 a0_2 l1_0 a1_1 a1_2) = some (r1, r2) := h
 clear h
 obtain ⟨ji3, hji3⟩ : ∃ j_ : Int, (mn (l0_0.length : Int) (l1_0.length : Int)) = j_ := ⟨_, rfl⟩
 replace H : (observe_kind.l0 k ji3 ji3 0 l0_0 a0_1 a0_2 l1_0 a1_1 a1_2) = some (r1, r2) := by first | (rw [hji3] at H; exact H) | (simp only [hji3] at H ⊢; exact H)
 (try (have hji3l : 0 ≤ ji3 := by (rw [← hji3]; unfold mn; (repeat' split) <;> omega)))
 (try (have hji3m : 0 ≤ ji3 := by omega))
 have hji3_ : (if (l1_0.length : Int) < (l0_0.length : Int) then (l1_0.length : Int) else (l0_0.length : Int)) = ji3 := hji3
 have hji3_n : (if l1_0.length < l0_0.length then (l1_0.length : Int) else (l0_0.length : Int)) = ji3 := by rw [← hji3_]; simp only [Int.ofNat_lt]
 have hji3_n : (if l1_0.length < l0_0.length then (l1_0.length : Int) else (l0_0.length : Int)) = ji3 := by rw [← hji3_]; simp only [Int.ofNat_lt]
 have H' := Aside0.mk H
 clear H
 go_enter Tryd.func38, Tryd.ntmps38
 go_wp2_with (first | ((with_reducible refine gate_dst (N := 2) rfl ?_); refine box_event ?hg (N := 2) ?hd (cs := #[.slice A0_0 l0_0.length c0_0, .int .i64 a0_1, .int .i64 a0_2]) (t := 43) ?hr ?_; (case hd => rfl); (case hg => rfl); (case hr => exact ts18_); intro gb111 hg w4 hbox hb; have BK111 := Aside0.mk (hbox); have GW111 := Aside0.mk ((ts51_ HB.out : w.heap.size ≤ gb111)); have GE111 := Aside0.mk ((ts51_ HB.out : w.heap.size ≤ gb111)); replace HB := Aside0.mk (below_step (ts35_ HB.out) hb); clear hb hbox hg) | ((with_reducible refine gate_dst (N := 3) rfl ?_); refine box_event ?hg (N := 3) ?hd (cs := #[.slice A1_0 l1_0.length c1_0, .int .i64 a1_1, .int .i64 a1_2]) (t := 43) ?hr ?_; (case hd => rfl); (case hg => rfl); (case hr => exact ts18_); intro gb112 hg w5 hbox hb; have BK112 := Aside0.mk (hbox); have GW112 := Aside0.mk ((ts45_ HB.out GE111.out : w.heap.size ≤ gb112)); have GE112 := Aside0.mk ((ts45_ HB.out GE111.out : w.heap.size ≤ gb112)); replace HB := Aside0.mk (below_step (ts20_ HB.out GE111.out) hb); have NB111_112 := Aside0.mk ((ts57_ BK111.out : gb111 ≠ gb112)); have NB112_111 := Aside0.mk ((ts46_ BK111.out : gb112 ≠ gb111)); replace BK111 := Aside0.mk (blk_below (g := gb111) (o := .cells #[.slice A0_0 l0_0.length c0_0, .int .i64 a0_1, .int .i64 a0_2] 43 (0, 0)) (ts17_ BK111.out) hb); clear hb hbox hg; have hnb6 := NB111_112.out; have hnc6 := NB112_111.out; have hcz7_0 : w5.cell? ⟨gb111, 0, none⟩ = some (.slice A0_0 l0_0.length c0_0) := (blk_cell BK111.out 0).trans rfl; have hcz7_1 : w5.cell? ⟨gb111, 1, none⟩ = some (.int .i64 a0_1) := (blk_cell BK111.out 1).trans rfl; have hcz7_2 : w5.cell? ⟨gb111, 2, none⟩ = some (.int .i64 a0_2) := (blk_cell BK111.out 2).trans rfl; have hfz7_0 := blk_frozen BK111.out 0; have hfz7_1 := blk_frozen BK111.out 1; have hfz7_2 := blk_frozen BK111.out 2; have hcz8_0 : w5.cell? ⟨gb112, 0, none⟩ = some (.slice A1_0 l1_0.length c1_0) := (blk_cell BK112.out 0).trans rfl; have hcz8_1 : w5.cell? ⟨gb112, 1, none⟩ = some (.int .i64 a1_1) := (blk_cell BK112.out 1).trans rfl; have hcz8_2 : w5.cell? ⟨gb112, 2, none⟩ = some (.int .i64 a1_2) := (blk_cell BK112.out 2).trans rfl; have hfz8_0 := blk_frozen BK112.out 0; have hfz8_1 := blk_frozen BK112.out 1; have hfz8_2 := blk_frozen BK112.out 2))
 repeat (go_quiet (first | ((with_reducible refine gate_dst (N := 2) rfl ?_); refine box_event ?hg (N := 2) ?hd (cs := #[.slice A0_0 l0_0.length c0_0, .int .i64 a0_1, .int .i64 a0_2]) (t := 43) ?hr ?_; (case hd => rfl); (case hg => rfl); (case hr => exact ts18_); intro gb111 hg w4 hbox hb; have BK111 := Aside0.mk (hbox); have GW111 := Aside0.mk ((ts51_ HB.out : w.heap.size ≤ gb111)); have GE111 := Aside0.mk ((ts51_ HB.out : w.heap.size ≤ gb111)); replace HB := Aside0.mk (below_step (ts35_ HB.out) hb); clear hb hbox hg) | ((with_reducible refine gate_dst (N := 3) rfl ?_); refine box_event ?hg (N := 3) ?hd (cs := #[.slice A1_0 l1_0.length c1_0, .int .i64 a1_1, .int .i64 a1_2]) (t := 43) ?hr ?_; (case hd => rfl); (case hg => rfl); (case hr => exact ts18_); intro gb112 hg w5 hbox hb; have BK112 := Aside0.mk (hbox); have GW112 := Aside0.mk ((ts45_ HB.out GE111.out : w.heap.size ≤ gb112)); have GE112 := Aside0.mk ((ts45_ HB.out GE111.out : w.heap.size ≤ gb112)); replace HB := Aside0.mk (below_step (ts20_ HB.out GE111.out) hb); have NB111_112 := Aside0.mk ((ts57_ BK111.out : gb111 ≠ gb112)); have NB112_111 := Aside0.mk ((ts46_ BK111.out : gb112 ≠ gb111)); replace BK111 := Aside0.mk (blk_below (g := gb111) (o := .cells #[.slice A0_0 l0_0.length c0_0, .int .i64 a0_1, .int .i64 a0_2] 43 (0, 0)) (ts17_ BK111.out) hb); clear hb hbox hg; have hnb6 := NB111_112.out; have hnc6 := NB112_111.out; have hcz7_0 : w5.cell? ⟨gb111, 0, none⟩ = some (.slice A0_0 l0_0.length c0_0) := (blk_cell BK111.out 0).trans rfl; have hcz7_1 : w5.cell? ⟨gb111, 1, none⟩ = some (.int .i64 a0_1) := (blk_cell BK111.out 1).trans rfl; have hcz7_2 : w5.cell? ⟨gb111, 2, none⟩ = some (.int .i64 a0_2) := (blk_cell BK111.out 2).trans rfl; have hfz7_0 := blk_frozen BK111.out 0; have hfz7_1 := blk_frozen BK111.out 1; have hfz7_2 := blk_frozen BK111.out 2; have hcz8_0 : w5.cell? ⟨gb112, 0, none⟩ = some (.slice A1_0 l1_0.length c1_0) := (blk_cell BK112.out 0).trans rfl; have hcz8_1 : w5.cell? ⟨gb112, 1, none⟩ = some (.int .i64 a1_1) := (blk_cell BK112.out 1).trans rfl; have hcz8_2 : w5.cell? ⟨gb112, 2, none⟩ = some (.int .i64 a1_2) := (blk_cell BK112.out 2).trans rfl; have hfz8_0 := blk_frozen BK112.out 0; have hfz8_1 := blk_frozen BK112.out 1; have hfz8_2 := blk_frozen BK112.out 2)); try go_wp2_with (first | ((with_reducible refine gate_dst (N := 2) rfl ?_); refine box_event ?hg (N := 2) ?hd (cs := #[.slice A0_0 l0_0.length c0_0, .int .i64 a0_1, .int .i64 a0_2]) (t := 43) ?hr ?_; (case hd => rfl); (case hg => rfl); (case hr => exact ts18_); intro gb111 hg w4 hbox hb; have BK111 := Aside0.mk (hbox); have GW111 := Aside0.mk ((ts51_ HB.out : w.heap.size ≤ gb111)); have GE111 := Aside0.mk ((ts51_ HB.out : w.heap.size ≤ gb111)); replace HB := Aside0.mk (below_step (ts35_ HB.out) hb); clear hb hbox hg) | ((with_reducible refine gate_dst (N := 3) rfl ?_); refine box_event ?hg (N := 3) ?hd (cs := #[.slice A1_0 l1_0.length c1_0, .int .i64 a1_1, .int .i64 a1_2]) (t := 43) ?hr ?_; (case hd => rfl); (case hg => rfl); (case hr => exact ts18_); intro gb112 hg w5 hbox hb; have BK112 := Aside0.mk (hbox); have GW112 := Aside0.mk ((ts45_ HB.out GE111.out : w.heap.size ≤ gb112)); have GE112 := Aside0.mk ((ts45_ HB.out GE111.out : w.heap.size ≤ gb112)); replace HB := Aside0.mk (below_step (ts20_ HB.out GE111.out) hb); have NB111_112 := Aside0.mk ((ts57_ BK111.out : gb111 ≠ gb112)); have NB112_111 := Aside0.mk ((ts46_ BK111.out : gb112 ≠ gb111)); replace BK111 := Aside0.mk (blk_below (g := gb111) (o := .cells #[.slice A0_0 l0_0.length c0_0, .int .i64 a0_1, .int .i64 a0_2] 43 (0, 0)) (ts17_ BK111.out) hb); clear hb hbox hg; have hnb6 := NB111_112.out; have hnc6 := NB112_111.out; have hcz7_0 : w5.cell? ⟨gb111, 0, none⟩ = some (.slice A0_0 l0_0.length c0_0) := (blk_cell BK111.out 0).trans rfl; have hcz7_1 : w5.cell? ⟨gb111, 1, none⟩ = some (.int .i64 a0_1) := (blk_cell BK111.out 1).trans rfl; have hcz7_2 : w5.cell? ⟨gb111, 2, none⟩ = some (.int .i64 a0_2) := (blk_cell BK111.out 2).trans rfl; have hfz7_0 := blk_frozen BK111.out 0; have hfz7_1 := blk_frozen BK111.out 1; have hfz7_2 := blk_frozen BK111.out 2; have hcz8_0 : w5.cell? ⟨gb112, 0, none⟩ = some (.slice A1_0 l1_0.length c1_0) := (blk_cell BK112.out 0).trans rfl; have hcz8_1 : w5.cell? ⟨gb112, 1, none⟩ = some (.int .i64 a1_1) := (blk_cell BK112.out 1).trans rfl; have hcz8_2 : w5.cell? ⟨gb112, 2, none⟩ = some (.int .i64 a1_2) := (blk_cell BK112.out 2).trans rfl; have hfz8_0 := blk_frozen BK112.out 0; have hfz8_1 := blk_frozen BK112.out 1; have hfz8_2 := blk_frozen BK112.out 2)))
 go_loopg [16] k (fun kq v16 w' => ∃ (x16_1 : Int), v16 = .int .i64 x16_1 ∧ Aside0 (observe_kind.l0 kq ji3 ji3 x16_1 l0_0 a0_1 a0_2 l1_0 a1_1 a1_2 = some (r1, r2)) ∧ Aside0 (kq ≤ k) ∧ Aside0 (w'.heap[gb111]? = some (.cells #[(.slice A0_0 l0_0.length c0_0), .int .i64 a0_1, .int .i64 a0_2] 43 (0, 0))) ∧ Aside0 (w'.heap[gb112]? = some (.cells #[(.slice A1_0 l1_0.length c1_0), .int .i64 a1_1, .int .i64 a1_2] 43 (0, 0))) ∧ Aside0 (Below w.heap.size w w'))
 case atStart => exact ⟨(0), ts34_, H', ⟨Nat.le_refl _⟩, ⟨ts17_ BK111.out⟩, ⟨ts17_ BK112.out⟩, ⟨ts27_ HB.out GE111.out GE112.out⟩⟩
 case round =>
  clear H'
  try clear c1
  try clear p2
  try clear c3
  try clear c6
  try clear hcz7_0
  try clear hcz7_1
  try clear hcz7_2
  try clear hcz8_0
  try clear hcz8_1
  try clear hcz8_2
  try clear hfz7_0
  try clear hfz7_1
  try clear hfz7_2
  try clear hfz8_0
  try clear hfz8_1
  try clear hfz8_2
  obtain ⟨x16_1, rfl, HA, HK1, BK111, BK112, HB⟩ := hrel
  cases gk with
  | zero => exact absurd HA.out (by simp [observe_kind.l0])
  | succ k1 =>
   have H := HA.out
   clear HA
   simp only [observe_kind.l0] at H
   by_cases c9 : x16_1 < ji3
   ·rw [if_pos c9] at H
    have c9b0 : decide (x16_1 < ji3) = true := decide_eq_true c9
    clear c9
    by_cases c10 : 0 ≤ x16_1
    ·rw [if_pos c10] at H
     have c10b0 : decide (0 ≤ x16_1) = true := decide_eq_true c10
     clear c10
     by_cases c11 : x16_1 < (l0_0.length : Int)
     ·rw [if_pos c11] at H
      have c11b0 : decide (x16_1 < (l0_0.length : Int)) = true := decide_eq_true c11
      clear c11
      by_cases c12 : x16_1 < (l1_0.length : Int)
      ·rw [if_pos c12] at H
       have c12b0 : decide (x16_1 < (l1_0.length : Int)) = true := decide_eq_true c12
       clear c12
       by_cases c13 : (rd l0_0 x16_1) = (rd l1_0 x16_1)
       ·rw [if_pos c13] at H
        have c13b0 : ((rd l0_0 x16_1) == (rd l1_0 x16_1)) = true := beq_iff_eq.mpr c13
        have c13b1 : ((rd l0_0 x16_1) != (rd l1_0 x16_1)) = false := bne_eq_false_iff_eq.mpr c13
        clear c13
        have H' := Aside0.mk H
        clear H
        have hnb14 := NB111_112.out
        have hnc14 := NB112_111.out
        have hcz15_0 : wr.cell? ⟨gb111, 0, none⟩ = some (.slice A0_0 l0_0.length c0_0) := (blk_cell BK111.out 0).trans rfl
        have hcz15_1 : wr.cell? ⟨gb111, 1, none⟩ = some (.int .i64 a0_1) := (blk_cell BK111.out 1).trans rfl
        have hcz15_2 : wr.cell? ⟨gb111, 2, none⟩ = some (.int .i64 a0_2) := (blk_cell BK111.out 2).trans rfl
        have hfz15_0 := blk_frozen BK111.out 0
        have hfz15_1 := blk_frozen BK111.out 1
        have hfz15_2 := blk_frozen BK111.out 2
        have p113 : 0 ≤ (x16_1 : Int) := of_decide_eq_true ts26_
        have q113 : x16_1 < (l0_0.length : Int) := of_decide_eq_true ts26_
        obtain ⟨ad113, e113, hx113_0⟩ := Kd.at_int HR0_0.out x16_1 p113 q113
        cases e113
        replace hx113_0 := (HB.out.cell (World.block_lt_of_cell? w _ hx113_0)).trans hx113_0
        replace p113 := eq_true p113
        replace q113 := eq_true q113
        have hcz16_0 : wr.cell? ⟨gb112, 0, none⟩ = some (.slice A1_0 l1_0.length c1_0) := (blk_cell BK112.out 0).trans rfl
        have hcz16_1 : wr.cell? ⟨gb112, 1, none⟩ = some (.int .i64 a1_1) := (blk_cell BK112.out 1).trans rfl
        have hcz16_2 : wr.cell? ⟨gb112, 2, none⟩ = some (.int .i64 a1_2) := (blk_cell BK112.out 2).trans rfl
        have hfz16_0 := blk_frozen BK112.out 0
        have hfz16_1 := blk_frozen BK112.out 1
        have hfz16_2 := blk_frozen BK112.out 2
        have p114 : 0 ≤ (x16_1 : Int) := of_decide_eq_true ts26_
        have q114 : x16_1 < (l1_0.length : Int) := of_decide_eq_true ts26_
        obtain ⟨ad114, e114, hx114_0⟩ := Kd.at_int HR1_0.out x16_1 p114 q114
        cases e114
        replace hx114_0 := (HB.out.cell (World.block_lt_of_cell? w _ hx114_0)).trans hx114_0
        replace p114 := eq_true p114
        replace q114 := eq_true q114
        go_wp2
        repeat (go_quiet (fail); try go_wp2)
        go_roundg k1
        case measure => have := HK1.out; omega
        case rel => exact ⟨(wrap64 (x16_1 + 1)), ts34_, H', ⟨by have := HK1.out; omega⟩, ⟨ts17_ BK111.out⟩, ⟨ts17_ BK112.out⟩, ⟨ts27_ HB.out GE111.out GE112.out⟩⟩
       rw [if_neg c13] at H
       have c13b0 : ((rd l0_0 x16_1) == (rd l1_0 x16_1)) = false := beq_eq_false_iff_ne.mpr c13
       have c13b1 : ((rd l0_0 x16_1) != (rd l1_0 x16_1)) = true := bne_iff_ne.mpr c13
       simp only [Option.some.injEq, Prod.mk.injEq] at H
       obtain ⟨rfl, rfl⟩ := H
       have hnb17 := NB111_112.out
       have hnc17 := NB112_111.out
       have hcz18_0 : wr.cell? ⟨gb111, 0, none⟩ = some (.slice A0_0 l0_0.length c0_0) := (blk_cell BK111.out 0).trans rfl
       have hcz18_1 : wr.cell? ⟨gb111, 1, none⟩ = some (.int .i64 a0_1) := (blk_cell BK111.out 1).trans rfl
       have hcz18_2 : wr.cell? ⟨gb111, 2, none⟩ = some (.int .i64 a0_2) := (blk_cell BK111.out 2).trans rfl
       have hfz18_0 := blk_frozen BK111.out 0
       have hfz18_1 := blk_frozen BK111.out 1
       have hfz18_2 := blk_frozen BK111.out 2
       have p113 : 0 ≤ (x16_1 : Int) := of_decide_eq_true ts26_
       have q113 : x16_1 < (l0_0.length : Int) := of_decide_eq_true ts26_
       obtain ⟨ad113, e113, hx113_0⟩ := Kd.at_int HR0_0.out x16_1 p113 q113
       cases e113
       replace hx113_0 := (HB.out.cell (World.block_lt_of_cell? w _ hx113_0)).trans hx113_0
       replace p113 := eq_true p113
       replace q113 := eq_true q113
       have hcz19_0 : wr.cell? ⟨gb112, 0, none⟩ = some (.slice A1_0 l1_0.length c1_0) := (blk_cell BK112.out 0).trans rfl
       have hcz19_1 : wr.cell? ⟨gb112, 1, none⟩ = some (.int .i64 a1_1) := (blk_cell BK112.out 1).trans rfl
       have hcz19_2 : wr.cell? ⟨gb112, 2, none⟩ = some (.int .i64 a1_2) := (blk_cell BK112.out 2).trans rfl
       have hfz19_0 := blk_frozen BK112.out 0
       have hfz19_1 := blk_frozen BK112.out 1
       have hfz19_2 := blk_frozen BK112.out 2
       have p114 : 0 ≤ (x16_1 : Int) := of_decide_eq_true ts26_
       have q114 : x16_1 < (l1_0.length : Int) := of_decide_eq_true ts26_
       obtain ⟨ad114, e114, hx114_0⟩ := Kd.at_int HR1_0.out x16_1 p114 q114
       cases e114
       replace hx114_0 := (HB.out.cell (World.block_lt_of_cell? w _ hx114_0)).trans hx114_0
       replace p114 := eq_true p114
       replace q114 := eq_true q114
       go_wp2
       repeat (go_quiet (fail); try go_wp2)
       go_ret2
       exact ⟨ts23_, ts27_ HB.out GE111.out GE112.out⟩
      rw [if_neg c12] at H
      exact absurd H (by simp)
     rw [if_neg c11] at H
     exact absurd H (by simp)
    rw [if_neg c10] at H
    exact absurd H (by simp)
   rw [if_neg c9] at H
   have c9b0 : decide (x16_1 < ji3) = false := decide_eq_false c9
   clear c9
   by_cases c20 : (l0_0.length : Int) = (l1_0.length : Int)
   ·rw [if_pos c20] at H
    have c20b0 : ((l0_0.length : Int) == (l1_0.length : Int)) = true := beq_iff_eq.mpr c20
    have c20b1 : ((l0_0.length : Int) != (l1_0.length : Int)) = false := bne_eq_false_iff_eq.mpr c20
    have c20b2 : (l0_0.length == l1_0.length) = true := by first | simpa using c20 | (simp at c20 ⊢; omega)
    clear c20
    by_cases c21 : a0_1 = a1_1
    ·rw [if_pos c21] at H
     have c21b0 : (a0_1 == a1_1) = true := beq_iff_eq.mpr c21
     have c21b1 : (a0_1 != a1_1) = false := bne_eq_false_iff_eq.mpr c21
     clear c21
     simp only [Option.some.injEq, Prod.mk.injEq] at H
     obtain ⟨rfl, rfl⟩ := H
     have hnb22 := NB111_112.out
     have hnc22 := NB112_111.out
     have hcz23_0 : wr.cell? ⟨gb111, 0, none⟩ = some (.slice A0_0 l0_0.length c0_0) := (blk_cell BK111.out 0).trans rfl
     have hcz23_1 : wr.cell? ⟨gb111, 1, none⟩ = some (.int .i64 a0_1) := (blk_cell BK111.out 1).trans rfl
     have hcz23_2 : wr.cell? ⟨gb111, 2, none⟩ = some (.int .i64 a0_2) := (blk_cell BK111.out 2).trans rfl
     have hfz23_0 := blk_frozen BK111.out 0
     have hfz23_1 := blk_frozen BK111.out 1
     have hfz23_2 := blk_frozen BK111.out 2
     have hcz24_0 : wr.cell? ⟨gb112, 0, none⟩ = some (.slice A1_0 l1_0.length c1_0) := (blk_cell BK112.out 0).trans rfl
     have hcz24_1 : wr.cell? ⟨gb112, 1, none⟩ = some (.int .i64 a1_1) := (blk_cell BK112.out 1).trans rfl
     have hcz24_2 : wr.cell? ⟨gb112, 2, none⟩ = some (.int .i64 a1_2) := (blk_cell BK112.out 2).trans rfl
     have hfz24_0 := blk_frozen BK112.out 0
     have hfz24_1 := blk_frozen BK112.out 1
     have hfz24_2 := blk_frozen BK112.out 2
     go_wp2
     repeat (go_quiet (fail); try go_wp2)
     go_ret2
     exact ⟨ts23_, ts27_ HB.out GE111.out GE112.out⟩
    rw [if_neg c21] at H
    have c21b0 : (a0_1 == a1_1) = false := beq_eq_false_iff_ne.mpr c21
    have c21b1 : (a0_1 != a1_1) = true := bne_iff_ne.mpr c21
    simp only [Option.some.injEq, Prod.mk.injEq] at H
    obtain ⟨rfl, rfl⟩ := H
    have hnb25 := NB111_112.out
    have hnc25 := NB112_111.out
    have hcz26_0 : wr.cell? ⟨gb111, 0, none⟩ = some (.slice A0_0 l0_0.length c0_0) := (blk_cell BK111.out 0).trans rfl
    have hcz26_1 : wr.cell? ⟨gb111, 1, none⟩ = some (.int .i64 a0_1) := (blk_cell BK111.out 1).trans rfl
    have hcz26_2 : wr.cell? ⟨gb111, 2, none⟩ = some (.int .i64 a0_2) := (blk_cell BK111.out 2).trans rfl
    have hfz26_0 := blk_frozen BK111.out 0
    have hfz26_1 := blk_frozen BK111.out 1
    have hfz26_2 := blk_frozen BK111.out 2
    have hcz27_0 : wr.cell? ⟨gb112, 0, none⟩ = some (.slice A1_0 l1_0.length c1_0) := (blk_cell BK112.out 0).trans rfl
    have hcz27_1 : wr.cell? ⟨gb112, 1, none⟩ = some (.int .i64 a1_1) := (blk_cell BK112.out 1).trans rfl
    have hcz27_2 : wr.cell? ⟨gb112, 2, none⟩ = some (.int .i64 a1_2) := (blk_cell BK112.out 2).trans rfl
    have hfz27_0 := blk_frozen BK112.out 0
    have hfz27_1 := blk_frozen BK112.out 1
    have hfz27_2 := blk_frozen BK112.out 2
    go_wp2
    repeat (go_quiet (fail); try go_wp2)
    go_ret2
    exact ⟨ts23_, ts27_ HB.out GE111.out GE112.out⟩
   rw [if_neg c20] at H
   have c20b0 : ((l0_0.length : Int) == (l1_0.length : Int)) = false := beq_eq_false_iff_ne.mpr c20
   have c20b1 : ((l0_0.length : Int) != (l1_0.length : Int)) = true := bne_iff_ne.mpr c20
   have c20b2 : (l0_0.length == l1_0.length) = false := by first | simpa using c20 | (simp at c20 ⊢; omega)
   simp only [Option.some.injEq, Prod.mk.injEq] at H
   obtain ⟨rfl, rfl⟩ := H
   have hnb28 := NB111_112.out
   have hnc28 := NB112_111.out
   have hcz29_0 : wr.cell? ⟨gb111, 0, none⟩ = some (.slice A0_0 l0_0.length c0_0) := (blk_cell BK111.out 0).trans rfl
   have hcz29_1 : wr.cell? ⟨gb111, 1, none⟩ = some (.int .i64 a0_1) := (blk_cell BK111.out 1).trans rfl
   have hcz29_2 : wr.cell? ⟨gb111, 2, none⟩ = some (.int .i64 a0_2) := (blk_cell BK111.out 2).trans rfl
   have hfz29_0 := blk_frozen BK111.out 0
   have hfz29_1 := blk_frozen BK111.out 1
   have hfz29_2 := blk_frozen BK111.out 2
   have hcz30_0 : wr.cell? ⟨gb112, 0, none⟩ = some (.slice A1_0 l1_0.length c1_0) := (blk_cell BK112.out 0).trans rfl
   have hcz30_1 : wr.cell? ⟨gb112, 1, none⟩ = some (.int .i64 a1_1) := (blk_cell BK112.out 1).trans rfl
   have hcz30_2 : wr.cell? ⟨gb112, 2, none⟩ = some (.int .i64 a1_2) := (blk_cell BK112.out 2).trans rfl
   have hfz30_0 := blk_frozen BK112.out 0
   have hfz30_1 := blk_frozen BK112.out 1
   have hfz30_2 := blk_frozen BK112.out 2
   go_wp2
   repeat (go_quiet (fail); try go_wp2)
   go_ret2
   exact ⟨ts23_, ts27_ HB.out GE111.out GE112.out⟩
-- NOT PRINTED: function 62 (api_Diff_62)
-- NOT PRINTED: function 85 (api_Diff_85)
-- NOT PRINTED: function 74 (api_Diff_74)
-- NOT PRINTED: function 63 (api_Diff_63)
-- NOT PRINTED: function 54 (api_Diff_54)
-- NOT PRINTED: function 39 (api_Diff_39)
/-! ### observe_Differ_1: function 40 -/
def observe_Differ_1.f (a0_0 : Int) (a0_1 : Int) (a0_2 : Int) (a0_3 : Int) (a1_0 : Int) (a1_1 : Int) (a1_2 : Int) (a1_3 : Int) : Option (Int) := some (wrap64 (a0_0 - a1_0))
theorem observe_Differ_1.calls (a0_0 : Int) (a0_1 : Int) (a0_2 : Int) (a0_3 : Int) (a1_0 : Int) (a1_1 : Int) (a1_2 : Int) (a1_3 : Int) (r : Int) (w : World) (h : observe_Differ_1.f a0_0 a0_1 a0_2 a0_3 a1_0 a1_1 a1_2 a1_3 = some r) :
  Calls Tryd.prog 40 #[.agg #[.int .i64 a0_0, .int .i64 a0_1, .int .i64 a0_2, .int .i64 a0_3], .agg #[.int .i64 a1_0, .int .i64 a1_1, .int .i64 a1_2, .int .i64 a1_3]] w fun e w' => e = .returned (.int .i64 r) ∧ Below w.heap.size w w' ∧ SortK.Grew w w' := by
 have hu57 := Tryd.underlying57
 have HB := Aside0.mk (Below.refl w.heap.size w)
 have HG := Aside0.mk (SortK.Grew.refl w)
 have H : (some (wrap64 (a0_0 - a1_0))) = some r := h
 clear h
 obtain rfl := Option.some.inj H
 go_enter Tryd.func40, Tryd.ntmps40
 go_wp2_with (first | ((with_reducible refine gate_dst (N := 2) rfl ?_); refine SortK.box_event ?hg (N := 2) ?hd (cs := #[.int .i64 a0_0, .int .i64 a0_1, .int .i64 a0_2, .int .i64 a0_3]) (t := 57) ?hr ?_; (case hd => rfl); (case hg => rfl); (case hr => exact ts18_); intro gb115 hg w3 hbox hb hal_; have ng_ := Aside0.mk (SortK.Grew.of_alloc (ts12_ HG.out) hal_); clear HG; have HG := ng_; clear ng_ hal_; have BK115 := Aside0.mk (hbox); have GW115 := Aside0.mk ((ts51_ HB.out : w.heap.size ≤ gb115)); have GE115 := Aside0.mk ((ts51_ HB.out : w.heap.size ≤ gb115)); replace HB := Aside0.mk (below_step (ts35_ HB.out) hb); clear hb hbox hg) | ((with_reducible refine gate_dst (N := 3) rfl ?_); refine SortK.box_event ?hg (N := 3) ?hd (cs := #[.int .i64 a1_0, .int .i64 a1_1, .int .i64 a1_2, .int .i64 a1_3]) (t := 57) ?hr ?_; (case hd => rfl); (case hg => rfl); (case hr => exact ts18_); intro gb116 hg w4 hbox hb hal_; have ng_ := Aside0.mk (SortK.Grew.of_alloc (ts12_ HG.out) hal_); clear HG; have HG := ng_; clear ng_ hal_; have BK116 := Aside0.mk (hbox); have GW116 := Aside0.mk ((ts45_ HB.out GE115.out : w.heap.size ≤ gb116)); have GE116 := Aside0.mk ((ts45_ HB.out GE115.out : w.heap.size ≤ gb116)); replace HB := Aside0.mk (below_step (ts20_ HB.out GE115.out) hb); have NB115_116 := Aside0.mk ((by rw [hg]; exact Nat.ne_of_lt (blk_lt (g := gb115) (o := .cells #[.int .i64 a0_0, .int .i64 a0_1, .int .i64 a0_2, .int .i64 a0_3] 57 (0, 0)) (ts17_ BK115.out)) : gb115 ≠ gb116)); have NB116_115 := Aside0.mk ((by rw [hg]; exact Nat.ne_of_gt (blk_lt (g := gb115) (o := .cells #[.int .i64 a0_0, .int .i64 a0_1, .int .i64 a0_2, .int .i64 a0_3] 57 (0, 0)) (ts17_ BK115.out)) : gb116 ≠ gb115)); replace BK115 := Aside0.mk (blk_below (g := gb115) (o := .cells #[.int .i64 a0_0, .int .i64 a0_1, .int .i64 a0_2, .int .i64 a0_3] 57 (0, 0)) (ts17_ BK115.out) hb); clear hb hbox hg; have hnb5 := NB115_116.out; have hnc5 := NB116_115.out; have hcz6_0 : w4.cell? ⟨gb115, 0, none⟩ = some (.int .i64 a0_0) := (blk_cell BK115.out 0).trans rfl; have hcz6_1 : w4.cell? ⟨gb115, 1, none⟩ = some (.int .i64 a0_1) := (blk_cell BK115.out 1).trans rfl; have hcz6_2 : w4.cell? ⟨gb115, 2, none⟩ = some (.int .i64 a0_2) := (blk_cell BK115.out 2).trans rfl; have hcz6_3 : w4.cell? ⟨gb115, 3, none⟩ = some (.int .i64 a0_3) := (blk_cell BK115.out 3).trans rfl; have hfz6_0 := blk_frozen BK115.out 0; have hfz6_1 := blk_frozen BK115.out 1; have hfz6_2 := blk_frozen BK115.out 2; have hfz6_3 := blk_frozen BK115.out 3; have hcz7_0 : w4.cell? ⟨gb116, 0, none⟩ = some (.int .i64 a1_0) := (blk_cell BK116.out 0).trans rfl; have hcz7_1 : w4.cell? ⟨gb116, 1, none⟩ = some (.int .i64 a1_1) := (blk_cell BK116.out 1).trans rfl; have hcz7_2 : w4.cell? ⟨gb116, 2, none⟩ = some (.int .i64 a1_2) := (blk_cell BK116.out 2).trans rfl; have hcz7_3 : w4.cell? ⟨gb116, 3, none⟩ = some (.int .i64 a1_3) := (blk_cell BK116.out 3).trans rfl; have hfz7_0 := blk_frozen BK116.out 0; have hfz7_1 := blk_frozen BK116.out 1; have hfz7_2 := blk_frozen BK116.out 2; have hfz7_3 := blk_frozen BK116.out 3))
 go_ret
 exact ⟨ts30_, ts27_ HB.out GE115.out GE116.out, (ts12_ HG.out)⟩
end Go.Proofs.YtndennmpnomjnaaDoor.A
