/- Written by wip/tools/xprint.py, a program of this session that drives the kit's printer. Not trusted: Lean checks it. -/
import Derived.Test.YtndennmpnomjnaaDoorBx0
import Derived.Test.YtndennmpnomjnaaDoorBx1
import Derived.Test.YtndennmpnomjnaaDoorAx10
import Derived.Test.YtndennmpnomjnaaDoorAx9
import Derived.Test.YtndennmpnomjnaaDoorRe
import Derived.Test.YtndennmpnomjnaaDoorWr
set_option linter.all false
set_option maxHeartbeats 8000000
set_option maxRecDepth 100000
namespace Go.Proofs.YtndennmpnomjnaaDoor.A
open Go.RowKit Go.Proofs.YtndennmpnomjnaaDoorW.PrintWords Go.Proofs.YtndennmpnomjnaaDoorW.PrintLast Go.Proofs.YtndennmpnomjnaaDoorW.PrintMore
attribute [local go_sem] max2_int min2_int max_two min_two max_three min_three max_four min_four   -- for this text's walks alone
set_option linter.unusedVariables false
set_option linter.unusedSimpArgs false
/-! ### cupellaw35_GroupsGroups: function 4 -/
mutual
def cupellaw35_GroupsGroups.j0 : Nat → List Int → List (S35) → List (S35) → Bool → Option (Bool)
 | 0, _, _, _, _ => none
 | k + 1, x1, x5, x7, x36 => if x36 = true then (none) else (cupellaw35_GroupsGroups.l0 k x1 x5 x7 0)
def cupellaw35_GroupsGroups.l0 : Nat → List Int → List (S35) → List (S35) → Int → Option (Bool)
 | 0, _, _, _, _ => none
 | k + 1, x1, x5, x7, x9 => if x9 < (x5.length : Int) then (if 0 ≤ x9 then (if x9 < (x7.length : Int) then (if ((rd_T35 x5 x9).f0).toList = ((rd_T35 x7 x9).f0).toList then ((cupellaw35_sameInts.f k ((rd_T35 x5 x9).f1) ((rd_T35 x7 x9).f1)).bind fun t154 => (if t154 = true then (cupellaw35_GroupsGroups.l0 k x1 x5 x7 (wrap64 (x9 + 1))) else (none))) else (none)) else (none)) else (none)) else ((groups_Represent.f k x5 x1).bind fun bt155 => ((cupelref35_Represent.f k x7 x1).bind fun bt159 => ((cupellaw35_sameInts.f k bt155.1 bt159.1).bind fun t163 => (if t163 = true then (some (bt155.2 == bt159.2)) else (none)))))
end
def cupellaw35_GroupsGroups.f (k : Nat) (l0 : List ByteArray) (l1 : List Int) : Option (Bool) := (cupellaw35_shown.f k).bind fun t141 => (if t141 = true then (if (l0.length : Int) > 1200 then (some true) else ((gGroups.f k l0).bind fun bt142 => ((rGroups.f k l0).bind fun bt146 => (if (bt142.1.length : Int) = (bt146.1.length : Int) then (cupellaw35_GroupsGroups.j0 k l1 bt142.1 bt146.1 (bt142.2 != bt146.2)) else (cupellaw35_GroupsGroups.j0 k l1 bt142.1 bt146.1 true))))) else (none))
theorem cupellaw35_GroupsGroups.mono_l : ∀ k, (∀ y0 y1 y2 y3, LeO (cupellaw35_GroupsGroups.j0 k y0 y1 y2 y3) (cupellaw35_GroupsGroups.j0 (k + 1) y0 y1 y2 y3)) ∧ (∀ y0 y1 y2 y3, LeO (cupellaw35_GroupsGroups.l0 k y0 y1 y2 y3) (cupellaw35_GroupsGroups.l0 (k + 1) y0 y1 y2 y3))
 | 0 => ⟨fun _ _ _ _ r h => by simp [cupellaw35_GroupsGroups.j0] at h, fun _ _ _ _ r h => by simp [cupellaw35_GroupsGroups.l0] at h⟩
 | k + 1 => by
  obtain ⟨ih0, ih1⟩ := cupellaw35_GroupsGroups.mono_l k
  refine ⟨?_, ?_⟩
  ·intro y0 y1 y2 y3
   unfold cupellaw35_GroupsGroups.j0
   repeat' first
   | (with_reducible exact ih0 _ _ _ _)
   | (with_reducible exact ih1 _ _ _ _)
   | (with_reducible exact cupellaw35_sameInts.mono _ _ _)
   | (with_reducible exact cupellaw35_shown.mono _)
   | (with_reducible exact cupelref35_Represent.mono _ _ _)
   | (with_reducible exact gGroups.mono _ _)
   | (with_reducible exact groups_Represent.mono _ _ _)
   | (with_reducible exact rGroups.mono _ _)
   | (with_reducible exact LeO.refl _)
   | (with_reducible exact LeO.none _)
   | (with_reducible refine LeO.ite ?_ ?_)
   | (with_reducible refine LeO.bind ?_ (fun _ => ?_))
   | exact LeO.none _
   | refine LeO.ite ?_ ?_
   | refine LeO.bind ?_ (fun _ => ?_)
  intro y0 y1 y2 y3
  unfold cupellaw35_GroupsGroups.l0
  repeat' first
  | (with_reducible exact ih0 _ _ _ _)
  | (with_reducible exact ih1 _ _ _ _)
  | (with_reducible exact cupellaw35_sameInts.mono _ _ _)
  | (with_reducible exact cupellaw35_shown.mono _)
  | (with_reducible exact cupelref35_Represent.mono _ _ _)
  | (with_reducible exact gGroups.mono _ _)
  | (with_reducible exact groups_Represent.mono _ _ _)
  | (with_reducible exact rGroups.mono _ _)
  | (with_reducible exact LeO.refl _)
  | (with_reducible exact LeO.none _)
  | (with_reducible refine LeO.ite ?_ ?_)
  | (with_reducible refine LeO.bind ?_ (fun _ => ?_))
  | exact LeO.none _
  | refine LeO.ite ?_ ?_
  | refine LeO.bind ?_ (fun _ => ?_)
theorem cupellaw35_GroupsGroups.mono : ∀ a0 a1 k, LeO (cupellaw35_GroupsGroups.f k a0 a1) (cupellaw35_GroupsGroups.f (k + 1) a0 a1) := by
 intro a0 a1 k
 obtain ⟨ih0, ih1⟩ := cupellaw35_GroupsGroups.mono_l k
 unfold cupellaw35_GroupsGroups.f
 repeat' first
   | (with_reducible exact ih0 _ _ _ _)
   | (with_reducible exact ih1 _ _ _ _)
   | (with_reducible exact cupellaw35_sameInts.mono _ _ _)
   | (with_reducible exact cupellaw35_shown.mono _)
   | (with_reducible exact cupelref35_Represent.mono _ _ _)
   | (with_reducible exact gGroups.mono _ _)
   | (with_reducible exact groups_Represent.mono _ _ _)
   | (with_reducible exact rGroups.mono _ _)
   | (with_reducible exact LeO.refl _)
   | (with_reducible exact LeO.none _)
   | (with_reducible refine LeO.ite ?_ ?_)
   | (with_reducible refine LeO.bind ?_ (fun _ => ?_))
   | exact LeO.none _
   | refine LeO.ite ?_ ?_
   | refine LeO.bind ?_ (fun _ => ?_)
theorem cupellaw35_GroupsGroups.calls (k : Nat) (A0 : Option Addr) (c0 : Nat) (l0 : List ByteArray) (A1 : Option Addr) (c1 : Nat) (l1 : List Int) (r : Bool) (w : World) (hr0 : Kd.C Kd.string w A0 l0.length l0) (hc0 : l0.length ≤ c0) (hr1 : Kd.C (Kd.int .i64) w A1 l1.length l1) (hc1 : l1.length ≤ c1) (h : cupellaw35_GroupsGroups.f k l0 l1 = some r) (hE_ : Env w := by exact Env.below HEnv_.out (by repeat (first | (with_reducible first | exact HB.out | apply below_alloc | apply pw_below_drewN | apply below_drew1 | refine below_set ?_ (Aside0.out (by assumption))) | exact HB.out)) HEnv_.out.big) :
  Calls Tryd.prog 4 #[.slice A0 l0.length c0, .slice A1 l1.length c1] w fun e w' => e = .returned (.bool r) ∧ Below w.heap.size w w' := by
 have HEnv_ := Aside0.mk hE_
 clear hE_
 have HR0 := Aside0.mk hr0
 have HC0 := Aside0.mk hc0
 clear hr0 hc0
 have HR1 := Aside0.mk hr1
 have HC1 := Aside0.mk hc1
 clear hr1 hc1
 have HB := Aside0.mk (Below.refl w.heap.size w)
 have H : ((cupellaw35_shown.f k).bind fun t141 => (if t141 = true then (if (l0.length : Int) > 1200 then (some true) else ((gGroups.f k l0).bind fun bt142 => ((rGroups.f k l0).bind fun bt146 => (if (bt142.1.length : Int) = (bt146.1.length : Int) then (cupellaw35_GroupsGroups.j0 k l1 bt142.1 bt146.1 (bt142.2 != bt146.2)) else (cupellaw35_GroupsGroups.j0 k l1 bt142.1 bt146.1 true))))) else (none))) = some r := h
 clear h
 obtain ⟨t141, A3, H⟩ := bsA_ H
 try dsimp only at H
 by_cases c4 : t141 = true
 ·subst c4
  rw [if_pos rfl] at H
  by_cases c5 : (l0.length : Int) > 1200
  ·rw [if_pos c5] at H
   have c5b0 : decide (1200 < (l0.length : Int)) = true := decide_eq_true c5
   have c5b1 : decide (1200 < l0.length) = true := decide_eq_true (by omega)
   clear c5
   obtain rfl := Option.some.inj H
   go_enter Tryd.func4, Tryd.ntmps4
   go_wp2_with (first | (go_at_call 8; (with_reducible refine (cupellaw35_shown.calls k  true _ A3.out).mono ?_); rintro e w6 ⟨rfl, hb⟩; replace HB := Aside0.mk (below_step (ts29_ HB.out) hb); clear hb))
   repeat (go_quiet (first | (go_at_call 8; (with_reducible refine (cupellaw35_shown.calls k  true _ A3.out).mono ?_); rintro e w6 ⟨rfl, hb⟩; replace HB := Aside0.mk (below_step (ts29_ HB.out) hb); clear hb)); try go_wp2_with (first | (go_at_call 8; (with_reducible refine (cupellaw35_shown.calls k  true _ A3.out).mono ?_); rintro e w6 ⟨rfl, hb⟩; replace HB := Aside0.mk (below_step (ts29_ HB.out) hb); clear hb)))
   go_ret
   exact ⟨ts26_, ts29_ HB.out⟩
  rw [if_neg c5] at H
  have c5b0 : decide (1200 < (l0.length : Int)) = false := decide_eq_false c5
  have c5b1 : decide (1200 < l0.length) = false := decide_eq_false (by omega)
  clear c5
  obtain ⟨⟨t142, t143⟩, A7, H⟩ := bsA_ H
  try dsimp only at H
  obtain ⟨⟨t146, t147⟩, A8, H⟩ := bsA_ H
  try dsimp only at H
  have HC9 := Aside0.mk H
  clear H
  go_enter Tryd.func4, Tryd.ntmps4
  go_upto_region 7 with (first | (go_at_call 8; (with_reducible refine (cupellaw35_shown.calls k  true _ A3.out).mono ?_); rintro e w10 ⟨rfl, hb⟩; replace HB := Aside0.mk (below_step (ts29_ HB.out) hb); clear hb) | (go_at_call 12; (with_reducible refine (gGroups.calls k _ _ l0 t142 t143 _ ?side1 ?side2 A7.out).mono ?_); (case side1 => exact ts7_ HR0.out HB.out); (case side2 => exact HC0.out); rintro e w11 ⟨v144, rfl, ho0, hb⟩; have HO145 := Aside0.mk (Kd.S_lower ho0 (below_size (ts29_ HB.out))); replace HB := Aside0.mk (below_step (ts29_ HB.out) hb); clear hb; (try clear ho0)) | (go_at_call 13; (with_reducible refine (rGroups.calls k _ _ l0 t146 t147 _ ?side1 ?side2 A8.out).mono ?_); (case side1 => exact ts7_ HR0.out HB.out); (case side2 => exact HC0.out); rintro e w12 ⟨v148, rfl, ho0, hb⟩; have HO149 := Aside0.mk (Kd.S_lower (Kd.S_new' ho0 (Kd.S_lt (ts30_ HO145.out))) (below_size (ts29_ HB.out))); replace HO145 := Aside0.mk (Kd.S_elder' (ts30_ HO145.out) (Kd.S_base ho0) hb); replace HB := Aside0.mk (below_step (ts29_ HB.out) hb); clear hb; (try clear ho0)))
  repeat (go_quiet (first | (go_at_call 8; (with_reducible refine (cupellaw35_shown.calls k  true _ A3.out).mono ?_); rintro e w10 ⟨rfl, hb⟩; replace HB := Aside0.mk (below_step (ts29_ HB.out) hb); clear hb) | (go_at_call 12; (with_reducible refine (gGroups.calls k _ _ l0 t142 t143 _ ?side1 ?side2 A7.out).mono ?_); (case side1 => exact ts7_ HR0.out HB.out); (case side2 => exact HC0.out); rintro e w11 ⟨v144, rfl, ho0, hb⟩; have HO145 := Aside0.mk (Kd.S_lower ho0 (below_size (ts29_ HB.out))); replace HB := Aside0.mk (below_step (ts29_ HB.out) hb); clear hb; (try clear ho0)) | (go_at_call 13; (with_reducible refine (rGroups.calls k _ _ l0 t146 t147 _ ?side1 ?side2 A8.out).mono ?_); (case side1 => exact ts7_ HR0.out HB.out); (case side2 => exact HC0.out); rintro e w12 ⟨v148, rfl, ho0, hb⟩; have HO149 := Aside0.mk (Kd.S_lower (Kd.S_new' ho0 (Kd.S_lt (ts30_ HO145.out))) (below_size (ts29_ HB.out))); replace HO145 := Aside0.mk (Kd.S_elder' (ts30_ HO145.out) (Kd.S_base ho0) hb); replace HB := Aside0.mk (below_step (ts29_ HB.out) hb); clear hb; (try clear ho0))); go_upto_region 7 with (first | (go_at_call 8; (with_reducible refine (cupellaw35_shown.calls k  true _ A3.out).mono ?_); rintro e w10 ⟨rfl, hb⟩; replace HB := Aside0.mk (below_step (ts29_ HB.out) hb); clear hb) | (go_at_call 12; (with_reducible refine (gGroups.calls k _ _ l0 t142 t143 _ ?side1 ?side2 A7.out).mono ?_); (case side1 => exact ts7_ HR0.out HB.out); (case side2 => exact HC0.out); rintro e w11 ⟨v144, rfl, ho0, hb⟩; have HO145 := Aside0.mk (Kd.S_lower ho0 (below_size (ts29_ HB.out))); replace HB := Aside0.mk (below_step (ts29_ HB.out) hb); clear hb; (try clear ho0)) | (go_at_call 13; (with_reducible refine (rGroups.calls k _ _ l0 t146 t147 _ ?side1 ?side2 A8.out).mono ?_); (case side1 => exact ts7_ HR0.out HB.out); (case side2 => exact HC0.out); rintro e w12 ⟨v148, rfl, ho0, hb⟩; have HO149 := Aside0.mk (Kd.S_lower (Kd.S_new' ho0 (Kd.S_lt (ts30_ HO145.out))) (below_size (ts29_ HB.out))); replace HO145 := Aside0.mk (Kd.S_elder' (ts30_ HO145.out) (Kd.S_base ho0) hb); replace HB := Aside0.mk (below_step (ts29_ HB.out) hb); clear hb; (try clear ho0))))
  (try simp only [Act.put, List.setIfInBounds_toArray, List.set_cons_zero, List.set_cons_succ])
  go_cut [36] (fun v36 wc => ∃ (kq : Nat) (x36_8 : Bool), v36 = .bool x36_8 ∧ Aside0 (cupellaw35_GroupsGroups.j0 kq l1 t142 t146 x36_8 = some r) ∧ Aside0 (kq ≤ k) ∧ Aside0 (Kd.S k35 35 wc w.heap.size (fun k_ => some k_ ≠ (v148 : Value).ownBlock) v144 t142) ∧ Aside0 (Kd.S k35 35 wc w.heap.size (fun k_ => some k_ ≠ (v144 : Value).ownBlock) v148 t146) ∧ Aside0 (Below w.heap.size w wc))
  case first =>
   have H := HC9.out
   clear HC9
   by_cases c13 : (t142.length : Int) = (t146.length : Int)
   ·rw [if_pos c13] at H
    have c13b0 : ((t142.length : Int) == (t146.length : Int)) = true := beq_iff_eq.mpr c13
    have c13b1 : ((t142.length : Int) != (t146.length : Int)) = false := bne_eq_false_iff_eq.mpr c13
    have c13b2 : (t142.length == t146.length) = true := by first | simpa using c13 | (simp at c13 ⊢; omega)
    clear c13
    (first | rw [c13b0] | (simp only [i64_w, i32_w]; rw [c13b0]) | skip)
    have H' := Aside0.mk H
    clear H
    obtain ⟨Ao14, co14, eo14⟩ := Kd.S_slice HO145.out
    subst eo14
    obtain ⟨Ao15, co15, eo15⟩ := Kd.S_slice HO149.out
    subst eo15
    go_wp2
    repeat (go_quiet (fail); try go_wp2)
    go_meet
    case rel => exact ⟨_, ((t143 != t147)), ts28_, H', ⟨ts1_⟩, ⟨ts14_ HO145.out⟩, ⟨ts14_ HO149.out⟩, ⟨ts29_ HB.out⟩⟩
   rw [if_neg c13] at H
   have c13b0 : ((t142.length : Int) == (t146.length : Int)) = false := beq_eq_false_iff_ne.mpr c13
   have c13b1 : ((t142.length : Int) != (t146.length : Int)) = true := bne_iff_ne.mpr c13
   have c13b2 : (t142.length == t146.length) = false := by first | simpa using c13 | (simp at c13 ⊢; omega)
   (first | rw [c13b0] | (simp only [i64_w, i32_w]; rw [c13b0]) | skip)
   have H' := Aside0.mk H
   clear H
   obtain ⟨Ao16, co16, eo16⟩ := Kd.S_slice HO145.out
   subst eo16
   obtain ⟨Ao17, co17, eo17⟩ := Kd.S_slice HO149.out
   subst eo17
   go_wp2
   repeat (go_quiet (fail); try go_wp2)
   go_meet
   case rel => exact ⟨_, (true), ts28_, H', ⟨ts1_⟩, ⟨ts14_ HO145.out⟩, ⟨ts14_ HO149.out⟩, ⟨ts29_ HB.out⟩⟩
  case rest =>
   clear HC9
   try clear c1
   try clear p2
   try clear c4
   try clear c5
   try clear c5b0
   try clear c5b1
   try clear c13
   try clear c13b0
   try clear c13b1
   try clear c13b2
   obtain ⟨kq, x36_8, rfl, HA, HJ8, HO_5, HO_7, HB⟩ := hcut
   cases kq with
   | zero => exact absurd HA.out (by simp [cupellaw35_GroupsGroups.j0])
   | succ kj8 =>
    have H := HA.out
    clear HA
    simp only [cupellaw35_GroupsGroups.j0] at H
    by_cases c18 : x36_8 = true
    ·subst c18
     rw [if_pos rfl] at H
     exact absurd H (by simp)
    replace c18 := Bool.eq_false_iff.mpr c18
    subst c18
    rw [if_neg Bool.false_ne_true] at H
    have H' := Aside0.mk H
    clear H
    go_wp2
    repeat (go_quiet (fail); try go_wp2)
    go_loopg [9] kj8 (fun kq v9 w' => ∃ (x9_2 : Int), v9 = .int .i64 x9_2 ∧ Aside0 (cupellaw35_GroupsGroups.l0 kq l1 t142 t146 x9_2 = some r) ∧ Aside0 (kq ≤ kj8) ∧ Aside0 (Kd.S k35 35 w' w.heap.size (fun k_ => some k_ ≠ (v148 : Value).ownBlock) v144 t142) ∧ Aside0 (Kd.S k35 35 w' w.heap.size (fun k_ => some k_ ≠ (v144 : Value).ownBlock) v148 t146) ∧ Aside0 (Below w.heap.size w w'))
    case atStart => exact ⟨(0), ts28_, H', ⟨Nat.le_refl _⟩, ⟨ts30_ HO_5.out⟩, ⟨ts30_ HO_7.out⟩, ⟨ts29_ HB.out⟩⟩
    case round =>
     clear H'
     try clear c1
     try clear p2
     try clear c4
     try clear c5
     try clear c5b0
     try clear c5b1
     try clear c13
     try clear c13b0
     try clear c13b1
     try clear c13b2
     try clear c18
     try clear p2
     obtain ⟨x9_2, rfl, HA, HK2, HO_5, HO_7, HB⟩ := hrel
     cases gk with
     | zero => exact absurd HA.out (by simp [cupellaw35_GroupsGroups.l0])
     | succ k2 =>
      have H := HA.out
      clear HA
      simp only [cupellaw35_GroupsGroups.l0] at H
      by_cases c19 : x9_2 < (t142.length : Int)
      ·rw [if_pos c19] at H
       have c19b0 : decide (x9_2 < (t142.length : Int)) = true := decide_eq_true c19
       clear c19
       by_cases c20 : 0 ≤ x9_2
       ·rw [if_pos c20] at H
        have c20b0 : decide (0 ≤ x9_2) = true := decide_eq_true c20
        clear c20
        by_cases c21 : x9_2 < (t146.length : Int)
        ·rw [if_pos c21] at H
         have c21b0 : decide (x9_2 < (t146.length : Int)) = true := decide_eq_true c21
         clear c21
         by_cases c22 : ((rd_T35 t142 x9_2).f0).toList = ((rd_T35 t146 x9_2).f0).toList
         ·rw [if_pos c22] at H
          have c22b0 : (((rd_T35 t142 x9_2).f0).toList == ((rd_T35 t146 x9_2).f0).toList) = true := beq_iff_eq.mpr c22
          have c22b1 : (((rd_T35 t142 x9_2).f0).toList != ((rd_T35 t146 x9_2).f0).toList) = false := bne_eq_false_iff_eq.mpr c22
          clear c22
          obtain ⟨t154, A23, H⟩ := bsA_ H
          try dsimp only at H
          by_cases c24 : t154 = true
          ·subst c24
           rw [if_pos rfl] at H
           have H' := Aside0.mk H
           clear H
           obtain ⟨Ao25, co25, eo25⟩ := Kd.S_slice HO_5.out
           subst eo25
           have p150 : 0 ≤ (x9_2 : Int) := of_decide_eq_true ts24_
           have q150 : x9_2 < (t142.length : Int) := of_decide_eq_true ts24_
           obtain ⟨ad150, A150_1, c150_1, e150, hx150_0, hx150_1, hl150_1, hi150_1⟩ := at_T35 (Kd.S_reads' HO_5.out).2.2 x9_2 p150 q150
           cases e150
           obtain ⟨ce150, hce150, hMe150, hcc150⟩ := Kd.S_get HO_5.out z35 x9_2 p150 (by first | exact q150 | exact of_decide_eq_true ts24_ | (have e_ := (Kd.S_reads' HO_5.out).1; omega))
           obtain ⟨ve150_1, rfl, ge150_1⟩ := k35_openM hMe150
           have hv150_1 := hcc150 1 _ rfl
           rw [add_field _ _ 1 (by omega)] at hv150_1
           replace hv150_1 := Option.some.inj (hv150_1.symm.trans hx150_1)
           rw [hv150_1] at ge150_1
           have HL150_1 := Aside0.mk (show Kd.R (Kd.int .i64) 3 _ _ _ _ ((rd_T35 t142 x9_2).f1) from ge150_1)
           clear hv150_1 ge150_1
           clear hcc150 hce150
           have HR150_1 := Aside0.mk hi150_1
           have HC150_1 := Aside0.mk hl150_1
           clear hi150_1 hl150_1
           replace p150 := eq_true p150
           replace q150 := eq_true q150
           obtain ⟨Ao26, co26, eo26⟩ := Kd.S_slice HO_7.out
           subst eo26
           have p151 : 0 ≤ (x9_2 : Int) := of_decide_eq_true ts24_
           have q151 : x9_2 < (t146.length : Int) := of_decide_eq_true ts24_
           obtain ⟨ad151, A151_1, c151_1, e151, hx151_0, hx151_1, hl151_1, hi151_1⟩ := at_T35 (Kd.S_reads' HO_7.out).2.2 x9_2 p151 q151
           cases e151
           obtain ⟨ce151, hce151, hMe151, hcc151⟩ := Kd.S_get HO_7.out z35 x9_2 p151 (by first | exact q151 | exact of_decide_eq_true ts24_ | (have e_ := (Kd.S_reads' HO_7.out).1; omega))
           obtain ⟨ve151_1, rfl, ge151_1⟩ := k35_openM hMe151
           have hv151_1 := hcc151 1 _ rfl
           rw [add_field _ _ 1 (by omega)] at hv151_1
           replace hv151_1 := Option.some.inj (hv151_1.symm.trans hx151_1)
           rw [hv151_1] at ge151_1
           have HL151_1 := Aside0.mk (show Kd.R (Kd.int .i64) 3 _ _ _ _ ((rd_T35 t146 x9_2).f1) from ge151_1)
           clear hv151_1 ge151_1
           clear hcc151 hce151
           have HR151_1 := Aside0.mk hi151_1
           have HC151_1 := Aside0.mk hl151_1
           clear hi151_1 hl151_1
           replace p151 := eq_true p151
           replace q151 := eq_true q151
           have p152 : 0 ≤ (x9_2 : Int) := of_decide_eq_true ts24_
           have q152 : x9_2 < (t142.length : Int) := of_decide_eq_true ts24_
           obtain ⟨ad152, A152_1, c152_1, e152, hx152_0, hx152_1, hl152_1, hi152_1⟩ := at_T35 (Kd.S_reads' HO_5.out).2.2 x9_2 p152 q152
           obtain rfl : ad150 = ad152 := (by injection e152)
           obtain ⟨ce152, hce152, hMe152, hcc152⟩ := Kd.S_get HO_5.out z35 x9_2 p152 (by first | exact q152 | exact of_decide_eq_true ts24_ | (have e_ := (Kd.S_reads' HO_5.out).1; omega))
           obtain ⟨ve152_1, rfl, ge152_1⟩ := k35_openM hMe152
           have hv152_1 := hcc152 1 _ rfl
           rw [add_field _ _ 1 (by omega)] at hv152_1
           replace hv152_1 := Option.some.inj (hv152_1.symm.trans hx152_1)
           rw [hv152_1] at ge152_1
           have HL152_1 := Aside0.mk (show Kd.R (Kd.int .i64) 3 _ _ _ _ ((rd_T35 t142 x9_2).f1) from ge152_1)
           clear hv152_1 ge152_1
           clear hcc152 hce152
           have HR152_1 := Aside0.mk hi152_1
           have HC152_1 := Aside0.mk hl152_1
           clear hi152_1 hl152_1
           replace p152 := eq_true p152
           replace q152 := eq_true q152
           have ea_ := Option.some.inj (hx150_1.symm.trans hx152_1)
           injection ea_ with ea_ en_ ec_
           subst ea_
           subst ec_
           clear en_
           have p153 : 0 ≤ (x9_2 : Int) := of_decide_eq_true ts24_
           have q153 : x9_2 < (t146.length : Int) := of_decide_eq_true ts24_
           obtain ⟨ad153, A153_1, c153_1, e153, hx153_0, hx153_1, hl153_1, hi153_1⟩ := at_T35 (Kd.S_reads' HO_7.out).2.2 x9_2 p153 q153
           obtain rfl : ad151 = ad153 := (by injection e153)
           obtain ⟨ce153, hce153, hMe153, hcc153⟩ := Kd.S_get HO_7.out z35 x9_2 p153 (by first | exact q153 | exact of_decide_eq_true ts24_ | (have e_ := (Kd.S_reads' HO_7.out).1; omega))
           obtain ⟨ve153_1, rfl, ge153_1⟩ := k35_openM hMe153
           have hv153_1 := hcc153 1 _ rfl
           rw [add_field _ _ 1 (by omega)] at hv153_1
           replace hv153_1 := Option.some.inj (hv153_1.symm.trans hx153_1)
           rw [hv153_1] at ge153_1
           have HL153_1 := Aside0.mk (show Kd.R (Kd.int .i64) 3 _ _ _ _ ((rd_T35 t146 x9_2).f1) from ge153_1)
           clear hv153_1 ge153_1
           clear hcc153 hce153
           have HR153_1 := Aside0.mk hi153_1
           have HC153_1 := Aside0.mk hl153_1
           clear hi153_1 hl153_1
           replace p153 := eq_true p153
           replace q153 := eq_true q153
           have ea_ := Option.some.inj (hx151_1.symm.trans hx153_1)
           injection ea_ with ea_ en_ ec_
           subst ea_
           subst ec_
           clear en_
           go_wp2_with (first | (go_at_call 14; (with_reducible refine (cupellaw35_sameInts.calls k2 _ _ ((rd_T35 t142 x9_2).f1) _ _ ((rd_T35 t146 x9_2).f1) true _ ?side1 ?side2 ?side3 ?side4 A23.out).mono ?_); (case side1 => exact ts34_ HR152_1.out); (case side2 => exact HC152_1.out); (case side3 => exact ts34_ HR153_1.out); (case side4 => exact HC153_1.out); rintro e w' ⟨rfl, ⟨nd, rfl⟩⟩; (try first | exact ⟨rfl, _, World.drewN_drewN _ _ _⟩ | exact ⟨rfl, _, Eq.trans (World.drewN_drewN _ _ _) (congrArg (World.drewN _) (Nat.add_assoc _ _ _))⟩)))
           repeat (go_quiet (first | (go_at_call 14; (with_reducible refine (cupellaw35_sameInts.calls k2 _ _ ((rd_T35 t142 x9_2).f1) _ _ ((rd_T35 t146 x9_2).f1) true _ ?side1 ?side2 ?side3 ?side4 A23.out).mono ?_); (case side1 => exact ts34_ HR152_1.out); (case side2 => exact HC152_1.out); (case side3 => exact ts34_ HR153_1.out); (case side4 => exact HC153_1.out); rintro e w' ⟨rfl, ⟨nd, rfl⟩⟩; (try first | exact ⟨rfl, _, World.drewN_drewN _ _ _⟩ | exact ⟨rfl, _, Eq.trans (World.drewN_drewN _ _ _) (congrArg (World.drewN _) (Nat.add_assoc _ _ _))⟩))); try go_wp2_with (first | (go_at_call 14; (with_reducible refine (cupellaw35_sameInts.calls k2 _ _ ((rd_T35 t142 x9_2).f1) _ _ ((rd_T35 t146 x9_2).f1) true _ ?side1 ?side2 ?side3 ?side4 A23.out).mono ?_); (case side1 => exact ts34_ HR152_1.out); (case side2 => exact HC152_1.out); (case side3 => exact ts34_ HR153_1.out); (case side4 => exact HC153_1.out); rintro e w' ⟨rfl, ⟨nd, rfl⟩⟩; (try first | exact ⟨rfl, _, World.drewN_drewN _ _ _⟩ | exact ⟨rfl, _, Eq.trans (World.drewN_drewN _ _ _) (congrArg (World.drewN _) (Nat.add_assoc _ _ _))⟩))))
           go_roundg k2
           case measure => have := HJ8.out; have := HK2.out; omega
           case rel => exact ⟨(wrap64 (x9_2 + 1)), ts28_, H', ⟨by have := HJ8.out; have := HK2.out; omega⟩, ⟨ts30_ HO_5.out⟩, ⟨ts30_ HO_7.out⟩, ⟨ts29_ HB.out⟩⟩
          replace c24 := Bool.eq_false_iff.mpr c24
          subst c24
          rw [if_neg Bool.false_ne_true] at H
          exact absurd H (by simp)
         rw [if_neg c22] at H
         exact absurd H (by simp)
        rw [if_neg c21] at H
        exact absurd H (by simp)
       rw [if_neg c20] at H
       exact absurd H (by simp)
      rw [if_neg c19] at H
      have c19b0 : decide (x9_2 < (t142.length : Int)) = false := decide_eq_false c19
      clear c19
      obtain ⟨⟨t155, t156⟩, A27, H⟩ := bsA_ H
      try dsimp only at H
      obtain ⟨⟨t159, t160⟩, A28, H⟩ := bsA_ H
      try dsimp only at H
      obtain ⟨t163, A29, H⟩ := bsA_ H
      try dsimp only at H
      by_cases c30 : t163 = true
      ·subst c30
       rw [if_pos rfl] at H
       obtain rfl := Option.some.inj H
       obtain ⟨Ao31, co31, eo31⟩ := Kd.S_slice HO_5.out
       subst eo31
       go_wp2_with (first | (go_at_call 15; (with_reducible refine (groups_Represent.calls k2 _ _ t142 _ _ l1 t155 t156 _ ?side1 ?side2 ?side3 ?side4 A27.out).mono ?_); (case side1 => exact ts6_ HO_5.out); (case side2 => exact (Kd.S_reads' HO_5.out).2.1); (case side3 => exact ts7_ HR1.out HB.out); (case side4 => exact HC1.out); rintro e w32 ⟨v157, rfl, ho0, hb⟩; replace HO_5 := Aside0.mk (Kd.S_elder' (ts30_ HO_5.out) (Kd.R_base ho0) hb); replace HO_7 := Aside0.mk (Kd.S_elder' (ts30_ HO_7.out) (Kd.R_base ho0) hb); have HO158 := Aside0.mk (Kd.R_lower ho0 (below_size (ts29_ HB.out))); replace HB := Aside0.mk (below_step (ts29_ HB.out) hb); clear hb; (try clear ho0); obtain ⟨Ao33, co33, eo33⟩ := Kd.S_slice HO_7.out; subst eo33) | (go_at_call 16; (with_reducible refine (cupelref35_Represent.calls k2 _ _ t146 _ _ l1 t159 t160 _ ?side1 ?side2 ?side3 ?side4 A28.out).mono ?_); (case side1 => exact ts6_ HO_7.out); (case side2 => exact (Kd.S_reads' HO_7.out).2.1); (case side3 => exact ts7_ HR1.out HB.out); (case side4 => exact HC1.out); rintro e w34 ⟨v161, rfl, ho0, hb⟩; replace HO_5 := Aside0.mk (Kd.S_elder' (ts30_ HO_5.out) (Kd.R_base ho0) hb); replace HO_7 := Aside0.mk (Kd.S_elder' (ts30_ HO_7.out) (Kd.R_base ho0) hb); have HO162 := Aside0.mk (Kd.R_lower (Kd.R_new' ho0 (Kd.R_lt (ts18_ HO158.out))) (below_size (ts29_ HB.out))); replace HO158 := Aside0.mk (Kd.R_elder' (ts18_ HO158.out) (Kd.R_base ho0) hb); replace HB := Aside0.mk (below_step (ts29_ HB.out) hb); clear hb; (try clear ho0); obtain ⟨Ao35, co35, eo35⟩ := Kd.R_slice HO158.out; subst eo35; obtain ⟨Ao36, co36, eo36⟩ := Kd.R_slice HO162.out; subst eo36) | (go_at_call 14; (with_reducible refine (cupellaw35_sameInts.calls k2 _ _ t155 _ _ t159 true _ ?side1 ?side2 ?side3 ?side4 A29.out).mono ?_); (case side1 => exact ts23_ HO158.out); (case side2 => exact (Kd.R_reads' HO158.out).2.1); (case side3 => exact ts23_ HO162.out); (case side4 => exact (Kd.R_reads' HO162.out).2.1); rintro e w' ⟨rfl, ⟨nd, rfl⟩⟩; (try first | exact ⟨rfl, _, World.drewN_drewN _ _ _⟩ | exact ⟨rfl, _, Eq.trans (World.drewN_drewN _ _ _) (congrArg (World.drewN _) (Nat.add_assoc _ _ _))⟩)))
       repeat (go_quiet (first | (go_at_call 15; (with_reducible refine (groups_Represent.calls k2 _ _ t142 _ _ l1 t155 t156 _ ?side1 ?side2 ?side3 ?side4 A27.out).mono ?_); (case side1 => exact ts6_ HO_5.out); (case side2 => exact (Kd.S_reads' HO_5.out).2.1); (case side3 => exact ts7_ HR1.out HB.out); (case side4 => exact HC1.out); rintro e w32 ⟨v157, rfl, ho0, hb⟩; replace HO_5 := Aside0.mk (Kd.S_elder' (ts30_ HO_5.out) (Kd.R_base ho0) hb); replace HO_7 := Aside0.mk (Kd.S_elder' (ts30_ HO_7.out) (Kd.R_base ho0) hb); have HO158 := Aside0.mk (Kd.R_lower ho0 (below_size (ts29_ HB.out))); replace HB := Aside0.mk (below_step (ts29_ HB.out) hb); clear hb; (try clear ho0); obtain ⟨Ao33, co33, eo33⟩ := Kd.S_slice HO_7.out; subst eo33) | (go_at_call 16; (with_reducible refine (cupelref35_Represent.calls k2 _ _ t146 _ _ l1 t159 t160 _ ?side1 ?side2 ?side3 ?side4 A28.out).mono ?_); (case side1 => exact ts6_ HO_7.out); (case side2 => exact (Kd.S_reads' HO_7.out).2.1); (case side3 => exact ts7_ HR1.out HB.out); (case side4 => exact HC1.out); rintro e w34 ⟨v161, rfl, ho0, hb⟩; replace HO_5 := Aside0.mk (Kd.S_elder' (ts30_ HO_5.out) (Kd.R_base ho0) hb); replace HO_7 := Aside0.mk (Kd.S_elder' (ts30_ HO_7.out) (Kd.R_base ho0) hb); have HO162 := Aside0.mk (Kd.R_lower (Kd.R_new' ho0 (Kd.R_lt (ts18_ HO158.out))) (below_size (ts29_ HB.out))); replace HO158 := Aside0.mk (Kd.R_elder' (ts18_ HO158.out) (Kd.R_base ho0) hb); replace HB := Aside0.mk (below_step (ts29_ HB.out) hb); clear hb; (try clear ho0); obtain ⟨Ao35, co35, eo35⟩ := Kd.R_slice HO158.out; subst eo35; obtain ⟨Ao36, co36, eo36⟩ := Kd.R_slice HO162.out; subst eo36) | (go_at_call 14; (with_reducible refine (cupellaw35_sameInts.calls k2 _ _ t155 _ _ t159 true _ ?side1 ?side2 ?side3 ?side4 A29.out).mono ?_); (case side1 => exact ts23_ HO158.out); (case side2 => exact (Kd.R_reads' HO158.out).2.1); (case side3 => exact ts23_ HO162.out); (case side4 => exact (Kd.R_reads' HO162.out).2.1); rintro e w' ⟨rfl, ⟨nd, rfl⟩⟩; (try first | exact ⟨rfl, _, World.drewN_drewN _ _ _⟩ | exact ⟨rfl, _, Eq.trans (World.drewN_drewN _ _ _) (congrArg (World.drewN _) (Nat.add_assoc _ _ _))⟩))); try go_wp2_with (first | (go_at_call 15; (with_reducible refine (groups_Represent.calls k2 _ _ t142 _ _ l1 t155 t156 _ ?side1 ?side2 ?side3 ?side4 A27.out).mono ?_); (case side1 => exact ts6_ HO_5.out); (case side2 => exact (Kd.S_reads' HO_5.out).2.1); (case side3 => exact ts7_ HR1.out HB.out); (case side4 => exact HC1.out); rintro e w32 ⟨v157, rfl, ho0, hb⟩; replace HO_5 := Aside0.mk (Kd.S_elder' (ts30_ HO_5.out) (Kd.R_base ho0) hb); replace HO_7 := Aside0.mk (Kd.S_elder' (ts30_ HO_7.out) (Kd.R_base ho0) hb); have HO158 := Aside0.mk (Kd.R_lower ho0 (below_size (ts29_ HB.out))); replace HB := Aside0.mk (below_step (ts29_ HB.out) hb); clear hb; (try clear ho0); obtain ⟨Ao33, co33, eo33⟩ := Kd.S_slice HO_7.out; subst eo33) | (go_at_call 16; (with_reducible refine (cupelref35_Represent.calls k2 _ _ t146 _ _ l1 t159 t160 _ ?side1 ?side2 ?side3 ?side4 A28.out).mono ?_); (case side1 => exact ts6_ HO_7.out); (case side2 => exact (Kd.S_reads' HO_7.out).2.1); (case side3 => exact ts7_ HR1.out HB.out); (case side4 => exact HC1.out); rintro e w34 ⟨v161, rfl, ho0, hb⟩; replace HO_5 := Aside0.mk (Kd.S_elder' (ts30_ HO_5.out) (Kd.R_base ho0) hb); replace HO_7 := Aside0.mk (Kd.S_elder' (ts30_ HO_7.out) (Kd.R_base ho0) hb); have HO162 := Aside0.mk (Kd.R_lower (Kd.R_new' ho0 (Kd.R_lt (ts18_ HO158.out))) (below_size (ts29_ HB.out))); replace HO158 := Aside0.mk (Kd.R_elder' (ts18_ HO158.out) (Kd.R_base ho0) hb); replace HB := Aside0.mk (below_step (ts29_ HB.out) hb); clear hb; (try clear ho0); obtain ⟨Ao35, co35, eo35⟩ := Kd.R_slice HO158.out; subst eo35; obtain ⟨Ao36, co36, eo36⟩ := Kd.R_slice HO162.out; subst eo36) | (go_at_call 14; (with_reducible refine (cupellaw35_sameInts.calls k2 _ _ t155 _ _ t159 true _ ?side1 ?side2 ?side3 ?side4 A29.out).mono ?_); (case side1 => exact ts23_ HO158.out); (case side2 => exact (Kd.R_reads' HO158.out).2.1); (case side3 => exact ts23_ HO162.out); (case side4 => exact (Kd.R_reads' HO162.out).2.1); rintro e w' ⟨rfl, ⟨nd, rfl⟩⟩; (try first | exact ⟨rfl, _, World.drewN_drewN _ _ _⟩ | exact ⟨rfl, _, Eq.trans (World.drewN_drewN _ _ _) (congrArg (World.drewN _) (Nat.add_assoc _ _ _))⟩))))
       go_ret
       exact ⟨ts26_, ts29_ HB.out⟩
      replace c30 := Bool.eq_false_iff.mpr c30
      subst c30
      rw [if_neg Bool.false_ne_true] at H
      exact absurd H (by simp)
 replace c4 := Bool.eq_false_iff.mpr c4
 subst c4
 rw [if_neg Bool.false_ne_true] at H
 exact absurd H (by simp)
/-! ### cupellaw35_GroupsAny: function 5 -/
def cupellaw35_GroupsAny.l0 : Nat → List (S35) → List Int → Int → Option (Bool)
 | 0, _, _, _ => none
 | k + 1, x0, x1, x5 => if x5 < (x0.length : Int) then (if 0 ≤ x5 then (if (((rd_T35 x0 x5).f1).length : Int) > 300 then (some true) else (cupellaw35_GroupsAny.l0 k x0 x1 (wrap64 (x5 + 1)))) else (none)) else ((groups_Represent.f k x0 x1).bind fun bt166 => ((cupelref35_Represent.f k x0 x1).bind fun bt170 => ((cupellaw35_sameInts.f k bt166.1 bt170.1).bind fun t174 => (if t174 = true then (some (bt166.2 == bt170.2)) else (none)))))
def cupellaw35_GroupsAny.f (k : Nat) (l0 : List (S35)) (l1 : List Int) : Option (Bool) := (cupellaw35_shown.f k).bind fun t164 => (if t164 = true then (if (l0.length : Int) > 300 then (some true) else (cupellaw35_GroupsAny.l0 k l0 l1 0)) else (none))
theorem cupellaw35_GroupsAny.mono_l : ∀ k, (∀ y0 y1 y2, LeO (cupellaw35_GroupsAny.l0 k y0 y1 y2) (cupellaw35_GroupsAny.l0 (k + 1) y0 y1 y2))
 | 0 => fun _ _ _ r h => by simp [cupellaw35_GroupsAny.l0] at h
 | k + 1 => by
  have ih0 := cupellaw35_GroupsAny.mono_l k
  ·intro y0 y1 y2
   unfold cupellaw35_GroupsAny.l0
   repeat' first
   | (with_reducible exact ih0 _ _ _)
   | (with_reducible exact cupellaw35_sameInts.mono _ _ _)
   | (with_reducible exact cupellaw35_shown.mono _)
   | (with_reducible exact cupelref35_Represent.mono _ _ _)
   | (with_reducible exact groups_Represent.mono _ _ _)
   | (with_reducible exact LeO.refl _)
   | (with_reducible exact LeO.none _)
   | (with_reducible refine LeO.ite ?_ ?_)
   | (with_reducible refine LeO.bind ?_ (fun _ => ?_))
   | exact LeO.none _
   | refine LeO.ite ?_ ?_
   | refine LeO.bind ?_ (fun _ => ?_)
theorem cupellaw35_GroupsAny.mono : ∀ a0 a1 k, LeO (cupellaw35_GroupsAny.f k a0 a1) (cupellaw35_GroupsAny.f (k + 1) a0 a1) := by
 intro a0 a1 k
 have ih0 := cupellaw35_GroupsAny.mono_l k
 unfold cupellaw35_GroupsAny.f
 repeat' first
   | (with_reducible exact ih0 _ _ _)
   | (with_reducible exact cupellaw35_sameInts.mono _ _ _)
   | (with_reducible exact cupellaw35_shown.mono _)
   | (with_reducible exact cupelref35_Represent.mono _ _ _)
   | (with_reducible exact groups_Represent.mono _ _ _)
   | (with_reducible exact LeO.refl _)
   | (with_reducible exact LeO.none _)
   | (with_reducible refine LeO.ite ?_ ?_)
   | (with_reducible refine LeO.bind ?_ (fun _ => ?_))
   | exact LeO.none _
   | refine LeO.ite ?_ ?_
   | refine LeO.bind ?_ (fun _ => ?_)
end Go.Proofs.YtndennmpnomjnaaDoor.A
