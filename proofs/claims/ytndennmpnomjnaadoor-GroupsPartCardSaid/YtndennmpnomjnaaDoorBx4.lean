/- Written by wip/tools/xprint.py, a program of this session that drives the kit's printer. Not trusted: Lean checks it. -/
import Derived.Test.YtndennmpnomjnaaDoorBx0
import Derived.Test.YtndennmpnomjnaaDoorBx1
import Derived.Test.YtndennmpnomjnaaDoorRe
import Derived.Test.YtndennmpnomjnaaDoorWr
set_option linter.all false
set_option maxHeartbeats 8000000
set_option maxRecDepth 100000
namespace Go.Proofs.YtndennmpnomjnaaDoor.A
open Go.RowKit Go.Proofs.YtndennmpnomjnaaDoorW.PrintWords Go.Proofs.YtndennmpnomjnaaDoorW.PrintLast Go.Proofs.YtndennmpnomjnaaDoorW.PrintMore
attribute [local go_sem] max2_int min2_int max_two min_two max_three min_three max_four min_four   -- for this text's walks alone
set_option linter.unusedVariables false
set_option linter.unusedSimpArgs false
/-! ### cupellaw35_GroupsPart: function 6 -/
mutual
def cupellaw35_GroupsPart.l0 : Nat → List ByteArray → List Int → List (S35) → List Int → Int → Option (Bool)
 | 0, _, _, _, _, _ => none
 | k + 1, x0, x1, x5, x7, x8 => if x8 < (x5.length : Int) then (cupellaw35_GroupsPart.l1 k x0 x1 x5 x7 x8 0) else (cupellaw35_GroupsPart.l2 k x0 x1 x5 x7 0)
def cupellaw35_GroupsPart.l1 : Nat → List ByteArray → List Int → List (S35) → List Int → Int → Int → Option (Bool)
 | 0, _, _, _, _, _, _ => none
 | k + 1, x0, x1, x5, x7, x8, x9 => if 0 ≤ x8 then (if x8 < (x5.length : Int) then (if x9 < (((rd_T35 x5 x8).f1).length : Int) then (if 0 ≤ x9 then (if (rd ((rd_T35 x5 x8).f1) x9) < 0 then (none) else (if (rd ((rd_T35 x5 x8).f1) x9) ≥ (x0.length : Int) then (none) else (if 0 ≤ (rd ((rd_T35 x5 x8).f1) x9) then (if (rd ((rd_T35 x5 x8).f1) x9) < (x7.length : Int) then (if (rd x7 (rd ((rd_T35 x5 x8).f1) x9)) = 0 then (if (rd ((rd_T35 x5 x8).f1) x9) < (x0.length : Int) then (if (rdOf ByteArray.empty x0 (rd ((rd_T35 x5 x8).f1) x9)).toList = ((rd_T35 x5 x8).f0).toList then (cupellaw35_GroupsPart.l1 k x0 x1 x5 (x7.set ((rd ((rd_T35 x5 x8).f1) x9) : Int).toNat (wrap64 (x8 + 1))) x8 (wrap64 (x9 + 1))) else (none)) else (none)) else (none)) else (none)) else (none)))) else (none)) else (cupellaw35_GroupsPart.l0 k x0 x1 x5 x7 (wrap64 (x8 + 1)))) else (none)) else (none)
def cupellaw35_GroupsPart.l2 : Nat → List ByteArray → List Int → List (S35) → List Int → Int → Option (Bool)
 | 0, _, _, _, _, _ => none
 | k + 1, x0, x1, x5, x7, x11 => if x11 < (x0.length : Int) then (if 0 ≤ x11 then (if x11 < (x7.length : Int) then (if (rd x7 x11) = 0 then (none) else (cupellaw35_GroupsPart.l3 k x0 x1 x5 x7 x11 0)) else (none)) else (none)) else (if (x1.length : Int) < (x0.length : Int) then (some true) else ((groups_Represent.f k x5 x1).bind fun bt195 => (if bt195.2 = 0 then (cupellaw35_GroupsPart.j4 k x0 x1 x7 bt195.1 ((bt195.1.length : Int) != (x5.length : Int))) else (cupellaw35_GroupsPart.j4 k x0 x1 x7 bt195.1 true))))
def cupellaw35_GroupsPart.l3 : Nat → List ByteArray → List Int → List (S35) → List Int → Int → Int → Option (Bool)
 | 0, _, _, _, _, _, _ => none
 | k + 1, x0, x1, x5, x7, x11, x12 => if x12 < x11 then (if 0 ≤ x11 then (if x11 < (x0.length : Int) then (if 0 ≤ x12 then (if x12 < (x0.length : Int) then (if x11 < (x7.length : Int) then (if x12 < (x7.length : Int) then (if (((rdOf ByteArray.empty x0 x11).toList == (rdOf ByteArray.empty x0 x12).toList) != ((rd x7 x11) == (rd x7 x12))) = true then (none) else (cupellaw35_GroupsPart.l3 k x0 x1 x5 x7 x11 (wrap64 (x12 + 1)))) else (none)) else (none)) else (none)) else (none)) else (none)) else (none)) else (cupellaw35_GroupsPart.l2 k x0 x1 x5 x7 (wrap64 (x11 + 1)))
def cupellaw35_GroupsPart.j4 : Nat → List ByteArray → List Int → List Int → List Int → Bool → Option (Bool)
 | 0, _, _, _, _, _ => none
 | k + 1, x0, x1, x7, x13, x141 => if x141 = true then (none) else (cupellaw35_GroupsPart.l4 k x0 x1 x7 x13 0)
def cupellaw35_GroupsPart.l4 : Nat → List ByteArray → List Int → List Int → List Int → Int → Option (Bool)
 | 0, _, _, _, _, _ => none
 | k + 1, x0, x1, x7, x13, x14 => if x14 < (x0.length : Int) then (if 0 ≤ x14 then (if x14 < (x7.length : Int) then (if 0 ≤ (wrap64 ((rd x7 x14) - 1)) then (if (wrap64 ((rd x7 x14) - 1)) < (x13.length : Int) then (if (rd x13 (wrap64 ((rd x7 x14) - 1))) < 0 then (none) else (if (rd x13 (wrap64 ((rd x7 x14) - 1))) ≥ (x0.length : Int) then (none) else (if 0 ≤ (rd x13 (wrap64 ((rd x7 x14) - 1))) then (if (rd x13 (wrap64 ((rd x7 x14) - 1))) < (x7.length : Int) then (if (rd x7 (rd x13 (wrap64 ((rd x7 x14) - 1)))) = (rd x7 x14) then (if (rd x13 (wrap64 ((rd x7 x14) - 1))) < (x1.length : Int) then (if x14 < (x1.length : Int) then (if (rd x1 (rd x13 (wrap64 ((rd x7 x14) - 1)))) > (rd x1 x14) then (none) else (cupellaw35_GroupsPart.l4 k x0 x1 x7 x13 (wrap64 (x14 + 1)))) else (none)) else (none)) else (none)) else (none)) else (none)))) else (none)) else (none)) else (none)) else (none)) else (some true)
end
def cupellaw35_GroupsPart.f (k : Nat) (l0 : List ByteArray) (l1 : List Int) : Option (Bool) := (cupellaw35_shown.f k).bind fun t175 => (if t175 = true then (if (l0.length : Int) > 300 then (some true) else ((gGroups.f k l0).bind fun bt176 => (if bt176.2 = 0 then (if 0 ≤ (l0.length : Int) then (if ((l0.length : Int) : Int).toNat ≤ 35184372088832 then (cupellaw35_GroupsPart.l0 k l0 l1 bt176.1 (List.replicate ((l0.length : Int) : Int).toNat 0) 0) else (none)) else (none)) else (none)))) else (none))
theorem cupellaw35_GroupsPart.mono_l : ∀ k, (∀ y0 y1 y2 y3 y4, LeO (cupellaw35_GroupsPart.l0 k y0 y1 y2 y3 y4) (cupellaw35_GroupsPart.l0 (k + 1) y0 y1 y2 y3 y4)) ∧ (∀ y0 y1 y2 y3 y4 y5, LeO (cupellaw35_GroupsPart.l1 k y0 y1 y2 y3 y4 y5) (cupellaw35_GroupsPart.l1 (k + 1) y0 y1 y2 y3 y4 y5)) ∧ (∀ y0 y1 y2 y3 y4, LeO (cupellaw35_GroupsPart.l2 k y0 y1 y2 y3 y4) (cupellaw35_GroupsPart.l2 (k + 1) y0 y1 y2 y3 y4)) ∧ (∀ y0 y1 y2 y3 y4 y5, LeO (cupellaw35_GroupsPart.l3 k y0 y1 y2 y3 y4 y5) (cupellaw35_GroupsPart.l3 (k + 1) y0 y1 y2 y3 y4 y5)) ∧ (∀ y0 y1 y2 y3 y4, LeO (cupellaw35_GroupsPart.j4 k y0 y1 y2 y3 y4) (cupellaw35_GroupsPart.j4 (k + 1) y0 y1 y2 y3 y4)) ∧ (∀ y0 y1 y2 y3 y4, LeO (cupellaw35_GroupsPart.l4 k y0 y1 y2 y3 y4) (cupellaw35_GroupsPart.l4 (k + 1) y0 y1 y2 y3 y4))
 | 0 => ⟨fun _ _ _ _ _ r h => by simp [cupellaw35_GroupsPart.l0] at h, fun _ _ _ _ _ _ r h => by simp [cupellaw35_GroupsPart.l1] at h, fun _ _ _ _ _ r h => by simp [cupellaw35_GroupsPart.l2] at h, fun _ _ _ _ _ _ r h => by simp [cupellaw35_GroupsPart.l3] at h, fun _ _ _ _ _ r h => by simp [cupellaw35_GroupsPart.j4] at h, fun _ _ _ _ _ r h => by simp [cupellaw35_GroupsPart.l4] at h⟩
 | k + 1 => by
  obtain ⟨ih0, ih1, ih2, ih3, ih4, ih5⟩ := cupellaw35_GroupsPart.mono_l k
  refine ⟨?_, ?_, ?_, ?_, ?_, ?_⟩
  ·intro y0 y1 y2 y3 y4
   unfold cupellaw35_GroupsPart.l0
   repeat' first
   | (with_reducible exact ih0 _ _ _ _ _)
   | (with_reducible exact ih1 _ _ _ _ _ _)
   | (with_reducible exact ih2 _ _ _ _ _)
   | (with_reducible exact ih3 _ _ _ _ _ _)
   | (with_reducible exact ih4 _ _ _ _ _)
   | (with_reducible exact ih5 _ _ _ _ _)
   | (with_reducible exact cupellaw35_shown.mono _)
   | (with_reducible exact gGroups.mono _ _)
   | (with_reducible exact groups_Represent.mono _ _ _)
   | (with_reducible exact LeO.refl _)
   | (with_reducible exact LeO.none _)
   | (with_reducible refine LeO.ite ?_ ?_)
   | (with_reducible refine LeO.bind ?_ (fun _ => ?_))
   | exact LeO.none _
   | refine LeO.ite ?_ ?_
   | refine LeO.bind ?_ (fun _ => ?_)
  ·intro y0 y1 y2 y3 y4 y5
   unfold cupellaw35_GroupsPart.l1
   repeat' first
   | (with_reducible exact ih0 _ _ _ _ _)
   | (with_reducible exact ih1 _ _ _ _ _ _)
   | (with_reducible exact ih2 _ _ _ _ _)
   | (with_reducible exact ih3 _ _ _ _ _ _)
   | (with_reducible exact ih4 _ _ _ _ _)
   | (with_reducible exact ih5 _ _ _ _ _)
   | (with_reducible exact cupellaw35_shown.mono _)
   | (with_reducible exact gGroups.mono _ _)
   | (with_reducible exact groups_Represent.mono _ _ _)
   | (with_reducible exact LeO.refl _)
   | (with_reducible exact LeO.none _)
   | (with_reducible refine LeO.ite ?_ ?_)
   | (with_reducible refine LeO.bind ?_ (fun _ => ?_))
   | exact LeO.none _
   | refine LeO.ite ?_ ?_
   | refine LeO.bind ?_ (fun _ => ?_)
  ·intro y0 y1 y2 y3 y4
   unfold cupellaw35_GroupsPart.l2
   repeat' first
   | (with_reducible exact ih0 _ _ _ _ _)
   | (with_reducible exact ih1 _ _ _ _ _ _)
   | (with_reducible exact ih2 _ _ _ _ _)
   | (with_reducible exact ih3 _ _ _ _ _ _)
   | (with_reducible exact ih4 _ _ _ _ _)
   | (with_reducible exact ih5 _ _ _ _ _)
   | (with_reducible exact cupellaw35_shown.mono _)
   | (with_reducible exact gGroups.mono _ _)
   | (with_reducible exact groups_Represent.mono _ _ _)
   | (with_reducible exact LeO.refl _)
   | (with_reducible exact LeO.none _)
   | (with_reducible refine LeO.ite ?_ ?_)
   | (with_reducible refine LeO.bind ?_ (fun _ => ?_))
   | exact LeO.none _
   | refine LeO.ite ?_ ?_
   | refine LeO.bind ?_ (fun _ => ?_)
  ·intro y0 y1 y2 y3 y4 y5
   unfold cupellaw35_GroupsPart.l3
   repeat' first
   | (with_reducible exact ih0 _ _ _ _ _)
   | (with_reducible exact ih1 _ _ _ _ _ _)
   | (with_reducible exact ih2 _ _ _ _ _)
   | (with_reducible exact ih3 _ _ _ _ _ _)
   | (with_reducible exact ih4 _ _ _ _ _)
   | (with_reducible exact ih5 _ _ _ _ _)
   | (with_reducible exact cupellaw35_shown.mono _)
   | (with_reducible exact gGroups.mono _ _)
   | (with_reducible exact groups_Represent.mono _ _ _)
   | (with_reducible exact LeO.refl _)
   | (with_reducible exact LeO.none _)
   | (with_reducible refine LeO.ite ?_ ?_)
   | (with_reducible refine LeO.bind ?_ (fun _ => ?_))
   | exact LeO.none _
   | refine LeO.ite ?_ ?_
   | refine LeO.bind ?_ (fun _ => ?_)
  ·intro y0 y1 y2 y3 y4
   unfold cupellaw35_GroupsPart.j4
   repeat' first
   | (with_reducible exact ih0 _ _ _ _ _)
   | (with_reducible exact ih1 _ _ _ _ _ _)
   | (with_reducible exact ih2 _ _ _ _ _)
   | (with_reducible exact ih3 _ _ _ _ _ _)
   | (with_reducible exact ih4 _ _ _ _ _)
   | (with_reducible exact ih5 _ _ _ _ _)
   | (with_reducible exact cupellaw35_shown.mono _)
   | (with_reducible exact gGroups.mono _ _)
   | (with_reducible exact groups_Represent.mono _ _ _)
   | (with_reducible exact LeO.refl _)
   | (with_reducible exact LeO.none _)
   | (with_reducible refine LeO.ite ?_ ?_)
   | (with_reducible refine LeO.bind ?_ (fun _ => ?_))
   | exact LeO.none _
   | refine LeO.ite ?_ ?_
   | refine LeO.bind ?_ (fun _ => ?_)
  intro y0 y1 y2 y3 y4
  unfold cupellaw35_GroupsPart.l4
  repeat' first
  | (with_reducible exact ih0 _ _ _ _ _)
  | (with_reducible exact ih1 _ _ _ _ _ _)
  | (with_reducible exact ih2 _ _ _ _ _)
  | (with_reducible exact ih3 _ _ _ _ _ _)
  | (with_reducible exact ih4 _ _ _ _ _)
  | (with_reducible exact ih5 _ _ _ _ _)
  | (with_reducible exact cupellaw35_shown.mono _)
  | (with_reducible exact gGroups.mono _ _)
  | (with_reducible exact groups_Represent.mono _ _ _)
  | (with_reducible exact LeO.refl _)
  | (with_reducible exact LeO.none _)
  | (with_reducible refine LeO.ite ?_ ?_)
  | (with_reducible refine LeO.bind ?_ (fun _ => ?_))
  | exact LeO.none _
  | refine LeO.ite ?_ ?_
  | refine LeO.bind ?_ (fun _ => ?_)
theorem cupellaw35_GroupsPart.mono : ∀ a0 a1 k, LeO (cupellaw35_GroupsPart.f k a0 a1) (cupellaw35_GroupsPart.f (k + 1) a0 a1) := by
 intro a0 a1 k
 obtain ⟨ih0, ih1, ih2, ih3, ih4, ih5⟩ := cupellaw35_GroupsPart.mono_l k
 unfold cupellaw35_GroupsPart.f
 repeat' first
   | (with_reducible exact ih0 _ _ _ _ _)
   | (with_reducible exact ih1 _ _ _ _ _ _)
   | (with_reducible exact ih2 _ _ _ _ _)
   | (with_reducible exact ih3 _ _ _ _ _ _)
   | (with_reducible exact ih4 _ _ _ _ _)
   | (with_reducible exact ih5 _ _ _ _ _)
   | (with_reducible exact cupellaw35_shown.mono _)
   | (with_reducible exact gGroups.mono _ _)
   | (with_reducible exact groups_Represent.mono _ _ _)
   | (with_reducible exact LeO.refl _)
   | (with_reducible exact LeO.none _)
   | (with_reducible refine LeO.ite ?_ ?_)
   | (with_reducible refine LeO.bind ?_ (fun _ => ?_))
   | exact LeO.none _
   | refine LeO.ite ?_ ?_
   | refine LeO.bind ?_ (fun _ => ?_)
theorem cupellaw35_GroupsPart.calls (k : Nat) (A0 : Option Addr) (c0 : Nat) (l0 : List ByteArray) (A1 : Option Addr) (c1 : Nat) (l1 : List Int) (r : Bool) (w : World) (hr0 : Kd.C Kd.string w A0 l0.length l0) (hc0 : l0.length ≤ c0) (hr1 : Kd.C (Kd.int .i64) w A1 l1.length l1) (hc1 : l1.length ≤ c1) (h : cupellaw35_GroupsPart.f k l0 l1 = some r) (hE_ : Env w := by exact Env.below HEnv_.out (by repeat (first | (with_reducible first | exact HB.out | apply below_alloc | apply pw_below_drewN | apply below_drew1 | refine below_set ?_ (Aside0.out (by assumption))) | exact HB.out)) HEnv_.out.big) :
  Calls Tryd.prog 6 #[.slice A0 l0.length c0, .slice A1 l1.length c1] w fun e w' => e = .returned (.bool r) ∧ Below w.heap.size w w' := by
 have HEnv_ := Aside0.mk hE_
 clear hE_
 have HR0 := Aside0.mk hr0
 have HC0 := Aside0.mk hc0
 clear hr0 hc0
 have HR1 := Aside0.mk hr1
 have HC1 := Aside0.mk hc1
 clear hr1 hc1
 have HB := Aside0.mk (Below.refl w.heap.size w)
 have H : ((cupellaw35_shown.f k).bind fun t175 => (if t175 = true then (if (l0.length : Int) > 300 then (some true) else ((gGroups.f k l0).bind fun bt176 => (if bt176.2 = 0 then (if 0 ≤ (l0.length : Int) then (if ((l0.length : Int) : Int).toNat ≤ 35184372088832 then (cupellaw35_GroupsPart.l0 k l0 l1 bt176.1 (List.replicate ((l0.length : Int) : Int).toNat 0) 0) else (none)) else (none)) else (none)))) else (none))) = some r := h
 clear h
 obtain ⟨t175, A3, H⟩ := bsA_ H
 try dsimp only at H
 by_cases c4 : t175 = true
 ·subst c4
  rw [if_pos rfl] at H
  by_cases c5 : (l0.length : Int) > 300
  ·rw [if_pos c5] at H
   have c5b0 : decide (300 < (l0.length : Int)) = true := decide_eq_true c5
   have c5b1 : decide (300 < l0.length) = true := decide_eq_true (by omega)
   clear c5
   obtain rfl := Option.some.inj H
   go_enter Tryd.func6, Tryd.ntmps6
   go_wp2_with (first | (go_at_call 8; (with_reducible refine (cupellaw35_shown.calls k  true _ A3.out).mono ?_); rintro e w6 ⟨rfl, hb⟩; replace HB := Aside0.mk (below_step (ts19_ HB.out) hb); clear hb))
   repeat (go_quiet (first | (go_at_call 8; (with_reducible refine (cupellaw35_shown.calls k  true _ A3.out).mono ?_); rintro e w6 ⟨rfl, hb⟩; replace HB := Aside0.mk (below_step (ts19_ HB.out) hb); clear hb)); try go_wp2_with (first | (go_at_call 8; (with_reducible refine (cupellaw35_shown.calls k  true _ A3.out).mono ?_); rintro e w6 ⟨rfl, hb⟩; replace HB := Aside0.mk (below_step (ts19_ HB.out) hb); clear hb)))
   go_ret
   exact ⟨ts15_, ts19_ HB.out⟩
  rw [if_neg c5] at H
  have c5b0 : decide (300 < (l0.length : Int)) = false := decide_eq_false c5
  have c5b1 : decide (300 < l0.length) = false := decide_eq_false (by omega)
  clear c5
  obtain ⟨⟨t176, t177⟩, A7, H⟩ := bsA_ H
  try dsimp only at H
  by_cases c8 : t177 = 0
  ·rw [if_pos c8] at H
   have c8b0 : (t177 == 0) = true := beq_iff_eq.mpr c8
   have c8b1 : (t177 != 0) = false := bne_eq_false_iff_eq.mpr c8
   clear c8
   by_cases c9 : 0 ≤ (l0.length : Int)
   ·rw [if_pos c9] at H
    have c9b0 := eq_true c9
    have c9b1 : decide (0 ≤ (l0.length : Int)) = true := decide_eq_true c9
    clear c9
    by_cases c10 : ((l0.length : Int) : Int).toNat ≤ 35184372088832
    ·rw [if_pos c10] at H
     have c10b0 := eq_true c10
     have c10b1 : decide (((l0.length : Int) : Int).toNat ≤ 35184372088832) = true := decide_eq_true c10
     clear c10
     obtain ⟨y180, hy180⟩ : ∃ y_ : List Int, y_ = (List.replicate ((l0.length : Int) : Int).toNat 0) := ⟨_, rfl⟩
     replace H : (cupellaw35_GroupsPart.l0 k l0 l1 t176 y180 0) = some r := by first | (rw [hy180]; with_reducible exact H) | (have H2_ := (Option.bind_some _ _).symm.trans H; rw [hy180]; with_reducible exact H2_) | (have H2_ := (Option.bind_some _ _).symm.trans H; with_reducible exact H2_) | with_reducible exact H | (rw [hy180]; exact H) | exact H
     have Ny180 := Aside0.mk hy180
     clear hy180
     have H' := Aside0.mk H
     clear H
     go_enter Tryd.func6, Tryd.ntmps6
     go_wp2_with (first | (go_at_call 8; (with_reducible refine (cupellaw35_shown.calls k  true _ A3.out).mono ?_); rintro e w11 ⟨rfl, hb⟩; replace HB := Aside0.mk (below_step (ts19_ HB.out) hb); clear hb) | (go_at_call 12; (with_reducible refine (gGroups.calls k _ _ l0 t176 t177 _ ?side1 ?side2 A7.out).mono ?_); (case side1 => exact ts3_ HR0.out HB.out); (case side2 => exact HC0.out); rintro e w12 ⟨v178, rfl, ho0, hb⟩; have HO179 := Aside0.mk (Kd.S_lower ho0 (below_size (ts19_ HB.out))); replace HB := Aside0.mk (below_step (ts19_ HB.out) hb); clear hb; (try clear ho0)) | ((with_reducible refine gate_dst (N := 30) rfl ?_); (try (refine gate_guard (by rfl) ?_; dsimp only)); refine Kd.R_make (Kd.int .i64) _ 3 rfl (N := 30) rfl 30 _ _ rfl (l0.length : Int) rfl rfl Tryd.underlying30 (.int .i64 0) 8 info3 rfl (by decide) (by omega) 0 (ok := fun _ => True) (okp := fun _ => True) rfl (fun _ hk => hk) trivial (of_decide_eq_true ts13_) (Nat.le_trans (Nat.mul_le_mul_right _ (of_decide_eq_true ts13_ : (l0.length : Int).toNat ≤ 35184372088832)) (by omega)) (Below.refl _ _) (Nat.le_refl _) ?_; intro v181 w13 ho14 hb hg_ hnew_; clear hg_ hnew_; (first | rw [← Ny180.out] at ho14 | (simp only [Int.reduceToNat] at ho14; rw [← Ny180.out] at ho14)); replace HO179 := Aside0.mk (Kd.S_elder' (ts20_ HO179.out) (Kd.R_base ho14) hb); have HO182 := Aside0.mk (Kd.R_lower ho14 (below_size (ts19_ HB.out))); replace HB := Aside0.mk (below_step (ts19_ HB.out) hb); clear hb ho14))
     repeat (go_quiet (first | (go_at_call 8; (with_reducible refine (cupellaw35_shown.calls k  true _ A3.out).mono ?_); rintro e w11 ⟨rfl, hb⟩; replace HB := Aside0.mk (below_step (ts19_ HB.out) hb); clear hb) | (go_at_call 12; (with_reducible refine (gGroups.calls k _ _ l0 t176 t177 _ ?side1 ?side2 A7.out).mono ?_); (case side1 => exact ts3_ HR0.out HB.out); (case side2 => exact HC0.out); rintro e w12 ⟨v178, rfl, ho0, hb⟩; have HO179 := Aside0.mk (Kd.S_lower ho0 (below_size (ts19_ HB.out))); replace HB := Aside0.mk (below_step (ts19_ HB.out) hb); clear hb; (try clear ho0)) | ((with_reducible refine gate_dst (N := 30) rfl ?_); (try (refine gate_guard (by rfl) ?_; dsimp only)); refine Kd.R_make (Kd.int .i64) _ 3 rfl (N := 30) rfl 30 _ _ rfl (l0.length : Int) rfl rfl Tryd.underlying30 (.int .i64 0) 8 info3 rfl (by decide) (by omega) 0 (ok := fun _ => True) (okp := fun _ => True) rfl (fun _ hk => hk) trivial (of_decide_eq_true ts13_) (Nat.le_trans (Nat.mul_le_mul_right _ (of_decide_eq_true ts13_ : (l0.length : Int).toNat ≤ 35184372088832)) (by omega)) (Below.refl _ _) (Nat.le_refl _) ?_; intro v181 w13 ho14 hb hg_ hnew_; clear hg_ hnew_; (first | rw [← Ny180.out] at ho14 | (simp only [Int.reduceToNat] at ho14; rw [← Ny180.out] at ho14)); replace HO179 := Aside0.mk (Kd.S_elder' (ts20_ HO179.out) (Kd.R_base ho14) hb); have HO182 := Aside0.mk (Kd.R_lower ho14 (below_size (ts19_ HB.out))); replace HB := Aside0.mk (below_step (ts19_ HB.out) hb); clear hb ho14)); try go_wp2_with (first | (go_at_call 8; (with_reducible refine (cupellaw35_shown.calls k  true _ A3.out).mono ?_); rintro e w11 ⟨rfl, hb⟩; replace HB := Aside0.mk (below_step (ts19_ HB.out) hb); clear hb) | (go_at_call 12; (with_reducible refine (gGroups.calls k _ _ l0 t176 t177 _ ?side1 ?side2 A7.out).mono ?_); (case side1 => exact ts3_ HR0.out HB.out); (case side2 => exact HC0.out); rintro e w12 ⟨v178, rfl, ho0, hb⟩; have HO179 := Aside0.mk (Kd.S_lower ho0 (below_size (ts19_ HB.out))); replace HB := Aside0.mk (below_step (ts19_ HB.out) hb); clear hb; (try clear ho0)) | ((with_reducible refine gate_dst (N := 30) rfl ?_); (try (refine gate_guard (by rfl) ?_; dsimp only)); refine Kd.R_make (Kd.int .i64) _ 3 rfl (N := 30) rfl 30 _ _ rfl (l0.length : Int) rfl rfl Tryd.underlying30 (.int .i64 0) 8 info3 rfl (by decide) (by omega) 0 (ok := fun _ => True) (okp := fun _ => True) rfl (fun _ hk => hk) trivial (of_decide_eq_true ts13_) (Nat.le_trans (Nat.mul_le_mul_right _ (of_decide_eq_true ts13_ : (l0.length : Int).toNat ≤ 35184372088832)) (by omega)) (Below.refl _ _) (Nat.le_refl _) ?_; intro v181 w13 ho14 hb hg_ hnew_; clear hg_ hnew_; (first | rw [← Ny180.out] at ho14 | (simp only [Int.reduceToNat] at ho14; rw [← Ny180.out] at ho14)); replace HO179 := Aside0.mk (Kd.S_elder' (ts20_ HO179.out) (Kd.R_base ho14) hb); have HO182 := Aside0.mk (Kd.R_lower ho14 (below_size (ts19_ HB.out))); replace HB := Aside0.mk (below_step (ts19_ HB.out) hb); clear hb ho14)))
     go_loopg [8] k (fun kq v8 w' => ∃ (x7_1 : List Int) (x8_1 : Int), v8 = .int .i64 x8_1 ∧ Aside0 (cupellaw35_GroupsPart.l0 kq l0 l1 t176 x7_1 x8_1 = some r) ∧ Aside0 (kq ≤ k) ∧ Aside0 (Kd.S k35 35 w' w.heap.size (fun k_ => some k_ ≠ (v181 : Value).ownBlock) v178 t176) ∧ Aside0 (Kd.R (Kd.int .i64) 3 w' w.heap.size (fun _ => True) v181 x7_1) ∧ Aside0 (Below w.heap.size w w'))
     case atStart => exact ⟨(y180), (0), ts18_, H', ⟨Nat.le_refl _⟩, ⟨by (with_reducible repeat (first | apply Kd.S_alloc | apply Kd.S_drewN | apply Kd.S_drew)); exact Kd.S_mono HO179.out (fun _ hk => hk.2)⟩, ⟨ts10_ HO182.out⟩, ⟨ts19_ HB.out⟩⟩
     case round =>
      clear H'
      try clear c1
      try clear p2
      try clear c4
      try clear c5
      try clear c5b0
      try clear c5b1
      try clear c6
      try clear c8
      try clear c8b0
      try clear c8b1
      try clear c9
      try clear c9b0
      try clear c9b1
      try clear c10
      try clear c10b0
      try clear c10b1
      obtain ⟨x7_1, x8_1, rfl, HA, HK1, HO_5, HO_7, HB⟩ := hrel
      cases gk with
      | zero => exact absurd HA.out (by simp [cupellaw35_GroupsPart.l0])
      | succ k1 =>
       have H := HA.out
       clear HA
       simp only [cupellaw35_GroupsPart.l0] at H
       by_cases c15 : x8_1 < (t176.length : Int)
       ·rw [if_pos c15] at H
        have c15b0 : decide (x8_1 < (t176.length : Int)) = true := decide_eq_true c15
        clear c15
        have H' := Aside0.mk H
        clear H
        obtain ⟨Ao16, co16, eo16⟩ := Kd.S_slice HO_5.out
        subst eo16
        go_wp2
        repeat (go_quiet (fail); try go_wp2)
        go_loopg [9] k1 (fun kq v9 w' => ∃ (x7_2 : List Int) (x9_2 : Int), v9 = .int .i64 x9_2 ∧ Aside0 (cupellaw35_GroupsPart.l1 kq l0 l1 t176 x7_2 x8_1 x9_2 = some r) ∧ Aside0 (kq ≤ k1) ∧ Aside0 (Kd.S k35 35 w' w.heap.size (fun k_ => some k_ ≠ (v181 : Value).ownBlock) (.slice Ao16 t176.length co16) t176) ∧ Aside0 (Kd.R (Kd.int .i64) 3 w' w.heap.size (fun _ => True) v181 x7_2) ∧ Aside0 (Below w.heap.size w w'))
        case atStart => exact ⟨(x7_1), (0), ts18_, H', ⟨Nat.le_refl _⟩, ⟨ts20_ HO_5.out⟩, ⟨ts10_ HO_7.out⟩, ⟨ts19_ HB.out⟩⟩
        case round =>
         clear H'
         try clear c1
         try clear p2
         try clear c4
         try clear c5
         try clear c5b0
         try clear c5b1
         try clear c6
         try clear c8
         try clear c8b0
         try clear c8b1
         try clear c9
         try clear c9b0
         try clear c9b1
         try clear c10
         try clear c10b0
         try clear c10b1
         try clear c15
         try clear c15b0
         try clear p2
         obtain ⟨x7_2, x9_2, rfl, HA, HK2, HO_5, HO_7, HB⟩ := hrel
         cases gk with
         | zero => exact absurd HA.out (by simp [cupellaw35_GroupsPart.l1])
         | succ k2 =>
          have H := HA.out
          clear HA
          simp only [cupellaw35_GroupsPart.l1] at H
          by_cases c17 : 0 ≤ x8_1
          ·rw [if_pos c17] at H
           have c17b0 : decide (0 ≤ x8_1) = true := decide_eq_true c17
           clear c17
           by_cases c18 : x8_1 < (t176.length : Int)
           ·rw [if_pos c18] at H
            have c18b0 : decide (x8_1 < (t176.length : Int)) = true := decide_eq_true c18
            clear c18
            by_cases c19 : x9_2 < (((rd_T35 t176 x8_1).f1).length : Int)
            ·rw [if_pos c19] at H
             have c19b0 : decide (x9_2 < (((rd_T35 t176 x8_1).f1).length : Int)) = true := decide_eq_true c19
             clear c19
             by_cases c20 : 0 ≤ x9_2
             ·rw [if_pos c20] at H
              have c20b0 : decide (0 ≤ x9_2) = true := decide_eq_true c20
              clear c20
              by_cases c21 : (rd ((rd_T35 t176 x8_1).f1) x9_2) < 0
              ·rw [if_pos c21] at H
               exact absurd H (by simp)
              rw [if_neg c21] at H
              have c21b0 : decide ((rd ((rd_T35 t176 x8_1).f1) x9_2) < 0) = false := decide_eq_false c21
              clear c21
              by_cases c22 : (rd ((rd_T35 t176 x8_1).f1) x9_2) ≥ (l0.length : Int)
              ·rw [if_pos c22] at H
               exact absurd H (by simp)
              rw [if_neg c22] at H
              have c22b0 : decide ((l0.length : Int) ≤ (rd ((rd_T35 t176 x8_1).f1) x9_2)) = false := decide_eq_false c22
              clear c22
              by_cases c23 : 0 ≤ (rd ((rd_T35 t176 x8_1).f1) x9_2)
              ·rw [if_pos c23] at H
               have c23b0 : decide (0 ≤ (rd ((rd_T35 t176 x8_1).f1) x9_2)) = true := decide_eq_true c23
               clear c23
               by_cases c24 : (rd ((rd_T35 t176 x8_1).f1) x9_2) < (x7_2.length : Int)
               ·rw [if_pos c24] at H
                have c24b0 : decide ((rd ((rd_T35 t176 x8_1).f1) x9_2) < (x7_2.length : Int)) = true := decide_eq_true c24
                clear c24
                by_cases c25 : (rd x7_2 (rd ((rd_T35 t176 x8_1).f1) x9_2)) = 0
                ·rw [if_pos c25] at H
                 have c25b0 : ((rd x7_2 (rd ((rd_T35 t176 x8_1).f1) x9_2)) == 0) = true := beq_iff_eq.mpr c25
                 have c25b1 : ((rd x7_2 (rd ((rd_T35 t176 x8_1).f1) x9_2)) != 0) = false := bne_eq_false_iff_eq.mpr c25
                 clear c25
                 by_cases c26 : (rd ((rd_T35 t176 x8_1).f1) x9_2) < (l0.length : Int)
                 ·rw [if_pos c26] at H
                  have c26b0 : decide ((rd ((rd_T35 t176 x8_1).f1) x9_2) < (l0.length : Int)) = true := decide_eq_true c26
                  clear c26
                  by_cases c27 : (rdOf ByteArray.empty l0 (rd ((rd_T35 t176 x8_1).f1) x9_2)).toList = ((rd_T35 t176 x8_1).f0).toList
                  ·rw [if_pos c27] at H
                   have c27b0 : ((rdOf ByteArray.empty l0 (rd ((rd_T35 t176 x8_1).f1) x9_2)).toList == ((rd_T35 t176 x8_1).f0).toList) = true := beq_iff_eq.mpr c27
                   have c27b1 : ((rdOf ByteArray.empty l0 (rd ((rd_T35 t176 x8_1).f1) x9_2)).toList != ((rd_T35 t176 x8_1).f0).toList) = false := bne_eq_false_iff_eq.mpr c27
                   clear c27
                   obtain ⟨y189, hy189⟩ : ∃ y_ : List Int, y_ = (x7_2.set ((rd ((rd_T35 t176 x8_1).f1) x9_2) : Int).toNat (wrap64 (x8_1 + 1))) := ⟨_, rfl⟩
                   replace H : (cupellaw35_GroupsPart.l1 k2 l0 l1 t176 y189 x8_1 (wrap64 (x9_2 + 1))) = some r := by first | (rw [hy189]; with_reducible exact H) | (have H2_ := (Option.bind_some _ _).symm.trans H; rw [hy189]; with_reducible exact H2_) | (have H2_ := (Option.bind_some _ _).symm.trans H; with_reducible exact H2_) | with_reducible exact H | (rw [hy189]; exact H) | exact H
                   have Ny189 := Aside0.mk hy189
                   clear hy189
                   have H' := Aside0.mk H
                   clear H
                   have p183 : 0 ≤ (x8_1 : Int) := of_decide_eq_true ts13_
                   have q183 : x8_1 < (t176.length : Int) := of_decide_eq_true ts13_
                   obtain ⟨ad183, A183_1, c183_1, e183, hx183_0, hx183_1, hl183_1, hi183_1⟩ := at_T35 (Kd.S_reads' HO_5.out).2.2 x8_1 p183 q183
                   cases e183
                   obtain ⟨ce183, hce183, hMe183, hcc183⟩ := Kd.S_get HO_5.out z35 x8_1 p183 (by first | exact q183 | exact of_decide_eq_true ts13_ | (have e_ := (Kd.S_reads' HO_5.out).1; omega))
                   obtain ⟨ve183_1, rfl, ge183_1⟩ := k35_openM hMe183
                   have hv183_1 := hcc183 1 _ rfl
                   rw [add_field _ _ 1 (by omega)] at hv183_1
                   replace hv183_1 := Option.some.inj (hv183_1.symm.trans hx183_1)
                   rw [hv183_1] at ge183_1
                   have HL183_1 := Aside0.mk (show Kd.R (Kd.int .i64) 3 _ _ _ _ ((rd_T35 t176 x8_1).f1) from ge183_1)
                   clear hv183_1 ge183_1
                   clear hcc183 hce183
                   have HR183_1 := Aside0.mk hi183_1
                   have HC183_1 := Aside0.mk hl183_1
                   clear hi183_1 hl183_1
                   replace p183 := eq_true p183
                   replace q183 := eq_true q183
                   have p184 : 0 ≤ (x8_1 : Int) := of_decide_eq_true ts13_
                   have q184 : x8_1 < (t176.length : Int) := of_decide_eq_true ts13_
                   obtain ⟨ad184, A184_1, c184_1, e184, hx184_0, hx184_1, hl184_1, hi184_1⟩ := at_T35 (Kd.S_reads' HO_5.out).2.2 x8_1 p184 q184
                   obtain rfl : ad183 = ad184 := (by injection e184)
                   obtain ⟨ce184, hce184, hMe184, hcc184⟩ := Kd.S_get HO_5.out z35 x8_1 p184 (by first | exact q184 | exact of_decide_eq_true ts13_ | (have e_ := (Kd.S_reads' HO_5.out).1; omega))
                   obtain ⟨ve184_1, rfl, ge184_1⟩ := k35_openM hMe184
                   have hv184_1 := hcc184 1 _ rfl
                   rw [add_field _ _ 1 (by omega)] at hv184_1
                   replace hv184_1 := Option.some.inj (hv184_1.symm.trans hx184_1)
                   rw [hv184_1] at ge184_1
                   have HL184_1 := Aside0.mk (show Kd.R (Kd.int .i64) 3 _ _ _ _ ((rd_T35 t176 x8_1).f1) from ge184_1)
                   clear hv184_1 ge184_1
                   clear hcc184 hce184
                   have HR184_1 := Aside0.mk hi184_1
                   have HC184_1 := Aside0.mk hl184_1
                   clear hi184_1 hl184_1
                   replace p184 := eq_true p184
                   replace q184 := eq_true q184
                   have ea_ := Option.some.inj (hx183_1.symm.trans hx184_1)
                   injection ea_ with ea_ en_ ec_
                   subst ea_
                   subst ec_
                   clear en_
                   have p185 : 0 ≤ (x9_2 : Int) := of_decide_eq_true ts13_
                   have q185 : x9_2 < (((rd_T35 t176 x8_1).f1).length : Int) := of_decide_eq_true ts13_
                   obtain ⟨ad185, e185, hx185_0⟩ := Kd.at_int (by repeat (first | (with_reducible exact HR184_1.out) | (with_reducible refine Kd.C_alloc ?_ _) | (with_reducible refine Kd.C_drewN ?_ _) | (with_reducible refine Kd.C_drew ?_) | exact HR184_1.out)) x9_2 p185 q185
                   cases e185
                   replace p185 := eq_true p185
                   replace q185 := eq_true q185
                   obtain ⟨Ao29, co29, eo29⟩ := Kd.R_slice HO_7.out
                   subst eo29
                   have p186 : 0 ≤ ((rd ((rd_T35 t176 x8_1).f1) x9_2) : Int) := of_decide_eq_true ts13_
                   have q186 : (rd ((rd_T35 t176 x8_1).f1) x9_2) < (x7_2.length : Int) := of_decide_eq_true ts13_
                   obtain ⟨ad186, e186, hx186_0⟩ := Kd.at_int (Kd.R_reads' HO_7.out).2.2 (rd ((rd_T35 t176 x8_1).f1) x9_2) p186 q186
                   cases e186
                   replace p186 := eq_true p186
                   replace q186 := eq_true q186
                   have p187 : 0 ≤ ((rd ((rd_T35 t176 x8_1).f1) x9_2) : Int) := of_decide_eq_true ts13_
                   have q187 : (rd ((rd_T35 t176 x8_1).f1) x9_2) < (l0.length : Int) := of_decide_eq_true ts13_
                   obtain ⟨ad187, e187, hx187_0⟩ := Kd.at_string HR0.out (rd ((rd_T35 t176 x8_1).f1) x9_2) p187 q187
                   cases e187
                   replace hx187_0 := (HB.out.cell (World.block_lt_of_cell? w _ hx187_0)).trans hx187_0
                   replace p187 := eq_true p187
                   replace q187 := eq_true q187
                   have p188 : 0 ≤ (x8_1 : Int) := of_decide_eq_true ts13_
                   have q188 : x8_1 < (t176.length : Int) := of_decide_eq_true ts13_
                   obtain ⟨ad188, A188_1, c188_1, e188, hx188_0, hx188_1, hl188_1, hi188_1⟩ := at_T35 (Kd.S_reads' HO_5.out).2.2 x8_1 p188 q188
                   obtain rfl : ad183 = ad188 := (by injection e188)
                   obtain ⟨ce188, hce188, hMe188, hcc188⟩ := Kd.S_get HO_5.out z35 x8_1 p188 (by first | exact q188 | exact of_decide_eq_true ts13_ | (have e_ := (Kd.S_reads' HO_5.out).1; omega))
                   obtain ⟨ve188_1, rfl, ge188_1⟩ := k35_openM hMe188
                   have hv188_1 := hcc188 1 _ rfl
                   rw [add_field _ _ 1 (by omega)] at hv188_1
                   replace hv188_1 := Option.some.inj (hv188_1.symm.trans hx188_1)
                   rw [hv188_1] at ge188_1
                   have HL188_1 := Aside0.mk (show Kd.R (Kd.int .i64) 3 _ _ _ _ ((rd_T35 t176 x8_1).f1) from ge188_1)
                   clear hv188_1 ge188_1
                   clear hcc188 hce188
                   have HR188_1 := Aside0.mk hi188_1
                   have HC188_1 := Aside0.mk hl188_1
                   clear hi188_1 hl188_1
                   replace p188 := eq_true p188
                   replace q188 := eq_true q188
                   have ea_ := Option.some.inj (hx183_1.symm.trans hx188_1)
                   injection ea_ with ea_ en_ ec_
                   subst ea_
                   subst ec_
                   clear en_
                   have p28 : 0 ≤ ((rd ((rd_T35 t176 x8_1).f1) x9_2) : Int) := of_decide_eq_true ts13_
                   have q28 : ((rd ((rd_T35 t176 x8_1).f1) x9_2) : Int) < ((x7_2.length : Int) : Int) := of_decide_eq_true ts13_
                   obtain ⟨go28, co28, eo28, gb28, gl28, cl28, HG28⟩ := Kd.R_form HO_7.out (by omega)
                   (first | cases eo28 | (injection eo28 with ea_ en_ ec_; (first | subst ea_ | (injection ea_ with ea_; subst ea_)); subst ec_; clear en_))
                   have GB28 := Aside0.mk gb28
                   have GG28 := Aside0.mk HG28
                   clear gb28 gl28 HG28
                   (first | simp only [add_plain] at hx186_0 | skip)
                   obtain ⟨hx28_0, hf28_0⟩ := Kd.R_celln 0 HO_7.out ((rd ((rd_T35 t176 x8_1).f1) x9_2) : Int) p28 q28
                   replace p28 := eq_true p28
                   replace q28 := eq_true q28
                   have HP30 := Kd.R_putg HO_7.out ((rd ((rd_T35 t176 x8_1).f1) x9_2) : Int) (wrap64 (x8_1 + 1))
                   go_wp2_with (first | ((with_reducible refine gate_store (t := 3) (p := 86) rfl ?_); (try (rw [drewN_self wr]; generalize hq_ : World.drewN wr _ = wr; have n0_ := Aside0.mk (Kd.S_at hq_ HO_5.out); have n1_ := Aside0.mk (Kd.R_at hq_ HO_7.out); have n5_ := Aside0.mk (below_at hq_ HB.out); clear hq_ HO_5 HO_7 HB; have HO_5 := n0_; have HO_7 := n1_; have HB := n5_; clear n0_ n1_ n5_; (try (have HP30 := Kd.R_putg HO_7.out ((rd ((rd_T35 t176 x8_1).f1) x9_2) : Int) (wrap64 (x8_1 + 1)))); have xf_ := Kd.R_celln 0 HO_7.out ((rd ((rd_T35 t176 x8_1).f1) x9_2) : Int) (of_eq_true p28) (of_eq_true q28); have hx28_0 := xf_.1; have hf28_0 := xf_.2; clear xf_)); refine store_event (t := 3) (p := 86) (v := ?vo_w31) (w1 := (wr.setCell ⟨go28, ((rd ((rd_T35 t176 x8_1).f1) x9_2) : Int).toNat, none⟩ (.int .i64 (wrap64 (x8_1 + 1))))) ?hg ?ho ?hn ?hr ?_; (case ho => rfl); (case hg => rfl); (case hn => rfl); (case hr => exact ts7_); intro w31 hw; have hg : wr.grownBy w31 (some go28) := (by rw [hw]; exact HP30.2); have hp_ : Kd.R (Kd.int .i64) 3 w31 w.heap.size (fun _ => True) (.slice (some ⟨go28, 0, none⟩) x7_2.length co29) y189 := (by rw [hw, Ny189.out]; exact HP30.1); clear HP30; have n0_ := Aside0.mk (Kd.S_after (v := (.slice (some ⟨go28, 0, none⟩) x7_2.length co29)) (v1 := (.slice (some ⟨go28, 0, none⟩) x7_2.length co29)) (ok := (fun _ => True)) (ts21_ HO_5.out) hg (.inl rfl)); have n1_ := Aside0.mk (hp_); have n5_ := Aside0.mk ((by rw [hw]; exact below_set (HB.out) GB28.out : Below w.heap.size w w31)); clear HO_5 HO_7 HB; have HO_5 := n0_; have HO_7 := n1_; have HB := n5_; clear n0_ n1_ n5_; clear hg hw hp_))
                   repeat (go_quiet (first | ((with_reducible refine gate_store (t := 3) (p := 86) rfl ?_); (try (rw [drewN_self wr]; generalize hq_ : World.drewN wr _ = wr; have n0_ := Aside0.mk (Kd.S_at hq_ HO_5.out); have n1_ := Aside0.mk (Kd.R_at hq_ HO_7.out); have n5_ := Aside0.mk (below_at hq_ HB.out); clear hq_ HO_5 HO_7 HB; have HO_5 := n0_; have HO_7 := n1_; have HB := n5_; clear n0_ n1_ n5_; (try (have HP30 := Kd.R_putg HO_7.out ((rd ((rd_T35 t176 x8_1).f1) x9_2) : Int) (wrap64 (x8_1 + 1)))); have xf_ := Kd.R_celln 0 HO_7.out ((rd ((rd_T35 t176 x8_1).f1) x9_2) : Int) (of_eq_true p28) (of_eq_true q28); have hx28_0 := xf_.1; have hf28_0 := xf_.2; clear xf_)); refine store_event (t := 3) (p := 86) (v := ?vo_w31) (w1 := (wr.setCell ⟨go28, ((rd ((rd_T35 t176 x8_1).f1) x9_2) : Int).toNat, none⟩ (.int .i64 (wrap64 (x8_1 + 1))))) ?hg ?ho ?hn ?hr ?_; (case ho => rfl); (case hg => rfl); (case hn => rfl); (case hr => exact ts7_); intro w31 hw; have hg : wr.grownBy w31 (some go28) := (by rw [hw]; exact HP30.2); have hp_ : Kd.R (Kd.int .i64) 3 w31 w.heap.size (fun _ => True) (.slice (some ⟨go28, 0, none⟩) x7_2.length co29) y189 := (by rw [hw, Ny189.out]; exact HP30.1); clear HP30; have n0_ := Aside0.mk (Kd.S_after (v := (.slice (some ⟨go28, 0, none⟩) x7_2.length co29)) (v1 := (.slice (some ⟨go28, 0, none⟩) x7_2.length co29)) (ok := (fun _ => True)) (ts21_ HO_5.out) hg (.inl rfl)); have n1_ := Aside0.mk (hp_); have n5_ := Aside0.mk ((by rw [hw]; exact below_set (HB.out) GB28.out : Below w.heap.size w w31)); clear HO_5 HO_7 HB; have HO_5 := n0_; have HO_7 := n1_; have HB := n5_; clear n0_ n1_ n5_; clear hg hw hp_)); try go_wp2_with (first | ((with_reducible refine gate_store (t := 3) (p := 86) rfl ?_); (try (rw [drewN_self wr]; generalize hq_ : World.drewN wr _ = wr; have n0_ := Aside0.mk (Kd.S_at hq_ HO_5.out); have n1_ := Aside0.mk (Kd.R_at hq_ HO_7.out); have n5_ := Aside0.mk (below_at hq_ HB.out); clear hq_ HO_5 HO_7 HB; have HO_5 := n0_; have HO_7 := n1_; have HB := n5_; clear n0_ n1_ n5_; (try (have HP30 := Kd.R_putg HO_7.out ((rd ((rd_T35 t176 x8_1).f1) x9_2) : Int) (wrap64 (x8_1 + 1)))); have xf_ := Kd.R_celln 0 HO_7.out ((rd ((rd_T35 t176 x8_1).f1) x9_2) : Int) (of_eq_true p28) (of_eq_true q28); have hx28_0 := xf_.1; have hf28_0 := xf_.2; clear xf_)); refine store_event (t := 3) (p := 86) (v := ?vo_w31) (w1 := (wr.setCell ⟨go28, ((rd ((rd_T35 t176 x8_1).f1) x9_2) : Int).toNat, none⟩ (.int .i64 (wrap64 (x8_1 + 1))))) ?hg ?ho ?hn ?hr ?_; (case ho => rfl); (case hg => rfl); (case hn => rfl); (case hr => exact ts7_); intro w31 hw; have hg : wr.grownBy w31 (some go28) := (by rw [hw]; exact HP30.2); have hp_ : Kd.R (Kd.int .i64) 3 w31 w.heap.size (fun _ => True) (.slice (some ⟨go28, 0, none⟩) x7_2.length co29) y189 := (by rw [hw, Ny189.out]; exact HP30.1); clear HP30; have n0_ := Aside0.mk (Kd.S_after (v := (.slice (some ⟨go28, 0, none⟩) x7_2.length co29)) (v1 := (.slice (some ⟨go28, 0, none⟩) x7_2.length co29)) (ok := (fun _ => True)) (ts21_ HO_5.out) hg (.inl rfl)); have n1_ := Aside0.mk (hp_); have n5_ := Aside0.mk ((by rw [hw]; exact below_set (HB.out) GB28.out : Below w.heap.size w w31)); clear HO_5 HO_7 HB; have HO_5 := n0_; have HO_7 := n1_; have HB := n5_; clear n0_ n1_ n5_; clear hg hw hp_)))
                   go_roundg k2
                   case measure => have := HK1.out; have := HK2.out; omega
                   case rel => exact ⟨(y189), (wrap64 (x9_2 + 1)), ts18_, H', ⟨by have := HK1.out; have := HK2.out; omega⟩, ⟨by (with_reducible repeat (first | apply Kd.S_alloc | apply Kd.S_drewN | apply Kd.S_drew)); exact Kd.S_mono HO_5.out (fun _ hk => hk.2)⟩, ⟨ts10_ HO_7.out⟩, ⟨ts19_ HB.out⟩⟩
                  rw [if_neg c27] at H
                  exact absurd H (by simp)
                 rw [if_neg c26] at H
                 exact absurd H (by simp)
                rw [if_neg c25] at H
                exact absurd H (by simp)
               rw [if_neg c24] at H
               exact absurd H (by simp)
              rw [if_neg c23] at H
              exact absurd H (by simp)
             rw [if_neg c20] at H
             exact absurd H (by simp)
            rw [if_neg c19] at H
            have c19b0 : decide (x9_2 < (((rd_T35 t176 x8_1).f1).length : Int)) = false := decide_eq_false c19
            clear c19
            have H' := Aside0.mk H
            clear H
            have p183 : 0 ≤ (x8_1 : Int) := of_decide_eq_true ts13_
            have q183 : x8_1 < (t176.length : Int) := of_decide_eq_true ts13_
            obtain ⟨ad183, A183_1, c183_1, e183, hx183_0, hx183_1, hl183_1, hi183_1⟩ := at_T35 (Kd.S_reads' HO_5.out).2.2 x8_1 p183 q183
            cases e183
            obtain ⟨ce183, hce183, hMe183, hcc183⟩ := Kd.S_get HO_5.out z35 x8_1 p183 (by first | exact q183 | exact of_decide_eq_true ts13_ | (have e_ := (Kd.S_reads' HO_5.out).1; omega))
            obtain ⟨ve183_1, rfl, ge183_1⟩ := k35_openM hMe183
            have hv183_1 := hcc183 1 _ rfl
            rw [add_field _ _ 1 (by omega)] at hv183_1
            replace hv183_1 := Option.some.inj (hv183_1.symm.trans hx183_1)
            rw [hv183_1] at ge183_1
            have HL183_1 := Aside0.mk (show Kd.R (Kd.int .i64) 3 _ _ _ _ ((rd_T35 t176 x8_1).f1) from ge183_1)
            clear hv183_1 ge183_1
            clear hcc183 hce183
            have HR183_1 := Aside0.mk hi183_1
            have HC183_1 := Aside0.mk hl183_1
            clear hi183_1 hl183_1
            replace p183 := eq_true p183
            replace q183 := eq_true q183
            go_wp2
            repeat (go_quiet (fail); try go_wp2)
            go_roundg k2
            case measure => have := HK1.out; have := HK2.out; omega
            case rel => exact ⟨(x7_2), (wrap64 (x8_1 + 1)), ts18_, H', ⟨by have := HK1.out; have := HK2.out; omega⟩, ⟨ts20_ HO_5.out⟩, ⟨ts10_ HO_7.out⟩, ⟨ts19_ HB.out⟩⟩
           rw [if_neg c18] at H
           exact absurd H (by simp)
          rw [if_neg c17] at H
          exact absurd H (by simp)
       rw [if_neg c15] at H
       have c15b0 : decide (x8_1 < (t176.length : Int)) = false := decide_eq_false c15
       clear c15
       have H' := Aside0.mk H
       clear H
       obtain ⟨Ao32, co32, eo32⟩ := Kd.S_slice HO_5.out
       subst eo32
       go_wp2
       repeat (go_quiet (fail); try go_wp2)
       go_loopg [11] k1 (fun kq v11 w' => ∃ (x11_2 : Int), v11 = .int .i64 x11_2 ∧ Aside0 (cupellaw35_GroupsPart.l2 kq l0 l1 t176 x7_1 x11_2 = some r) ∧ Aside0 (kq ≤ k1) ∧ Aside0 (Kd.S k35 35 w' w.heap.size (fun k_ => some k_ ≠ (v181 : Value).ownBlock) (.slice Ao32 t176.length co32) t176) ∧ Aside0 (Kd.R (Kd.int .i64) 3 w' w.heap.size (fun _ => True) v181 x7_1) ∧ Aside0 (Below w.heap.size w w'))
       case atStart => exact ⟨(0), ts18_, H', ⟨Nat.le_refl _⟩, ⟨ts20_ HO_5.out⟩, ⟨ts10_ HO_7.out⟩, ⟨ts19_ HB.out⟩⟩
       case round =>
        clear H'
        try clear c1
        try clear p1
        try clear q1
        try clear hx1
        try clear c2
        try clear p2
        try clear q2
        try clear hx2
        try clear hf2
        try clear c4
        try clear c5
        try clear c5b0
        try clear c5b1
        try clear c6
        try clear p6
        try clear c8
        try clear c8b0
        try clear c8b1
        try clear c9
        try clear c9b0
        try clear c9b1
        try clear c10
        try clear c10b0
        try clear c10b1
        try clear c15
        try clear c15b0
        try clear c17
        try clear c17b0
        try clear c18
        try clear c18b0
        try clear p18
        try clear q18
        try clear hx18
        try clear c19
        try clear c19b0
        try clear c20
        try clear c20b0
        try clear c21
        try clear c21b0
        try clear c22
        try clear c22b0
        try clear c23
        try clear c23b0
        try clear c24
        try clear c24b0
        try clear c25
        try clear c25b0
        try clear c25b1
        try clear c26
        try clear c26b0
        try clear c27
        try clear c27b0
        try clear c27b1
        try clear p28
        try clear q28
        try clear hx28
        try clear hf28
        try clear hx183_0
        try clear hx183_1
        try clear hx184_0
        try clear hx184_1
        try clear hx185_0
        try clear hx186_0
        try clear hx187_0
        try clear hx188_0
        try clear hx188_1
        try clear hx28_0
        try clear p183
        try clear p184
        try clear p185
        try clear p186
        try clear p187
        try clear p188
        try clear p2
        try clear p28
        try clear q183
        try clear q184
        try clear q185
        try clear q186
        try clear q187
        try clear q188
        try clear q28
        obtain ⟨x11_2, rfl, HA, HK2, HO_5, HO_7, HB⟩ := hrel
        cases gk with
        | zero => exact absurd HA.out (by simp [cupellaw35_GroupsPart.l2])
        | succ k2 =>
         have H := HA.out
         clear HA
         simp only [cupellaw35_GroupsPart.l2] at H
         by_cases c33 : x11_2 < (l0.length : Int)
         ·rw [if_pos c33] at H
          have c33b0 : decide (x11_2 < (l0.length : Int)) = true := decide_eq_true c33
          clear c33
          by_cases c34 : 0 ≤ x11_2
          ·rw [if_pos c34] at H
           have c34b0 : decide (0 ≤ x11_2) = true := decide_eq_true c34
           clear c34
           by_cases c35 : x11_2 < (x7_1.length : Int)
           ·rw [if_pos c35] at H
            have c35b0 : decide (x11_2 < (x7_1.length : Int)) = true := decide_eq_true c35
            clear c35
            by_cases c36 : (rd x7_1 x11_2) = 0
            ·rw [if_pos c36] at H
             exact absurd H (by simp)
            rw [if_neg c36] at H
            have c36b0 : ((rd x7_1 x11_2) == 0) = false := beq_eq_false_iff_ne.mpr c36
            have c36b1 : ((rd x7_1 x11_2) != 0) = true := bne_iff_ne.mpr c36
            have H' := Aside0.mk H
            clear H
            obtain ⟨Ao37, co37, eo37⟩ := Kd.R_slice HO_7.out
            subst eo37
            have p190 : 0 ≤ (x11_2 : Int) := of_decide_eq_true ts13_
            have q190 : x11_2 < (x7_1.length : Int) := of_decide_eq_true ts13_
            obtain ⟨ad190, e190, hx190_0⟩ := Kd.at_int (Kd.R_reads' HO_7.out).2.2 x11_2 p190 q190
            cases e190
            replace p190 := eq_true p190
            replace q190 := eq_true q190
            go_wp2
            repeat (go_quiet (fail); try go_wp2)
            go_loopg [12] k2 (fun kq v12 w' => ∃ (x12_3 : Int), v12 = .int .i64 x12_3 ∧ Aside0 (cupellaw35_GroupsPart.l3 kq l0 l1 t176 x7_1 x11_2 x12_3 = some r) ∧ Aside0 (kq ≤ k2) ∧ Aside0 (Kd.S k35 35 w' w.heap.size (fun k_ => some k_ ≠ ((.slice (some ad190) x7_1.length co37) : Value).ownBlock) (.slice Ao32 t176.length co32) t176) ∧ Aside0 (Kd.R (Kd.int .i64) 3 w' w.heap.size (fun _ => True) (.slice (some ad190) x7_1.length co37) x7_1) ∧ Aside0 (Below w.heap.size w w'))
            case atStart => exact ⟨(0), ts18_, H', ⟨Nat.le_refl _⟩, ⟨ts20_ HO_5.out⟩, ⟨ts10_ HO_7.out⟩, ⟨ts19_ HB.out⟩⟩
            case round =>
             clear H'
             try clear c1
             try clear p1
             try clear q1
             try clear hx1
             try clear c2
             try clear p2
             try clear q2
             try clear hx2
             try clear hf2
             try clear c3
             try clear c4
             try clear c5
             try clear c5b0
             try clear c5b1
             try clear c6
             try clear p6
             try clear c8
             try clear c8b0
             try clear c8b1
             try clear c9
             try clear c9b0
             try clear c9b1
             try clear c10
             try clear c10b0
             try clear c10b1
             try clear c15
             try clear c15b0
             try clear c17
             try clear c17b0
             try clear c18
             try clear c18b0
             try clear p18
             try clear q18
             try clear hx18
             try clear c19
             try clear c19b0
             try clear p19
             try clear q19
             try clear hx19
             try clear c20
             try clear c20b0
             try clear c21
             try clear c21b0
             try clear c22
             try clear c22b0
             try clear c23
             try clear c23b0
             try clear c24
             try clear c24b0
             try clear c25
             try clear c25b0
             try clear c25b1
             try clear c26
             try clear c26b0
             try clear c27
             try clear c27b0
             try clear c27b1
             try clear p28
             try clear q28
             try clear hx28
             try clear hf28
             try clear c33
             try clear c33b0
             try clear c34
             try clear c34b0
             try clear c35
             try clear c35b0
             try clear c36
             try clear c36b0
             try clear c36b1
             try clear hx183_0
             try clear hx183_1
             try clear hx184_0
             try clear hx184_1
             try clear hx185_0
             try clear hx186_0
             try clear hx187_0
             try clear hx188_0
             try clear hx188_1
             try clear hx190_0
             try clear hx28_0
             try clear p1
             try clear p18
             try clear p183
             try clear p184
             try clear p185
             try clear p186
             try clear p187
             try clear p188
             try clear p190
             try clear p2
             try clear p28
             try clear p6
             try clear q1
             try clear q18
             try clear q183
             try clear q184
             try clear q185
             try clear q186
             try clear q187
             try clear q188
             try clear q190
             try clear q2
             try clear q28
             obtain ⟨x12_3, rfl, HA, HK3, HO_5, HO_7, HB⟩ := hrel
             cases gk with
             | zero => exact absurd HA.out (by simp [cupellaw35_GroupsPart.l3])
             | succ k3 =>
              have H := HA.out
              clear HA
              simp only [cupellaw35_GroupsPart.l3] at H
              by_cases c38 : x12_3 < x11_2
              ·rw [if_pos c38] at H
               have c38b0 : decide (x12_3 < x11_2) = true := decide_eq_true c38
               clear c38
               by_cases c39 : 0 ≤ x11_2
               ·rw [if_pos c39] at H
                have c39b0 : decide (0 ≤ x11_2) = true := decide_eq_true c39
                clear c39
                by_cases c40 : x11_2 < (l0.length : Int)
                ·rw [if_pos c40] at H
                 have c40b0 : decide (x11_2 < (l0.length : Int)) = true := decide_eq_true c40
                 clear c40
                 by_cases c41 : 0 ≤ x12_3
                 ·rw [if_pos c41] at H
                  have c41b0 : decide (0 ≤ x12_3) = true := decide_eq_true c41
                  clear c41
                  by_cases c42 : x12_3 < (l0.length : Int)
                  ·rw [if_pos c42] at H
                   have c42b0 : decide (x12_3 < (l0.length : Int)) = true := decide_eq_true c42
                   clear c42
                   by_cases c43 : x11_2 < (x7_1.length : Int)
                   ·rw [if_pos c43] at H
                    have c43b0 : decide (x11_2 < (x7_1.length : Int)) = true := decide_eq_true c43
                    clear c43
                    by_cases c44 : x12_3 < (x7_1.length : Int)
                    ·rw [if_pos c44] at H
                     have c44b0 : decide (x12_3 < (x7_1.length : Int)) = true := decide_eq_true c44
                     clear c44
                     by_cases c45 : (((rdOf ByteArray.empty l0 x11_2).toList == (rdOf ByteArray.empty l0 x12_3).toList) != ((rd x7_1 x11_2) == (rd x7_1 x12_3))) = true
                     ·rw [if_pos c45] at H
                      exact absurd H (by simp)
                     rw [if_neg c45] at H
                     have c45b0 : (((rdOf ByteArray.empty l0 x11_2).toList == (rdOf ByteArray.empty l0 x12_3).toList) != ((rd x7_1 x11_2) == (rd x7_1 x12_3))) = false := by simpa using c45
                     (try (have c45b1 : decide (((rdOf ByteArray.empty l0 x11_2).toList == (rdOf ByteArray.empty l0 x12_3).toList) = ((rd x7_1 x11_2) == (rd x7_1 x12_3))) = true := by simpa using c45))
                     (try (have c45b2 : (((rdOf ByteArray.empty l0 x11_2).toList == (rdOf ByteArray.empty l0 x12_3).toList) == ((rd x7_1 x11_2) == (rd x7_1 x12_3))) = true := by simpa using c45))
                     clear c45
                     have H' := Aside0.mk H
                     clear H
                     have p191 : 0 ≤ (x11_2 : Int) := of_decide_eq_true ts13_
                     have q191 : x11_2 < (l0.length : Int) := of_decide_eq_true ts13_
                     obtain ⟨ad191, e191, hx191_0⟩ := Kd.at_string HR0.out x11_2 p191 q191
                     cases e191
                     replace hx191_0 := (HB.out.cell (World.block_lt_of_cell? w _ hx191_0)).trans hx191_0
                     replace p191 := eq_true p191
                     replace q191 := eq_true q191
                     have p192 : 0 ≤ (x12_3 : Int) := of_decide_eq_true ts13_
                     have q192 : x12_3 < (l0.length : Int) := of_decide_eq_true ts13_
                     obtain ⟨ad192, e192, hx192_0⟩ := Kd.at_string HR0.out x12_3 p192 q192
                     obtain rfl : ad191 = ad192 := (by injection e192)
                     replace hx192_0 := (HB.out.cell (World.block_lt_of_cell? w _ hx192_0)).trans hx192_0
                     replace p192 := eq_true p192
                     replace q192 := eq_true q192
                     have p193 : 0 ≤ (x11_2 : Int) := of_decide_eq_true ts13_
                     have q193 : x11_2 < (x7_1.length : Int) := of_decide_eq_true ts13_
                     obtain ⟨ad193, e193, hx193_0⟩ := Kd.at_int (Kd.R_reads' HO_7.out).2.2 x11_2 p193 q193
                     obtain rfl : ad190 = ad193 := (by injection e193)
                     replace p193 := eq_true p193
                     replace q193 := eq_true q193
                     have p194 : 0 ≤ (x12_3 : Int) := of_decide_eq_true ts13_
                     have q194 : x12_3 < (x7_1.length : Int) := of_decide_eq_true ts13_
                     obtain ⟨ad194, e194, hx194_0⟩ := Kd.at_int (Kd.R_reads' HO_7.out).2.2 x12_3 p194 q194
                     obtain rfl : ad190 = ad194 := (by injection e194)
                     replace p194 := eq_true p194
                     replace q194 := eq_true q194
                     go_wp2
                     repeat (go_quiet (fail); try go_wp2)
                     go_roundg k3
                     case measure => have := HK1.out; have := HK2.out; have := HK3.out; omega
                     case rel => exact ⟨(wrap64 (x12_3 + 1)), ts18_, H', ⟨by have := HK1.out; have := HK2.out; have := HK3.out; omega⟩, ⟨ts20_ HO_5.out⟩, ⟨ts10_ HO_7.out⟩, ⟨ts19_ HB.out⟩⟩
                    rw [if_neg c44] at H
                    exact absurd H (by simp)
                   rw [if_neg c43] at H
                   exact absurd H (by simp)
                  rw [if_neg c42] at H
                  exact absurd H (by simp)
                 rw [if_neg c41] at H
                 exact absurd H (by simp)
                rw [if_neg c40] at H
                exact absurd H (by simp)
               rw [if_neg c39] at H
               exact absurd H (by simp)
              rw [if_neg c38] at H
              have c38b0 : decide (x12_3 < x11_2) = false := decide_eq_false c38
              clear c38
              have H' := Aside0.mk H
              clear H
              go_wp2
              repeat (go_quiet (fail); try go_wp2)
              go_roundg k3
              case measure => have := HK1.out; have := HK2.out; have := HK3.out; omega
              case rel => exact ⟨(wrap64 (x11_2 + 1)), ts18_, H', ⟨by have := HK1.out; have := HK2.out; have := HK3.out; omega⟩, ⟨ts20_ HO_5.out⟩, ⟨ts10_ HO_7.out⟩, ⟨ts19_ HB.out⟩⟩
           rw [if_neg c35] at H
           exact absurd H (by simp)
          rw [if_neg c34] at H
          exact absurd H (by simp)
         rw [if_neg c33] at H
         have c33b0 : decide (x11_2 < (l0.length : Int)) = false := decide_eq_false c33
         clear c33
         by_cases c46 : (l1.length : Int) < (l0.length : Int)
         ·rw [if_pos c46] at H
          have c46b0 : decide ((l1.length : Int) < (l0.length : Int)) = true := decide_eq_true c46
          have c46b1 : decide (l1.length < l0.length) = true := decide_eq_true (Int.ofNat_lt.mp c46)
          clear c46
          obtain rfl := Option.some.inj H
          go_wp2
          repeat (go_quiet (fail); try go_wp2)
          go_ret
          exact ⟨ts15_, ts19_ HB.out⟩
         rw [if_neg c46] at H
         have c46b0 : decide ((l1.length : Int) < (l0.length : Int)) = false := decide_eq_false c46
         have c46b1 : decide (l1.length < l0.length) = false := decide_eq_false (fun h => c46 (Int.ofNat_lt.mpr h))
         clear c46
         obtain ⟨⟨t195, t196⟩, A47, H⟩ := bsA_ H
         try dsimp only at H
         have HC48 := Aside0.mk H
         clear H
         go_upto_region 32 with (first | (go_at_call 15; (with_reducible refine (groups_Represent.calls k2 _ _ t176 _ _ l1 t195 t196 _ ?side1 ?side2 ?side3 ?side4 A47.out).mono ?_); (case side1 => exact ts2_ HO_5.out); (case side2 => exact (Kd.S_reads' HO_5.out).2.1); (case side3 => exact ts3_ HR1.out HB.out); (case side4 => exact HC1.out); rintro e w49 ⟨v197, rfl, ho0, hb⟩; replace HO_5 := Aside0.mk (Kd.S_elder' (ts20_ HO_5.out) (Kd.R_base ho0) hb); have HO198 := Aside0.mk (Kd.R_lower (Kd.R_new' ho0 (Kd.R_lt (ts10_ HO_7.out))) (below_size (ts19_ HB.out))); replace HO_7 := Aside0.mk (Kd.R_elder' (ts10_ HO_7.out) (Kd.R_base ho0) hb); replace HB := Aside0.mk (below_step (ts19_ HB.out) hb); clear hb; (try clear ho0)))
         repeat (go_quiet (first | (go_at_call 15; (with_reducible refine (groups_Represent.calls k2 _ _ t176 _ _ l1 t195 t196 _ ?side1 ?side2 ?side3 ?side4 A47.out).mono ?_); (case side1 => exact ts2_ HO_5.out); (case side2 => exact (Kd.S_reads' HO_5.out).2.1); (case side3 => exact ts3_ HR1.out HB.out); (case side4 => exact HC1.out); rintro e w49 ⟨v197, rfl, ho0, hb⟩; replace HO_5 := Aside0.mk (Kd.S_elder' (ts20_ HO_5.out) (Kd.R_base ho0) hb); have HO198 := Aside0.mk (Kd.R_lower (Kd.R_new' ho0 (Kd.R_lt (ts10_ HO_7.out))) (below_size (ts19_ HB.out))); replace HO_7 := Aside0.mk (Kd.R_elder' (ts10_ HO_7.out) (Kd.R_base ho0) hb); replace HB := Aside0.mk (below_step (ts19_ HB.out) hb); clear hb; (try clear ho0))); go_upto_region 32 with (first | (go_at_call 15; (with_reducible refine (groups_Represent.calls k2 _ _ t176 _ _ l1 t195 t196 _ ?side1 ?side2 ?side3 ?side4 A47.out).mono ?_); (case side1 => exact ts2_ HO_5.out); (case side2 => exact (Kd.S_reads' HO_5.out).2.1); (case side3 => exact ts3_ HR1.out HB.out); (case side4 => exact HC1.out); rintro e w49 ⟨v197, rfl, ho0, hb⟩; replace HO_5 := Aside0.mk (Kd.S_elder' (ts20_ HO_5.out) (Kd.R_base ho0) hb); have HO198 := Aside0.mk (Kd.R_lower (Kd.R_new' ho0 (Kd.R_lt (ts10_ HO_7.out))) (below_size (ts19_ HB.out))); replace HO_7 := Aside0.mk (Kd.R_elder' (ts10_ HO_7.out) (Kd.R_base ho0) hb); replace HB := Aside0.mk (below_step (ts19_ HB.out) hb); clear hb; (try clear ho0))))
         (try simp only [Act.put, List.setIfInBounds_toArray, List.set_cons_zero, List.set_cons_succ])
         go_cut [141] (fun v141 wc => ∃ (kq : Nat) (x141_47 : Bool), v141 = .bool x141_47 ∧ Aside0 (cupellaw35_GroupsPart.j4 kq l0 l1 x7_1 t195 x141_47 = some r) ∧ Aside0 (kq ≤ k2) ∧ Aside0 (Kd.R (Kd.int .i64) 3 wc w.heap.size (fun k_ => some k_ ≠ (v197 : Value).ownBlock) v181 x7_1) ∧ Aside0 (Kd.R (Kd.int .i64) 3 wc w.heap.size (fun k_ => some k_ ≠ (v181 : Value).ownBlock) v197 t195) ∧ Aside0 (Below w.heap.size w wc))
         case first =>
          have H := HC48.out
          clear HC48
          by_cases c50 : t196 = 0
          ·rw [if_pos c50] at H
           have c50b0 : (t196 == 0) = true := beq_iff_eq.mpr c50
           have c50b1 : (t196 != 0) = false := bne_eq_false_iff_eq.mpr c50
           clear c50
           (first | rw [c50b0] | (simp only [i64_w, i32_w]; rw [c50b0]) | skip)
           have H' := Aside0.mk H
           clear H
           obtain ⟨Ao51, co51, eo51⟩ := Kd.R_slice HO198.out
           subst eo51
           go_wp2
           repeat (go_quiet (fail); try go_wp2)
           go_meet
           case rel => exact ⟨_, (((t195.length : Int) != (t176.length : Int))), ts18_, H', ⟨by have := HK1.out; have := HK2.out; first | omega | exact Nat.le_refl _⟩, ⟨ts17_ HO_7.out⟩, ⟨ts17_ HO198.out⟩, ⟨ts19_ HB.out⟩⟩
          rw [if_neg c50] at H
          have c50b0 : (t196 == 0) = false := beq_eq_false_iff_ne.mpr c50
          have c50b1 : (t196 != 0) = true := bne_iff_ne.mpr c50
          (first | rw [c50b0] | (simp only [i64_w, i32_w]; rw [c50b0]) | skip)
          have H' := Aside0.mk H
          clear H
          go_wp2
          repeat (go_quiet (fail); try go_wp2)
          go_meet
          case rel => exact ⟨_, (true), ts18_, H', ⟨by have := HK1.out; have := HK2.out; first | omega | exact Nat.le_refl _⟩, ⟨ts17_ HO_7.out⟩, ⟨ts17_ HO198.out⟩, ⟨ts19_ HB.out⟩⟩
         case rest =>
          clear HC48
          try clear c1
          try clear p1
          try clear q1
          try clear hx1
          try clear c2
          try clear p2
          try clear q2
          try clear hx2
          try clear hf2
          try clear c3
          try clear c4
          try clear c5
          try clear c5b0
          try clear c5b1
          try clear c6
          try clear p6
          try clear c8
          try clear c8b0
          try clear c8b1
          try clear c9
          try clear c9b0
          try clear c9b1
          try clear c10
          try clear c10b0
          try clear c10b1
          try clear c15
          try clear c15b0
          try clear c17
          try clear c17b0
          try clear c18
          try clear c18b0
          try clear p18
          try clear q18
          try clear hx18
          try clear c19
          try clear c19b0
          try clear p19
          try clear q19
          try clear hx19
          try clear c20
          try clear c20b0
          try clear c21
          try clear c21b0
          try clear c22
          try clear c22b0
          try clear c23
          try clear c23b0
          try clear c24
          try clear c24b0
          try clear c25
          try clear c25b0
          try clear c25b1
          try clear c26
          try clear c26b0
          try clear c27
          try clear c27b0
          try clear c27b1
          try clear p28
          try clear q28
          try clear hx28
          try clear hf28
          try clear c33
          try clear c33b0
          try clear c34
          try clear c34b0
          try clear c35
          try clear c35b0
          try clear c36
          try clear c36b0
          try clear c36b1
          try clear c38
          try clear c38b0
          try clear c39
          try clear c39b0
          try clear c40
          try clear c40b0
          try clear c41
          try clear c41b0
          try clear c42
          try clear c42b0
          try clear c43
          try clear c43b0
          try clear c44
          try clear c44b0
          try clear c45
          try clear c45b0
          try clear c45b1
          try clear c45b2
          try clear c46
          try clear c46b0
          try clear c46b1
          try clear c50
          try clear c50b0
          try clear c50b1
          try clear hx183_0
          try clear hx183_1
          try clear hx184_0
          try clear hx184_1
          try clear hx185_0
          try clear hx186_0
          try clear hx187_0
          try clear hx188_0
          try clear hx188_1
          try clear hx190_0
          try clear hx191_0
          try clear hx192_0
          try clear hx193_0
          try clear hx194_0
          try clear hx28_0
          try clear p1
          try clear p18
          try clear p183
          try clear p184
          try clear p185
          try clear p186
          try clear p187
          try clear p188
          try clear p19
          try clear p190
          try clear p191
          try clear p192
          try clear p193
          try clear p194
          try clear p2
          try clear p28
          try clear p6
          try clear q1
          try clear q18
          try clear q183
          try clear q184
          try clear q185
          try clear q186
          try clear q187
          try clear q188
          try clear q19
          try clear q190
          try clear q191
          try clear q192
          try clear q193
          try clear q194
          try clear q2
          try clear q28
          obtain ⟨kq, x141_47, rfl, HA, HJ47, HO_7, HO_13, HB⟩ := hcut
          cases kq with
          | zero => exact absurd HA.out (by simp [cupellaw35_GroupsPart.j4])
          | succ kj47 =>
           have H := HA.out
           clear HA
           simp only [cupellaw35_GroupsPart.j4] at H
           by_cases c52 : x141_47 = true
           ·subst c52
            rw [if_pos rfl] at H
            exact absurd H (by simp)
           replace c52 := Bool.eq_false_iff.mpr c52
           subst c52
           rw [if_neg Bool.false_ne_true] at H
           have H' := Aside0.mk H
           clear H
           go_wp2
           repeat (go_quiet (fail); try go_wp2)
           go_loopg [14] kj47 (fun kq v14 w' => ∃ (x14_4 : Int), v14 = .int .i64 x14_4 ∧ Aside0 (cupellaw35_GroupsPart.l4 kq l0 l1 x7_1 t195 x14_4 = some r) ∧ Aside0 (kq ≤ kj47) ∧ Aside0 (Kd.R (Kd.int .i64) 3 w' w.heap.size (fun k_ => some k_ ≠ (v197 : Value).ownBlock) v181 x7_1) ∧ Aside0 (Kd.R (Kd.int .i64) 3 w' w.heap.size (fun k_ => some k_ ≠ (v181 : Value).ownBlock) v197 t195) ∧ Aside0 (Below w.heap.size w w'))
           case atStart => exact ⟨(0), ts18_, H', ⟨Nat.le_refl _⟩, ⟨ts10_ HO_7.out⟩, ⟨ts10_ HO_13.out⟩, ⟨ts19_ HB.out⟩⟩
           case round =>
            clear H'
            try clear c1
            try clear p1
            try clear q1
            try clear hx1
            try clear c2
            try clear p2
            try clear q2
            try clear hx2
            try clear hf2
            try clear c3
            try clear c4
            try clear c5
            try clear c5b0
            try clear c5b1
            try clear c6
            try clear p6
            try clear c8
            try clear c8b0
            try clear c8b1
            try clear c9
            try clear c9b0
            try clear c9b1
            try clear c10
            try clear c10b0
            try clear c10b1
            try clear c15
            try clear c15b0
            try clear c17
            try clear c17b0
            try clear c18
            try clear c18b0
            try clear p18
            try clear q18
            try clear hx18
            try clear c19
            try clear c19b0
            try clear p19
            try clear q19
            try clear hx19
            try clear c20
            try clear c20b0
            try clear c21
            try clear c21b0
            try clear c22
            try clear c22b0
            try clear c23
            try clear c23b0
            try clear c24
            try clear c24b0
            try clear c25
            try clear c25b0
            try clear c25b1
            try clear c26
            try clear c26b0
            try clear c27
            try clear c27b0
            try clear c27b1
            try clear p28
            try clear q28
            try clear hx28
            try clear hf28
            try clear c33
            try clear c33b0
            try clear c34
            try clear c34b0
            try clear c35
            try clear c35b0
            try clear c36
            try clear c36b0
            try clear c36b1
            try clear c38
            try clear c38b0
            try clear c39
            try clear c39b0
            try clear c40
            try clear c40b0
            try clear c41
            try clear c41b0
            try clear c42
            try clear c42b0
            try clear c43
            try clear c43b0
            try clear c44
            try clear c44b0
            try clear c45
            try clear c45b0
            try clear c45b1
            try clear c45b2
            try clear c46
            try clear c46b0
            try clear c46b1
            try clear c50
            try clear c50b0
            try clear c50b1
            try clear c52
            try clear hx183_0
            try clear hx183_1
            try clear hx184_0
            try clear hx184_1
            try clear hx185_0
            try clear hx186_0
            try clear hx187_0
            try clear hx188_0
            try clear hx188_1
            try clear hx190_0
            try clear hx191_0
            try clear hx192_0
            try clear hx193_0
            try clear hx194_0
            try clear hx28_0
            try clear p1
            try clear p18
            try clear p183
            try clear p184
            try clear p185
            try clear p186
            try clear p187
            try clear p188
            try clear p19
            try clear p190
            try clear p191
            try clear p192
            try clear p193
            try clear p194
            try clear p2
            try clear p28
            try clear p6
            try clear q1
            try clear q18
            try clear q183
            try clear q184
            try clear q185
            try clear q186
            try clear q187
            try clear q188
            try clear q19
            try clear q190
            try clear q191
            try clear q192
            try clear q193
            try clear q194
            try clear q2
            try clear q28
            obtain ⟨x14_4, rfl, HA, HK4, HO_7, HO_13, HB⟩ := hrel
            cases gk with
            | zero => exact absurd HA.out (by simp [cupellaw35_GroupsPart.l4])
            | succ k4 =>
             have H := HA.out
             clear HA
             simp only [cupellaw35_GroupsPart.l4] at H
             by_cases c53 : x14_4 < (l0.length : Int)
             ·rw [if_pos c53] at H
              have c53b0 : decide (x14_4 < (l0.length : Int)) = true := decide_eq_true c53
              clear c53
              by_cases c54 : 0 ≤ x14_4
              ·rw [if_pos c54] at H
               have c54b0 : decide (0 ≤ x14_4) = true := decide_eq_true c54
               clear c54
               by_cases c55 : x14_4 < (x7_1.length : Int)
               ·rw [if_pos c55] at H
                have c55b0 : decide (x14_4 < (x7_1.length : Int)) = true := decide_eq_true c55
                clear c55
                obtain ⟨ji56, hji56⟩ : ∃ j_ : Int, (wrap64 ((rd x7_1 x14_4) - 1)) = j_ := ⟨_, rfl⟩
                replace H : (if 0 ≤ (ji56) then (if (ji56) < (t195.length : Int) then (if (rd t195 (ji56)) < 0 then (none) else (if (rd t195 (ji56)) ≥ (l0.length : Int) then (none) else (if 0 ≤ (rd t195 (ji56)) then (if (rd t195 (ji56)) < (x7_1.length : Int) then (if (rd x7_1 (rd t195 (ji56))) = (rd x7_1 x14_4) then (if (rd t195 (ji56)) < (l1.length : Int) then (if x14_4 < (l1.length : Int) then (if (rd l1 (rd t195 (ji56))) > (rd l1 x14_4) then (none) else (cupellaw35_GroupsPart.l4 k4 l0 l1 x7_1 t195 (wrap64 (x14_4 + 1)))) else (none)) else (none)) else (none)) else (none)) else (none)))) else (none)) else (none)) = some r := by first | (rw [hji56] at H; exact H) | (simp only [hji56] at H ⊢; exact H)
                have hji56w : (IntKind.i64.wrap ((rd x7_1 x14_4) - 1)) = ji56 := (i64_w _).trans hji56
                by_cases c57 : 0 ≤ (ji56)
                ·rw [if_pos c57] at H
                 have c57b0 : decide (0 ≤ (ji56)) = true := decide_eq_true c57
                 clear c57
                 by_cases c58 : (ji56) < (t195.length : Int)
                 ·rw [if_pos c58] at H
                  have c58b0 : decide ((ji56) < (t195.length : Int)) = true := decide_eq_true c58
                  clear c58
                  by_cases c59 : (rd t195 (ji56)) < 0
                  ·rw [if_pos c59] at H
                   exact absurd H (by simp)
                  rw [if_neg c59] at H
                  have c59b0 : decide ((rd t195 (ji56)) < 0) = false := decide_eq_false c59
                  clear c59
                  by_cases c60 : (rd t195 (ji56)) ≥ (l0.length : Int)
                  ·rw [if_pos c60] at H
                   exact absurd H (by simp)
                  rw [if_neg c60] at H
                  have c60b0 : decide ((l0.length : Int) ≤ (rd t195 (ji56))) = false := decide_eq_false c60
                  clear c60
                  by_cases c61 : 0 ≤ (rd t195 (ji56))
                  ·rw [if_pos c61] at H
                   have c61b0 : decide (0 ≤ (rd t195 (ji56))) = true := decide_eq_true c61
                   clear c61
                   by_cases c62 : (rd t195 (ji56)) < (x7_1.length : Int)
                   ·rw [if_pos c62] at H
                    have c62b0 : decide ((rd t195 (ji56)) < (x7_1.length : Int)) = true := decide_eq_true c62
                    clear c62
                    by_cases c63 : (rd x7_1 (rd t195 (ji56))) = (rd x7_1 x14_4)
                    ·rw [if_pos c63] at H
                     have c63b0 : ((rd x7_1 (rd t195 (ji56))) == (rd x7_1 x14_4)) = true := beq_iff_eq.mpr c63
                     have c63b1 : ((rd x7_1 (rd t195 (ji56))) != (rd x7_1 x14_4)) = false := bne_eq_false_iff_eq.mpr c63
                     clear c63
                     by_cases c64 : (rd t195 (ji56)) < (l1.length : Int)
                     ·rw [if_pos c64] at H
                      have c64b0 : decide ((rd t195 (ji56)) < (l1.length : Int)) = true := decide_eq_true c64
                      clear c64
                      by_cases c65 : x14_4 < (l1.length : Int)
                      ·rw [if_pos c65] at H
                       have c65b0 : decide (x14_4 < (l1.length : Int)) = true := decide_eq_true c65
                       clear c65
                       by_cases c66 : (rd l1 (rd t195 (ji56))) > (rd l1 x14_4)
                       ·rw [if_pos c66] at H
                        exact absurd H (by simp)
                       rw [if_neg c66] at H
                       have c66b0 : decide ((rd l1 x14_4) < (rd l1 (rd t195 (ji56)))) = false := decide_eq_false c66
                       clear c66
                       have H' := Aside0.mk H
                       clear H
                       obtain ⟨Ao67, co67, eo67⟩ := Kd.R_slice HO_7.out
                       subst eo67
                       have p199 : 0 ≤ (x14_4 : Int) := of_decide_eq_true ts13_
                       have q199 : x14_4 < (x7_1.length : Int) := of_decide_eq_true ts13_
                       obtain ⟨ad199, e199, hx199_0⟩ := Kd.at_int (Kd.R_reads' HO_7.out).2.2 x14_4 p199 q199
                       cases e199
                       replace p199 := eq_true p199
                       replace q199 := eq_true q199
                       obtain ⟨Ao68, co68, eo68⟩ := Kd.R_slice HO_13.out
                       subst eo68
                       have p200 : 0 ≤ ((ji56) : Int) := of_decide_eq_true ts13_
                       have q200 : (ji56) < (t195.length : Int) := of_decide_eq_true ts13_
                       obtain ⟨ad200, e200, hx200_0⟩ := Kd.at_int (Kd.R_reads' HO_13.out).2.2 (ji56) p200 q200
                       cases e200
                       replace p200 := eq_true p200
                       replace q200 := eq_true q200
                       have p201 : 0 ≤ ((rd t195 (ji56)) : Int) := of_decide_eq_true ts13_
                       have q201 : (rd t195 (ji56)) < (x7_1.length : Int) := of_decide_eq_true ts13_
                       obtain ⟨ad201, e201, hx201_0⟩ := Kd.at_int (Kd.R_reads' HO_7.out).2.2 (rd t195 (ji56)) p201 q201
                       obtain rfl : ad199 = ad201 := (by injection e201)
                       replace p201 := eq_true p201
                       replace q201 := eq_true q201
                       have p202 : 0 ≤ (x14_4 : Int) := of_decide_eq_true ts13_
                       have q202 : x14_4 < (x7_1.length : Int) := of_decide_eq_true ts13_
                       obtain ⟨ad202, e202, hx202_0⟩ := Kd.at_int (Kd.R_reads' HO_7.out).2.2 x14_4 p202 q202
                       obtain rfl : ad199 = ad202 := (by injection e202)
                       replace p202 := eq_true p202
                       replace q202 := eq_true q202
                       have p203 : 0 ≤ ((rd t195 (ji56)) : Int) := of_decide_eq_true ts13_
                       have q203 : (rd t195 (ji56)) < (l1.length : Int) := of_decide_eq_true ts13_
                       obtain ⟨ad203, e203, hx203_0⟩ := Kd.at_int HR1.out (rd t195 (ji56)) p203 q203
                       cases e203
                       replace hx203_0 := (HB.out.cell (World.block_lt_of_cell? w _ hx203_0)).trans hx203_0
                       replace p203 := eq_true p203
                       replace q203 := eq_true q203
                       have p204 : 0 ≤ (x14_4 : Int) := of_decide_eq_true ts13_
                       have q204 : x14_4 < (l1.length : Int) := of_decide_eq_true ts13_
                       obtain ⟨ad204, e204, hx204_0⟩ := Kd.at_int HR1.out x14_4 p204 q204
                       obtain rfl : ad203 = ad204 := (by injection e204)
                       replace hx204_0 := (HB.out.cell (World.block_lt_of_cell? w _ hx204_0)).trans hx204_0
                       replace p204 := eq_true p204
                       replace q204 := eq_true q204
                       go_wp2
                       repeat (go_quiet (fail); try go_wp2)
                       go_roundg k4
                       case measure => have := HK1.out; have := HK2.out; have := HJ47.out; have := HK4.out; omega
                       case rel => exact ⟨(wrap64 (x14_4 + 1)), ts18_, H', ⟨by have := HK1.out; have := HK2.out; have := HJ47.out; have := HK4.out; omega⟩, ⟨ts10_ HO_7.out⟩, ⟨ts10_ HO_13.out⟩, ⟨ts19_ HB.out⟩⟩
                      rw [if_neg c65] at H
                      exact absurd H (by simp)
                     rw [if_neg c64] at H
                     exact absurd H (by simp)
                    rw [if_neg c63] at H
                    exact absurd H (by simp)
                   rw [if_neg c62] at H
                   exact absurd H (by simp)
                  rw [if_neg c61] at H
                  exact absurd H (by simp)
                 rw [if_neg c58] at H
                 exact absurd H (by simp)
                rw [if_neg c57] at H
                exact absurd H (by simp)
               rw [if_neg c55] at H
               exact absurd H (by simp)
              rw [if_neg c54] at H
              exact absurd H (by simp)
             rw [if_neg c53] at H
             have c53b0 : decide (x14_4 < (l0.length : Int)) = false := decide_eq_false c53
             clear c53
             obtain rfl := Option.some.inj H
             go_wp2
             repeat (go_quiet (fail); try go_wp2)
             go_ret
             exact ⟨ts15_, ts19_ HB.out⟩
    rw [if_neg c10] at H
    exact absurd H (by simp)
   rw [if_neg c9] at H
   exact absurd H (by simp)
  rw [if_neg c8] at H
  exact absurd H (by simp)
 replace c4 := Bool.eq_false_iff.mpr c4
 subst c4
 rw [if_neg Bool.false_ne_true] at H
 exact absurd H (by simp)
end Go.Proofs.YtndennmpnomjnaaDoor.A
