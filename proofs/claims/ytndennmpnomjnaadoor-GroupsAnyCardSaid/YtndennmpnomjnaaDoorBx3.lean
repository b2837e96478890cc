/- Written by wip/tools/xprint.py, a program of this session that drives the kit's printer. Not trusted: Lean checks it. -/
import Derived.Test.YtndennmpnomjnaaDoorBx0
import Derived.Test.YtndennmpnomjnaaDoorBx1
import Derived.Test.YtndennmpnomjnaaDoorAx10
import Derived.Test.YtndennmpnomjnaaDoorAx9
import Derived.Test.YtndennmpnomjnaaDoorRe
import Derived.Test.YtndennmpnomjnaaDoorWr
set_option linter.all false
set_option maxHeartbeats 8000000
set_option maxRecDepth 100000
namespace Go.Proofs.YtndennmpnomjnaaDoor.A
open Go.RowKit Go.Proofs.YtndennmpnomjnaaDoorW.PrintWords Go.Proofs.YtndennmpnomjnaaDoorW.PrintLast Go.Proofs.YtndennmpnomjnaaDoorW.PrintMore
attribute [local go_sem] max2_int min2_int max_two min_two max_three min_three max_four min_four   -- for this text's walks alone
set_option linter.unusedVariables false
set_option linter.unusedSimpArgs false
/-! ### cupellaw35_GroupsGroups: function 4 -/
mutual
def cupellaw35_GroupsGroups.j0 : Nat → List Int → List (S35) → List (S35) → Bool → Option (Bool)
 | 0, _, _, _, _ => none
 | k + 1, x1, x5, x7, x36 => if x36 = true then (none) else (cupellaw35_GroupsGroups.l0 k x1 x5 x7 0)
def cupellaw35_GroupsGroups.l0 : Nat → List Int → List (S35) → List (S35) → Int → Option (Bool)
 | 0, _, _, _, _ => none
 | k + 1, x1, x5, x7, x9 => if x9 < (x5.length : Int) then (if 0 ≤ x9 then (if x9 < (x7.length : Int) then (if ((rd_T35 x5 x9).f0).toList = ((rd_T35 x7 x9).f0).toList then ((cupellaw35_sameInts.f k ((rd_T35 x5 x9).f1) ((rd_T35 x7 x9).f1)).bind fun t154 => (if t154 = true then (cupellaw35_GroupsGroups.l0 k x1 x5 x7 (wrap64 (x9 + 1))) else (none))) else (none)) else (none)) else (none)) else ((groups_Represent.f k x5 x1).bind fun bt155 => ((cupelref35_Represent.f k x7 x1).bind fun bt159 => ((cupellaw35_sameInts.f k bt155.1 bt159.1).bind fun t163 => (if t163 = true then (some (bt155.2 == bt159.2)) else (none)))))
end
def cupellaw35_GroupsGroups.f (k : Nat) (l0 : List ByteArray) (l1 : List Int) : Option (Bool) := (cupellaw35_shown.f k).bind fun t141 => (if t141 = true then (if (l0.length : Int) > 1200 then (some true) else ((gGroups.f k l0).bind fun bt142 => ((rGroups.f k l0).bind fun bt146 => (if (bt142.1.length : Int) = (bt146.1.length : Int) then (cupellaw35_GroupsGroups.j0 k l1 bt142.1 bt146.1 (bt142.2 != bt146.2)) else (cupellaw35_GroupsGroups.j0 k l1 bt142.1 bt146.1 true))))) else (none))
theorem cupellaw35_GroupsGroups.mono_l : ∀ k, (∀ y0 y1 y2 y3, LeO (cupellaw35_GroupsGroups.j0 k y0 y1 y2 y3) (cupellaw35_GroupsGroups.j0 (k + 1) y0 y1 y2 y3)) ∧ (∀ y0 y1 y2 y3, LeO (cupellaw35_GroupsGroups.l0 k y0 y1 y2 y3) (cupellaw35_GroupsGroups.l0 (k + 1) y0 y1 y2 y3))
 | 0 => ⟨fun _ _ _ _ r h => by simp [cupellaw35_GroupsGroups.j0] at h, fun _ _ _ _ r h => by simp [cupellaw35_GroupsGroups.l0] at h⟩
 | k + 1 => by
  obtain ⟨ih0, ih1⟩ := cupellaw35_GroupsGroups.mono_l k
  refine ⟨?_, ?_⟩
  ·intro y0 y1 y2 y3
   unfold cupellaw35_GroupsGroups.j0
   repeat' first
   | (with_reducible exact ih0 _ _ _ _)
   | (with_reducible exact ih1 _ _ _ _)
   | (with_reducible exact cupellaw35_sameInts.mono _ _ _)
   | (with_reducible exact cupellaw35_shown.mono _)
   | (with_reducible exact cupelref35_Represent.mono _ _ _)
   | (with_reducible exact gGroups.mono _ _)
   | (with_reducible exact groups_Represent.mono _ _ _)
   | (with_reducible exact rGroups.mono _ _)
   | (with_reducible exact LeO.refl _)
   | (with_reducible exact LeO.none _)
   | (with_reducible refine LeO.ite ?_ ?_)
   | (with_reducible refine LeO.bind ?_ (fun _ => ?_))
   | exact LeO.none _
   | refine LeO.ite ?_ ?_
   | refine LeO.bind ?_ (fun _ => ?_)
  intro y0 y1 y2 y3
  unfold cupellaw35_GroupsGroups.l0
  repeat' first
  | (with_reducible exact ih0 _ _ _ _)
  | (with_reducible exact ih1 _ _ _ _)
  | (with_reducible exact cupellaw35_sameInts.mono _ _ _)
  | (with_reducible exact cupellaw35_shown.mono _)
  | (with_reducible exact cupelref35_Represent.mono _ _ _)
  | (with_reducible exact gGroups.mono _ _)
  | (with_reducible exact groups_Represent.mono _ _ _)
  | (with_reducible exact rGroups.mono _ _)
  | (with_reducible exact LeO.refl _)
  | (with_reducible exact LeO.none _)
  | (with_reducible refine LeO.ite ?_ ?_)
  | (with_reducible refine LeO.bind ?_ (fun _ => ?_))
  | exact LeO.none _
  | refine LeO.ite ?_ ?_
  | refine LeO.bind ?_ (fun _ => ?_)
theorem cupellaw35_GroupsGroups.mono : ∀ a0 a1 k, LeO (cupellaw35_GroupsGroups.f k a0 a1) (cupellaw35_GroupsGroups.f (k + 1) a0 a1) := by
 intro a0 a1 k
 obtain ⟨ih0, ih1⟩ := cupellaw35_GroupsGroups.mono_l k
 unfold cupellaw35_GroupsGroups.f
 repeat' first
   | (with_reducible exact ih0 _ _ _ _)
   | (with_reducible exact ih1 _ _ _ _)
   | (with_reducible exact cupellaw35_sameInts.mono _ _ _)
   | (with_reducible exact cupellaw35_shown.mono _)
   | (with_reducible exact cupelref35_Represent.mono _ _ _)
   | (with_reducible exact gGroups.mono _ _)
   | (with_reducible exact groups_Represent.mono _ _ _)
   | (with_reducible exact rGroups.mono _ _)
   | (with_reducible exact LeO.refl _)
   | (with_reducible exact LeO.none _)
   | (with_reducible refine LeO.ite ?_ ?_)
   | (with_reducible refine LeO.bind ?_ (fun _ => ?_))
   | exact LeO.none _
   | refine LeO.ite ?_ ?_
   | refine LeO.bind ?_ (fun _ => ?_)
/-! ### cupellaw35_GroupsAny: function 5 -/
def cupellaw35_GroupsAny.l0 : Nat → List (S35) → List Int → Int → Option (Bool)
 | 0, _, _, _ => none
 | k + 1, x0, x1, x5 => if x5 < (x0.length : Int) then (if 0 ≤ x5 then (if (((rd_T35 x0 x5).f1).length : Int) > 300 then (some true) else (cupellaw35_GroupsAny.l0 k x0 x1 (wrap64 (x5 + 1)))) else (none)) else ((groups_Represent.f k x0 x1).bind fun bt166 => ((cupelref35_Represent.f k x0 x1).bind fun bt170 => ((cupellaw35_sameInts.f k bt166.1 bt170.1).bind fun t174 => (if t174 = true then (some (bt166.2 == bt170.2)) else (none)))))
def cupellaw35_GroupsAny.f (k : Nat) (l0 : List (S35)) (l1 : List Int) : Option (Bool) := (cupellaw35_shown.f k).bind fun t164 => (if t164 = true then (if (l0.length : Int) > 300 then (some true) else (cupellaw35_GroupsAny.l0 k l0 l1 0)) else (none))
theorem cupellaw35_GroupsAny.mono_l : ∀ k, (∀ y0 y1 y2, LeO (cupellaw35_GroupsAny.l0 k y0 y1 y2) (cupellaw35_GroupsAny.l0 (k + 1) y0 y1 y2))
 | 0 => fun _ _ _ r h => by simp [cupellaw35_GroupsAny.l0] at h
 | k + 1 => by
  have ih0 := cupellaw35_GroupsAny.mono_l k
  ·intro y0 y1 y2
   unfold cupellaw35_GroupsAny.l0
   repeat' first
   | (with_reducible exact ih0 _ _ _)
   | (with_reducible exact cupellaw35_sameInts.mono _ _ _)
   | (with_reducible exact cupellaw35_shown.mono _)
   | (with_reducible exact cupelref35_Represent.mono _ _ _)
   | (with_reducible exact groups_Represent.mono _ _ _)
   | (with_reducible exact LeO.refl _)
   | (with_reducible exact LeO.none _)
   | (with_reducible refine LeO.ite ?_ ?_)
   | (with_reducible refine LeO.bind ?_ (fun _ => ?_))
   | exact LeO.none _
   | refine LeO.ite ?_ ?_
   | refine LeO.bind ?_ (fun _ => ?_)
theorem cupellaw35_GroupsAny.mono : ∀ a0 a1 k, LeO (cupellaw35_GroupsAny.f k a0 a1) (cupellaw35_GroupsAny.f (k + 1) a0 a1) := by
 intro a0 a1 k
 have ih0 := cupellaw35_GroupsAny.mono_l k
 unfold cupellaw35_GroupsAny.f
 repeat' first
   | (with_reducible exact ih0 _ _ _)
   | (with_reducible exact cupellaw35_sameInts.mono _ _ _)
   | (with_reducible exact cupellaw35_shown.mono _)
   | (with_reducible exact cupelref35_Represent.mono _ _ _)
   | (with_reducible exact groups_Represent.mono _ _ _)
   | (with_reducible exact LeO.refl _)
   | (with_reducible exact LeO.none _)
   | (with_reducible refine LeO.ite ?_ ?_)
   | (with_reducible refine LeO.bind ?_ (fun _ => ?_))
   | exact LeO.none _
   | refine LeO.ite ?_ ?_
   | refine LeO.bind ?_ (fun _ => ?_)
theorem cupellaw35_GroupsAny.calls (k : Nat) (A0 : Option Addr) (c0 : Nat) (l0 : List (S35)) (A1 : Option Addr) (c1 : Nat) (l1 : List Int) (r : Bool) (w : World) (hr0 : Kd.C k35 w A0 l0.length l0) (hc0 : l0.length ≤ c0) (hr1 : Kd.C (Kd.int .i64) w A1 l1.length l1) (hc1 : l1.length ≤ c1) (h : cupellaw35_GroupsAny.f k l0 l1 = some r) (hE_ : Env w := by exact Env.below HEnv_.out (by repeat (first | (with_reducible first | exact HB.out | apply below_alloc | apply pw_below_drewN | apply below_drew1 | refine below_set ?_ (Aside0.out (by assumption))) | exact HB.out)) HEnv_.out.big) :
  Calls Tryd.prog 5 #[.slice A0 l0.length c0, .slice A1 l1.length c1] w fun e w' => e = .returned (.bool r) ∧ Below w.heap.size w w' := by
 have HEnv_ := Aside0.mk hE_
 clear hE_
 have HR0 := Aside0.mk hr0
 have HC0 := Aside0.mk hc0
 clear hr0 hc0
 have HR1 := Aside0.mk hr1
 have HC1 := Aside0.mk hc1
 clear hr1 hc1
 have HB := Aside0.mk (Below.refl w.heap.size w)
 have H : ((cupellaw35_shown.f k).bind fun t164 => (if t164 = true then (if (l0.length : Int) > 300 then (some true) else (cupellaw35_GroupsAny.l0 k l0 l1 0)) else (none))) = some r := h
 clear h
 obtain ⟨t164, A3, H⟩ := bsA_ H
 try dsimp only at H
 by_cases c4 : t164 = true
 ·subst c4
  rw [if_pos rfl] at H
  by_cases c5 : (l0.length : Int) > 300
  ·rw [if_pos c5] at H
   have c5b0 : decide (300 < (l0.length : Int)) = true := decide_eq_true c5
   have c5b1 : decide (300 < l0.length) = true := decide_eq_true (by omega)
   clear c5
   obtain rfl := Option.some.inj H
   go_enter Tryd.func5, Tryd.ntmps5
   go_wp2_with (first | ((with_reducible refine gate_callee (f := 8) rfl ?_); refine goesL_ (some 10) rfl rfl Tryd.func8 (by kernel_rfl) rfl #[] rfl ts1_ ?_; (with_reducible refine (cupellaw35_shown.calls k  true _ A3.out).mono ?_); rintro e w6 ⟨rfl, hb⟩; refine ⟨_, rfl, ?_⟩; replace HB := Aside0.mk (below_step (ts17_ HB.out) hb); clear hb))
   go_ret
   exact ⟨ts14_, ts17_ HB.out⟩
  rw [if_neg c5] at H
  have c5b0 : decide (300 < (l0.length : Int)) = false := decide_eq_false c5
  have c5b1 : decide (300 < l0.length) = false := decide_eq_false (by omega)
  clear c5
  have H' := Aside0.mk H
  clear H
  go_enter Tryd.func5, Tryd.ntmps5
  go_wp2_with (first | ((with_reducible refine gate_callee (f := 8) rfl ?_); refine goesL_ (some 10) rfl rfl Tryd.func8 (by kernel_rfl) rfl #[] rfl ts1_ ?_; (with_reducible refine (cupellaw35_shown.calls k  true _ A3.out).mono ?_); rintro e w7 ⟨rfl, hb⟩; refine ⟨_, rfl, ?_⟩; replace HB := Aside0.mk (below_step (ts17_ HB.out) hb); clear hb))
  go_loopg [5] k (fun kq v5 w' => ∃ (x5_1 : Int), v5 = .int .i64 x5_1 ∧ Aside0 (cupellaw35_GroupsAny.l0 kq l0 l1 x5_1 = some r) ∧ Aside0 (kq ≤ k) ∧ Aside0 (Below w.heap.size w w'))
  case atStart => exact ⟨(0), ts16_, H', ⟨Nat.le_refl _⟩, ⟨ts17_ HB.out⟩⟩
  case round =>
   clear H'
   try clear c1
   try clear p2
   try clear c4
   try clear c5
   try clear c5b0
   try clear c5b1
   obtain ⟨x5_1, rfl, HA, HK1, HB⟩ := hrel
   cases gk with
   | zero => exact absurd HA.out (by simp [cupellaw35_GroupsAny.l0])
   | succ k1 =>
    have H := HA.out
    clear HA
    simp only [cupellaw35_GroupsAny.l0] at H
    by_cases c8 : x5_1 < (l0.length : Int)
    ·rw [if_pos c8] at H
     have c8b0 : decide (x5_1 < (l0.length : Int)) = true := decide_eq_true c8
     clear c8
     by_cases c9 : 0 ≤ x5_1
     ·rw [if_pos c9] at H
      have c9b0 : decide (0 ≤ x5_1) = true := decide_eq_true c9
      clear c9
      by_cases c10 : (((rd_T35 l0 x5_1).f1).length : Int) > 300
      ·rw [if_pos c10] at H
       have c10b0 : decide (300 < (((rd_T35 l0 x5_1).f1).length : Int)) = true := decide_eq_true c10
       have c10b1 : decide (300 < ((rd_T35 l0 x5_1).f1).length) = true := decide_eq_true (by omega)
       clear c10
       obtain rfl := Option.some.inj H
       have p165 : 0 ≤ (x5_1 : Int) := of_decide_eq_true ts12_
       have q165 : x5_1 < (l0.length : Int) := of_decide_eq_true ts12_
       obtain ⟨ad165, A165_1, c165_1, e165, hx165_0, hx165_1, hl165_1, hi165_1⟩ := at_T35 HR0.out x5_1 p165 q165
       cases e165
       replace hx165_0 := (HB.out.cell (World.block_lt_of_cell? w _ hx165_0)).trans hx165_0
       replace hx165_1 := (HB.out.cell (World.block_lt_of_cell? w _ hx165_1)).trans hx165_1
       have HR165_1 := Aside0.mk hi165_1
       have HC165_1 := Aside0.mk hl165_1
       clear hi165_1 hl165_1
       replace p165 := eq_true p165
       replace q165 := eq_true q165
       go_wp2
       go_ret
       exact ⟨ts14_, ts17_ HB.out⟩
      rw [if_neg c10] at H
      have c10b0 : decide (300 < (((rd_T35 l0 x5_1).f1).length : Int)) = false := decide_eq_false c10
      have c10b1 : decide (300 < ((rd_T35 l0 x5_1).f1).length) = false := decide_eq_false (by omega)
      clear c10
      have H' := Aside0.mk H
      clear H
      have p165 : 0 ≤ (x5_1 : Int) := of_decide_eq_true ts12_
      have q165 : x5_1 < (l0.length : Int) := of_decide_eq_true ts12_
      obtain ⟨ad165, A165_1, c165_1, e165, hx165_0, hx165_1, hl165_1, hi165_1⟩ := at_T35 HR0.out x5_1 p165 q165
      cases e165
      replace hx165_0 := (HB.out.cell (World.block_lt_of_cell? w _ hx165_0)).trans hx165_0
      replace hx165_1 := (HB.out.cell (World.block_lt_of_cell? w _ hx165_1)).trans hx165_1
      have HR165_1 := Aside0.mk hi165_1
      have HC165_1 := Aside0.mk hl165_1
      clear hi165_1 hl165_1
      replace p165 := eq_true p165
      replace q165 := eq_true q165
      go_wp2
      go_roundg k1
      case measure => have := HK1.out; omega
      case rel => exact ⟨(wrap64 (x5_1 + 1)), ts16_, H', ⟨by have := HK1.out; omega⟩, ⟨ts17_ HB.out⟩⟩
     rw [if_neg c9] at H
     exact absurd H (by simp)
    rw [if_neg c8] at H
    have c8b0 : decide (x5_1 < (l0.length : Int)) = false := decide_eq_false c8
    clear c8
    obtain ⟨⟨t166, t167⟩, A11, H⟩ := bsA_ H
    try dsimp only at H
    obtain ⟨⟨t170, t171⟩, A12, H⟩ := bsA_ H
    try dsimp only at H
    obtain ⟨t174, A13, H⟩ := bsA_ H
    try dsimp only at H
    by_cases c14 : t174 = true
    ·subst c14
     rw [if_pos rfl] at H
     obtain rfl := Option.some.inj H
     go_wp2_with (first | ((with_reducible refine gate_callee (f := 15) rfl ?_); refine goesL_ (some 31) rfl rfl Tryd.func15 (by kernel_rfl) rfl #[.slice A0 l0.length c0, .slice A1 l1.length c1] rfl ts1_ ?_; (with_reducible refine (groups_Represent.calls k1 _ _ l0 _ _ l1 t166 t167 _ ?side1 ?side2 ?side3 ?side4 A11.out).mono ?_); (case side1 => exact ts18_ HR0.out HB.out); (case side2 => exact HC0.out); (case side3 => exact ts18_ HR1.out HB.out); (case side4 => exact HC1.out); rintro e w15 ⟨v168, rfl, ho0, hb⟩; refine ⟨_, rfl, ?_⟩; have HO169 := Aside0.mk (Kd.R_lower ho0 (below_size (ts17_ HB.out))); replace HB := Aside0.mk (below_step (ts17_ HB.out) hb); clear hb; (try clear ho0)) | ((with_reducible refine gate_callee (f := 16) rfl ?_); refine goesL_ (some 37) rfl rfl Tryd.func16 (by kernel_rfl) rfl #[.slice A0 l0.length c0, .slice A1 l1.length c1] rfl ts1_ ?_; (with_reducible refine (cupelref35_Represent.calls k1 _ _ l0 _ _ l1 t170 t171 _ ?side1 ?side2 ?side3 ?side4 A12.out).mono ?_); (case side1 => exact ts18_ HR0.out HB.out); (case side2 => exact HC0.out); (case side3 => exact ts18_ HR1.out HB.out); (case side4 => exact HC1.out); rintro e w16 ⟨v172, rfl, ho0, hb⟩; refine ⟨_, rfl, ?_⟩; have HO173 := Aside0.mk (Kd.R_lower (Kd.R_new' ho0 (Kd.R_lt (ts8_ HO169.out))) (below_size (ts17_ HB.out))); replace HO169 := Aside0.mk (Kd.R_elder' (ts8_ HO169.out) (Kd.R_base ho0) hb); replace HB := Aside0.mk (below_step (ts17_ HB.out) hb); clear hb; (try clear ho0); obtain ⟨Ao17, co17, eo17⟩ := Kd.R_slice HO169.out; subst eo17; obtain ⟨Ao18, co18, eo18⟩ := Kd.R_slice HO173.out; subst eo18) | ((with_reducible refine gate_callee (f := 14) rfl ?_); refine goesL_ (some 42) rfl rfl Tryd.func14 (by kernel_rfl) rfl #[.slice Ao17 t166.length co17, .slice Ao18 t170.length co18] rfl ts1_ ?_; (with_reducible refine (cupellaw35_sameInts.calls k1 _ _ t166 _ _ t170 true _ ?side1 ?side2 ?side3 ?side4 A13.out).mono ?_); (case side1 => exact ts11_ HO169.out); (case side2 => exact (Kd.R_reads' HO169.out).2.1); (case side3 => exact ts11_ HO173.out); (case side4 => exact (Kd.R_reads' HO173.out).2.1); rintro e w' ⟨rfl, ⟨nd, rfl⟩⟩; refine ⟨_, rfl, ?_⟩))
     go_ret
     exact ⟨ts14_, ts17_ HB.out⟩
    replace c14 := Bool.eq_false_iff.mpr c14
    subst c14
    rw [if_neg Bool.false_ne_true] at H
    exact absurd H (by simp)
 replace c4 := Bool.eq_false_iff.mpr c4
 subst c4
 rw [if_neg Bool.false_ne_true] at H
 exact absurd H (by simp)
end Go.Proofs.YtndennmpnomjnaaDoor.A
