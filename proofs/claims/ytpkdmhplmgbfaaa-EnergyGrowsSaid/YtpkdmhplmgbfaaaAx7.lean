-- Written by wip/tools/xprint.py, a program of this session that drives the kit's printer. Not trusted: Lean checks it.
import Derived.Test.YtpkdmhplmgbfaaaAx0
import Derived.Test.YtpkdmhplmgbfaaaAx4
import Derived.Test.YtpkdmhplmgbfaaaRefShares
namespace Go.Proofs.Ytpkdmhplmgbfaaa.A
open Go.RowKit Go.Proofs.YtpkdmhplmgbfaaaW.PrintWords Go.Proofs.YtpkdmhplmgbfaaaW.PrintLast Go.Proofs.YtpkdmhplmgbfaaaW.PrintMore
attribute [local go_sem] max2_int min2_int max_two min_two max_three min_three max_four min_four   -- for this text's walks alone
set_option linter.unusedVariables false
set_option linter.unusedSimpArgs false

/-! ### cupellaw34_EnergyShares: function 5 -/
def cupellaw34_EnergyShares.f (k : Nat) (l0 : List Int) (a1 : Int) : Option (Bool) := (cupellaw34_shown.f k).bind fun t238 => (if t238 = true then (if (l0.length : Int) > 2000 then (some true) else ((energy_Shares.f k l0 a1).bind fun bt239 => ((cupelref34_Shares.f k l0 a1).bind fun bt243 => ((cupellaw34_same.f k bt239.1 bt243.1).bind fun t247 => (if t247 = true then (some (bt239.2 == bt243.2)) else (none)))))) else (none))
theorem cupellaw34_EnergyShares.mono : ∀ a0 a1 k, LeO (cupellaw34_EnergyShares.f k a0 a1) (cupellaw34_EnergyShares.f (k + 1) a0 a1) := by
  intro a0 a1 k
  unfold cupellaw34_EnergyShares.f
  repeat' first
      | (with_reducible exact cupellaw34_same.mono _ _ _)
      | (with_reducible exact cupellaw34_shown.mono _)
      | (with_reducible exact cupelref34_Shares.mono _ _ _)
      | (with_reducible exact energy_Shares.mono _ _ _)
      | (with_reducible exact LeO.refl _)
      | (with_reducible exact LeO.none _)
      | (with_reducible refine LeO.ite ?_ ?_)
      | (with_reducible refine LeO.bind ?_ (fun _ => ?_))
      | exact cupellaw34_same.mono _ _ _
      | exact cupellaw34_shown.mono _
      | exact cupelref34_Shares.mono _ _ _
      | exact energy_Shares.mono _ _ _
      | exact LeO.none _
      | refine LeO.ite ?_ ?_
      | refine LeO.bind ?_ (fun _ => ?_)
set_option maxHeartbeats 8000000 in
set_option maxRecDepth 100000 in
theorem cupellaw34_EnergyShares.calls (k : Nat) (A0 : Option Addr) (c0 : Nat) (l0 : List Int) (a1 : Int) (r : Bool) (w : World) (hr0 : Kd.C (Kd.int .i64) w A0 l0.length l0) (hc0 : l0.length ≤ c0) (h : cupellaw34_EnergyShares.f k l0 a1 = some r) :
    Calls Try.prog 5 #[.slice A0 l0.length c0, .int .i64 a1] w fun e w' => e = .returned (.bool r) ∧ Below w.heap.size w w' := by
  have HR0 := Aside0.mk hr0
  have HC0 := Aside0.mk hc0
  clear hr0 hc0
  have HB := Aside0.mk (Below.refl w.heap.size w)
  have H : ((cupellaw34_shown.f k).bind fun t238 => (if t238 = true then (if (l0.length : Int) > 2000 then (some true) else ((energy_Shares.f k l0 a1).bind fun bt239 => ((cupelref34_Shares.f k l0 a1).bind fun bt243 => ((cupellaw34_same.f k bt239.1 bt243.1).bind fun t247 => (if t247 = true then (some (bt239.2 == bt243.2)) else (none)))))) else (none))) = some r := h
  clear h
  replace H := Option.bind_eq_some_iff.mp H
  obtain ⟨t238, A30, H⟩ := H
  replace H : (if t238 = true then (if (l0.length : Int) > 2000 then (some true) else ((energy_Shares.f k l0 a1).bind fun bt239 => ((cupelref34_Shares.f k l0 a1).bind fun bt243 => ((cupellaw34_same.f k bt239.1 bt243.1).bind fun t247 => (if t247 = true then (some (bt239.2 == bt243.2)) else (none)))))) else (none)) = some r := H
  have A3 := Aside0.mk A30
  clear A30
  by_cases c4 : t238 = true
  · subst c4
    have H1 : (if (l0.length : Int) > 2000 then (some true) else ((energy_Shares.f k l0 a1).bind fun bt239 => ((cupelref34_Shares.f k l0 a1).bind fun bt243 => ((cupellaw34_same.f k bt239.1 bt243.1).bind fun t247 => (if t247 = true then (some (bt239.2 == bt243.2)) else (none)))))) = some r := by rw [if_pos rfl] at H; exact H
    clear H
    have H := H1
    clear H1
    by_cases c5 : (l0.length : Int) > 2000
    · rw [if_pos c5] at H
      have c5b0 : decide (2000 < (l0.length : Int)) = true := decide_eq_true c5
      have c5b1 : decide (2000 < l0.length) = true := decide_eq_true (by omega)
      clear c5
      obtain rfl := Option.some.inj H
      go_enter Try.func5, Try.ntmps5
      go_wp2_with (first | ((with_reducible refine gate_callee (f := 9) rfl ?_); refine goesL_ (some 9) rfl rfl Try.func9 (by kernel_rfl) rfl #[] rfl (by (try simp only [List.map_toArray, List.map_cons, List.map_nil]); first | done | rfl | (simp only [List.length_drop, List.length_take]; rfl)) ?_; (with_reducible refine (cupellaw34_shown.calls k  true _ A3.out).mono ?_); rintro e w6 ⟨rfl, hb⟩; refine ⟨_, rfl, ?_⟩; have n0_ := Aside0.mk (below_step (by repeat (first | (with_reducible first | exact HB.out | apply below_alloc | apply pw_below_drewN | apply below_drew1) | exact HB.out)) hb); clear HB; have HB := n0_; clear n0_; (try clear hb); (try clear hb2); (try clear hk); (try clear hi)))
      go_ret
      exact ⟨by first | rfl | (simp [errW_none, errW_some] <;> rfl) | (simp [*, errW_none, errW_some] <;> rfl), by repeat (first | (with_reducible first | exact HB.out | apply below_alloc | apply pw_below_drewN | apply below_drew1) | exact HB.out)⟩
    · rw [if_neg c5] at H
      have c5b0 : decide (2000 < (l0.length : Int)) = false := decide_eq_false c5
      have c5b1 : decide (2000 < l0.length) = false := decide_eq_false (by omega)
      clear c5
      replace H := Option.bind_eq_some_iff.mp H
      obtain ⟨⟨t239, t240⟩, A70, H⟩ := H
      replace H : ((cupelref34_Shares.f k l0 a1).bind fun bt243 => ((cupellaw34_same.f k t239 bt243.1).bind fun t247 => (if t247 = true then (some (t240 == bt243.2)) else (none)))) = some r := H
      have A7 := Aside0.mk A70
      clear A70
      replace H := Option.bind_eq_some_iff.mp H
      obtain ⟨⟨t243, t244⟩, A80, H⟩ := H
      replace H : ((cupellaw34_same.f k t239 t243).bind fun t247 => (if t247 = true then (some (t240 == t244)) else (none))) = some r := H
      have A8 := Aside0.mk A80
      clear A80
      replace H := Option.bind_eq_some_iff.mp H
      obtain ⟨t247, A90, H⟩ := H
      replace H : (if t247 = true then (some (t240 == t244)) else (none)) = some r := H
      have A9 := Aside0.mk A90
      clear A90
      by_cases c10 : t247 = true
      · subst c10
        have H1 : (some (t240 == t244)) = some r := by rw [if_pos rfl] at H; exact H
        clear H
        have H := H1
        clear H1
        obtain rfl := Option.some.inj H
        go_enter Try.func5, Try.ntmps5
        go_wp2_with (first | ((with_reducible refine gate_callee (f := 9) rfl ?_); refine goesL_ (some 9) rfl rfl Try.func9 (by kernel_rfl) rfl #[] rfl (by (try simp only [List.map_toArray, List.map_cons, List.map_nil]); first | done | rfl | (simp only [List.length_drop, List.length_take]; rfl)) ?_; (with_reducible refine (cupellaw34_shown.calls k  true _ A3.out).mono ?_); rintro e w11 ⟨rfl, hb⟩; refine ⟨_, rfl, ?_⟩; have n0_ := Aside0.mk (below_step (by repeat (first | (with_reducible first | exact HB.out | apply below_alloc | apply pw_below_drewN | apply below_drew1) | exact HB.out)) hb); clear HB; have HB := n0_; clear n0_; (try clear hb); (try clear hb2); (try clear hk); (try clear hi)) | ((with_reducible refine gate_callee (f := 14) rfl ?_); refine goesL_ (some 17) rfl rfl Try.func14 (by kernel_rfl) rfl #[.slice A0 l0.length c0, .int .i64 a1] rfl (by (try simp only [List.map_toArray, List.map_cons, List.map_nil]); first | done | rfl | (simp only [List.length_drop, List.length_take]; rfl)) ?_; (with_reducible refine (energy_Shares.calls k _ _ l0 a1 t239 t240 _ ?side1 ?side2 A7.out).mono ?_); (case side1 => repeat (first | exact (Kd.C_below HR0.out HB.out) | (with_reducible refine Kd.C_alloc ?_ _) | (with_reducible refine Kd.C_drewN ?_ _) | (with_reducible refine Kd.C_drew ?_))); (case side2 => exact HC0.out); rintro e w12 ⟨v241, rfl, ho0, hb⟩; refine ⟨_, rfl, ?_⟩; have n0_ := Aside0.mk (Kd.R_lower ho0 (below_size (by repeat (first | (with_reducible first | exact HB.out | apply below_alloc | apply pw_below_drewN | apply below_drew1) | exact HB.out)))); have n1_ := Aside0.mk (below_step (by repeat (first | (with_reducible first | exact HB.out | apply below_alloc | apply pw_below_drewN | apply below_drew1) | exact HB.out)) hb); clear HB; have HO242 := n0_; have HB := n1_; clear n0_ n1_; (try clear hb); (try clear hb2); (try clear hk); (try clear hi); (try clear ho0)) | ((with_reducible refine gate_callee (f := 15) rfl ?_); refine goesL_ (some 23) rfl rfl Try.func15 (by kernel_rfl) rfl #[.slice A0 l0.length c0, .int .i64 a1] rfl (by (try simp only [List.map_toArray, List.map_cons, List.map_nil]); first | done | rfl | (simp only [List.length_drop, List.length_take]; rfl)) ?_; (with_reducible refine (cupelref34_Shares.calls k _ _ l0 a1 t243 t244 _ ?side1 ?side2 A8.out).mono ?_); (case side1 => repeat (first | exact (Kd.C_below HR0.out HB.out) | (with_reducible refine Kd.C_alloc ?_ _) | (with_reducible refine Kd.C_drewN ?_ _) | (with_reducible refine Kd.C_drew ?_))); (case side2 => exact HC0.out); rintro e w13 ⟨v245, rfl, ho0, hb⟩; refine ⟨_, rfl, ?_⟩; have n0_ := Aside0.mk (Kd.R_elder' (by (with_reducible repeat (first | apply Kd.R_alloc | apply Kd.R_drewN | apply Kd.R_drew)); exact HO242.out) (Kd.R_base ho0) hb); have n1_ := Aside0.mk (Kd.R_lower (Kd.R_new' ho0 (Kd.R_lt (by (with_reducible repeat (first | apply Kd.R_alloc | apply Kd.R_drewN | apply Kd.R_drew)); exact HO242.out))) (below_size (by repeat (first | (with_reducible first | exact HB.out | apply below_alloc | apply pw_below_drewN | apply below_drew1) | exact HB.out)))); have n2_ := Aside0.mk (below_step (by repeat (first | (with_reducible first | exact HB.out | apply below_alloc | apply pw_below_drewN | apply below_drew1) | exact HB.out)) hb); clear HO242; clear HB; have HO242 := n0_; have HO246 := n1_; have HB := n2_; clear n0_ n1_ n2_; (try clear hb); (try clear hb2); (try clear hk); (try clear hi); (try clear ho0); obtain ⟨Ao14, co14, eo14⟩ := Kd.R_slice HO242.out; subst eo14; obtain ⟨Ao15, co15, eo15⟩ := Kd.R_slice HO246.out; subst eo15) | ((with_reducible refine gate_callee (f := 16) rfl ?_); refine goesL_ (some 28) rfl rfl Try.func16 (by kernel_rfl) rfl #[.slice Ao14 t239.length co14, .slice Ao15 t243.length co15] rfl (by (try simp only [List.map_toArray, List.map_cons, List.map_nil]); first | done | rfl | (simp only [List.length_drop, List.length_take]; rfl)) ?_; (with_reducible refine (cupellaw34_same.calls k _ _ t239 _ _ t243 true _ ?side1 ?side2 ?side3 ?side4 A9.out).mono ?_); (case side1 => repeat (first | exact (Kd.R_reads' HO242.out).2.2 | (with_reducible refine Kd.C_alloc ?_ _) | (with_reducible refine Kd.C_drewN ?_ _) | (with_reducible refine Kd.C_drew ?_))); (case side2 => exact (Kd.R_reads' HO242.out).2.1); (case side3 => repeat (first | exact (Kd.R_reads' HO246.out).2.2 | (with_reducible refine Kd.C_alloc ?_ _) | (with_reducible refine Kd.C_drewN ?_ _) | (with_reducible refine Kd.C_drew ?_))); (case side4 => exact (Kd.R_reads' HO246.out).2.1); rintro e w' ⟨rfl, ⟨nd, rfl⟩⟩; refine ⟨_, rfl, ?_⟩))
        go_ret
        exact ⟨by first | rfl | (simp [errW_none, errW_some] <;> rfl) | (simp [*, errW_none, errW_some] <;> rfl), by repeat (first | (with_reducible first | exact HB.out | apply below_alloc | apply pw_below_drewN | apply below_drew1) | exact HB.out)⟩
      · replace c10 := Bool.eq_false_iff.mpr c10
        subst c10
        have H1 : (none) = some r := by rw [if_neg (show ¬ (false = true) by decide)] at H; exact H
        clear H
        have H := H1
        clear H1
        exact absurd H (by simp)
  · replace c4 := Bool.eq_false_iff.mpr c4
    subst c4
    have H1 : (none) = some r := by rw [if_neg (show ¬ (false = true) by decide)] at H; exact H
    clear H
    have H := H1
    clear H1
    exact absurd H (by simp)

/-- THE ONE PURE STATEMENT of cupellaw34_EnergyShares: yours. -/
def cupellaw34_EnergyShares.Pure : Prop := ∀ (l0 : List Int) (a1 : Int), l0.length ≤ maxLen → l0.length * 8 ≤ 140737488351232 → (∀ x ∈ l0, (Lit.int .i64 x).wf = true) → (Lit.int .i64 a1).wf = true → ∃ k, cupellaw34_EnergyShares.f k l0 a1 = some true
theorem cupellaw34_EnergyShares.walk (P : cupellaw34_EnergyShares.Pure) (a0 : Option Addr) (len0 cap0 : Nat) (z0 : List Int) (a1 : Int) (w : World) (w0 : (a0 = none ∧ len0 = 0 ∧ cap0 = 0 ∧ z0 = []) ∨ ∃ x, a0 = some x ∧ len0 ≤ cap0 ∧ cap0 ≤ maxLen ∧ z0.length = cap0 ∧ (∀ i, i < z0.length → w.cell? (x.add i) = some (.int .i64 (z0.getD i 0))) ∧ ∀ n ∈ z0, (Lit.int .i64 n).wf = true) (y0 : len0 * 8 ≤ 140737488351232) (w1 : (Lit.int .i64 a1).wf = true) :
    Calls Try.prog 5 #[.slice a0 len0 cap0, .int .i64 a1] w fun e w' => e = .returned (.bool true) ∧ Below w.heap.size w w' := by
  obtain ⟨l0, rfl, hr0, hm0, hw0, hc0⟩ := ReadsInt.ofRowC w0
  obtain ⟨k, h⟩ := P l0 a1 hm0 y0 hw0 w1
  refine (cupellaw34_EnergyShares.calls k _ _ l0 a1 true w (Kd.C_of_reads (d := (0 : Int)) (h1 := fun _ => rfl) hr0) hc0 h).mono ?_
  rintro e w' ⟨rfl, hd⟩
  exact ⟨rfl, hd⟩

/-! ### cupellaw34_EnergyExact: function 6 -/
mutual
def cupellaw34_EnergyExact.l0 : Nat → List Int → Int → List Int → Int → Int → Int → Option (Bool)
  | 0, _, _, _, _, _, _ => none
  | k + 1, x0, x1, x5, x7, x8, x9 => if x9 < (x0.length : Int) then (if 0 ≤ x9 then (if x9 < (x5.length : Int) then (cupellaw34_EnergyExact.l0 k x0 x1 x5 (wrap64 (x7 + (rd x0 x9))) (wrap64 (x8 + (rd x5 x9))) (wrap64 (x9 + 1))) else (none)) else (none)) else (if x8 = x1 then (cupellaw34_EnergyExact.l1 k x0 x1 x5 x7 0) else (none))
def cupellaw34_EnergyExact.l1 : Nat → List Int → Int → List Int → Int → Int → Option (Bool)
  | 0, _, _, _, _, _ => none
  | k + 1, x0, x1, x5, x7, x10 => if x10 < (x0.length : Int) then (if 0 ≤ x10 then (if x10 < (x5.length : Int) then (if (wrap64 ((wrap64 ((rd x5 x10) * x7)) - (wrap64 (x1 * (rd x0 x10))))) ≥ x7 then (cupellaw34_EnergyExact.j2 k x0 x1 x5 x7 x10 true) else (cupellaw34_EnergyExact.j2 k x0 x1 x5 x7 x10 (decide ((wrap64 ((wrap64 ((rd x5 x10) * x7)) - (wrap64 (x1 * (rd x0 x10))))) ≤ (wrap64 (-x7)))))) else (none)) else (none)) else (some true)
def cupellaw34_EnergyExact.j2 : Nat → List Int → Int → List Int → Int → Int → Bool → Option (Bool)
  | 0, _, _, _, _, _, _ => none
  | k + 1, x0, x1, x5, x7, x10, x81 => if x81 = true then (none) else (if x10 > 0 then (if 0 ≤ x10 then (if x10 < (x0.length : Int) then (if 0 ≤ (wrap64 (x10 - 1)) then (if (wrap64 (x10 - 1)) < (x0.length : Int) then (if (rd x0 x10) > (rd x0 (wrap64 (x10 - 1))) then (if x10 < (x5.length : Int) then (if (wrap64 (x10 - 1)) < (x5.length : Int) then (if (rd x5 x10) < (rd x5 (wrap64 (x10 - 1))) then (none) else (if (rd x0 x10) < (rd x0 (wrap64 (x10 - 1))) then (if (rd x5 x10) > (rd x5 (wrap64 (x10 - 1))) then (none) else (cupellaw34_EnergyExact.l1 k x0 x1 x5 x7 (wrap64 (x10 + 1)))) else (cupellaw34_EnergyExact.l1 k x0 x1 x5 x7 (wrap64 (x10 + 1))))) else (none)) else (none)) else (if (rd x0 x10) < (rd x0 (wrap64 (x10 - 1))) then (if x10 < (x5.length : Int) then (if (wrap64 (x10 - 1)) < (x5.length : Int) then (if (rd x5 x10) > (rd x5 (wrap64 (x10 - 1))) then (none) else (cupellaw34_EnergyExact.l1 k x0 x1 x5 x7 (wrap64 (x10 + 1)))) else (none)) else (none)) else (cupellaw34_EnergyExact.l1 k x0 x1 x5 x7 (wrap64 (x10 + 1))))) else (none)) else (none)) else (none)) else (none)) else (cupellaw34_EnergyExact.l1 k x0 x1 x5 x7 (wrap64 (x10 + 1))))
end
def cupellaw34_EnergyExact.f (k : Nat) (l0 : List Int) (a1 : Int) : Option (Bool) := (cupellaw34_shown.f k).bind fun t248 => (if t248 = true then (if (l0.length : Int) > 1000 then (some true) else ((energy_Shares.f k l0 a1).bind fun bt249 => (if bt249.2 = 0 then (if (bt249.1.length : Int) = (l0.length : Int) then (cupellaw34_EnergyExact.l0 k l0 a1 bt249.1 0 0 0) else (none)) else (some ((bt249.1.length : Int) == 0))))) else (none))
theorem cupellaw34_EnergyExact.mono_l : ∀ k, (∀ y0 y1 y2 y3 y4 y5, LeO (cupellaw34_EnergyExact.l0 k y0 y1 y2 y3 y4 y5) (cupellaw34_EnergyExact.l0 (k + 1) y0 y1 y2 y3 y4 y5)) ∧ (∀ y0 y1 y2 y3 y4, LeO (cupellaw34_EnergyExact.l1 k y0 y1 y2 y3 y4) (cupellaw34_EnergyExact.l1 (k + 1) y0 y1 y2 y3 y4)) ∧ (∀ y0 y1 y2 y3 y4 y5, LeO (cupellaw34_EnergyExact.j2 k y0 y1 y2 y3 y4 y5) (cupellaw34_EnergyExact.j2 (k + 1) y0 y1 y2 y3 y4 y5))
  | 0 => ⟨fun _ _ _ _ _ _ r h => by simp [cupellaw34_EnergyExact.l0] at h, fun _ _ _ _ _ r h => by simp [cupellaw34_EnergyExact.l1] at h, fun _ _ _ _ _ _ r h => by simp [cupellaw34_EnergyExact.j2] at h⟩
  | k + 1 => by
    obtain ⟨ih0, ih1, ih2⟩ := cupellaw34_EnergyExact.mono_l k
    refine ⟨?_, ?_, ?_⟩
    · intro y0 y1 y2 y3 y4 y5
      unfold cupellaw34_EnergyExact.l0
      repeat' first
      | (with_reducible exact ih0 _ _ _ _ _ _)
      | (with_reducible exact ih1 _ _ _ _ _)
      | (with_reducible exact ih2 _ _ _ _ _ _)
      | (with_reducible exact cupellaw34_shown.mono _)
      | (with_reducible exact energy_Shares.mono _ _ _)
      | (with_reducible exact LeO.refl _)
      | (with_reducible exact LeO.none _)
      | (with_reducible refine LeO.ite ?_ ?_)
      | (with_reducible refine LeO.bind ?_ (fun _ => ?_))
      | exact ih0 _ _ _ _ _ _
      | exact ih1 _ _ _ _ _
      | exact ih2 _ _ _ _ _ _
      | exact cupellaw34_shown.mono _
      | exact energy_Shares.mono _ _ _
      | exact LeO.none _
      | refine LeO.ite ?_ ?_
      | refine LeO.bind ?_ (fun _ => ?_)
    · intro y0 y1 y2 y3 y4
      unfold cupellaw34_EnergyExact.l1
      repeat' first
      | (with_reducible exact ih0 _ _ _ _ _ _)
      | (with_reducible exact ih1 _ _ _ _ _)
      | (with_reducible exact ih2 _ _ _ _ _ _)
      | (with_reducible exact cupellaw34_shown.mono _)
      | (with_reducible exact energy_Shares.mono _ _ _)
      | (with_reducible exact LeO.refl _)
      | (with_reducible exact LeO.none _)
      | (with_reducible refine LeO.ite ?_ ?_)
      | (with_reducible refine LeO.bind ?_ (fun _ => ?_))
      | exact ih0 _ _ _ _ _ _
      | exact ih1 _ _ _ _ _
      | exact ih2 _ _ _ _ _ _
      | exact cupellaw34_shown.mono _
      | exact energy_Shares.mono _ _ _
      | exact LeO.none _
      | refine LeO.ite ?_ ?_
      | refine LeO.bind ?_ (fun _ => ?_)
    · intro y0 y1 y2 y3 y4 y5
      unfold cupellaw34_EnergyExact.j2
      repeat' first
      | (with_reducible exact ih0 _ _ _ _ _ _)
      | (with_reducible exact ih1 _ _ _ _ _)
      | (with_reducible exact ih2 _ _ _ _ _ _)
      | (with_reducible exact cupellaw34_shown.mono _)
      | (with_reducible exact energy_Shares.mono _ _ _)
      | (with_reducible exact LeO.refl _)
      | (with_reducible exact LeO.none _)
      | (with_reducible refine LeO.ite ?_ ?_)
      | (with_reducible refine LeO.bind ?_ (fun _ => ?_))
      | exact ih0 _ _ _ _ _ _
      | exact ih1 _ _ _ _ _
      | exact ih2 _ _ _ _ _ _
      | exact cupellaw34_shown.mono _
      | exact energy_Shares.mono _ _ _
      | exact LeO.none _
      | refine LeO.ite ?_ ?_
      | refine LeO.bind ?_ (fun _ => ?_)
theorem cupellaw34_EnergyExact.mono : ∀ a0 a1 k, LeO (cupellaw34_EnergyExact.f k a0 a1) (cupellaw34_EnergyExact.f (k + 1) a0 a1) := by
  intro a0 a1 k
  obtain ⟨ih0, ih1, ih2⟩ := cupellaw34_EnergyExact.mono_l k
  unfold cupellaw34_EnergyExact.f
  repeat' first
      | (with_reducible exact ih0 _ _ _ _ _ _)
      | (with_reducible exact ih1 _ _ _ _ _)
      | (with_reducible exact ih2 _ _ _ _ _ _)
      | (with_reducible exact cupellaw34_shown.mono _)
      | (with_reducible exact energy_Shares.mono _ _ _)
      | (with_reducible exact LeO.refl _)
      | (with_reducible exact LeO.none _)
      | (with_reducible refine LeO.ite ?_ ?_)
      | (with_reducible refine LeO.bind ?_ (fun _ => ?_))
      | exact ih0 _ _ _ _ _ _
      | exact ih1 _ _ _ _ _
      | exact ih2 _ _ _ _ _ _
      | exact cupellaw34_shown.mono _
      | exact energy_Shares.mono _ _ _
      | exact LeO.none _
      | refine LeO.ite ?_ ?_
      | refine LeO.bind ?_ (fun _ => ?_)
set_option maxHeartbeats 8000000 in
set_option maxRecDepth 100000 in
theorem cupellaw34_EnergyExact.calls (k : Nat) (A0 : Option Addr) (c0 : Nat) (l0 : List Int) (a1 : Int) (r : Bool) (w : World) (hr0 : Kd.C (Kd.int .i64) w A0 l0.length l0) (hc0 : l0.length ≤ c0) (h : cupellaw34_EnergyExact.f k l0 a1 = some r) :
    Calls Try.prog 6 #[.slice A0 l0.length c0, .int .i64 a1] w fun e w' => e = .returned (.bool r) ∧ Below w.heap.size w w' := by
  have HR0 := Aside0.mk hr0
  have HC0 := Aside0.mk hc0
  clear hr0 hc0
  have HB := Aside0.mk (Below.refl w.heap.size w)
  have H : ((cupellaw34_shown.f k).bind fun t248 => (if t248 = true then (if (l0.length : Int) > 1000 then (some true) else ((energy_Shares.f k l0 a1).bind fun bt249 => (if bt249.2 = 0 then (if (bt249.1.length : Int) = (l0.length : Int) then (cupellaw34_EnergyExact.l0 k l0 a1 bt249.1 0 0 0) else (none)) else (some ((bt249.1.length : Int) == 0))))) else (none))) = some r := h
  clear h
  replace H := Option.bind_eq_some_iff.mp H
  obtain ⟨t248, A30, H⟩ := H
  replace H : (if t248 = true then (if (l0.length : Int) > 1000 then (some true) else ((energy_Shares.f k l0 a1).bind fun bt249 => (if bt249.2 = 0 then (if (bt249.1.length : Int) = (l0.length : Int) then (cupellaw34_EnergyExact.l0 k l0 a1 bt249.1 0 0 0) else (none)) else (some ((bt249.1.length : Int) == 0))))) else (none)) = some r := H
  have A3 := Aside0.mk A30
  clear A30
  by_cases c4 : t248 = true
  · subst c4
    have H1 : (if (l0.length : Int) > 1000 then (some true) else ((energy_Shares.f k l0 a1).bind fun bt249 => (if bt249.2 = 0 then (if (bt249.1.length : Int) = (l0.length : Int) then (cupellaw34_EnergyExact.l0 k l0 a1 bt249.1 0 0 0) else (none)) else (some ((bt249.1.length : Int) == 0))))) = some r := by rw [if_pos rfl] at H; exact H
    clear H
    have H := H1
    clear H1
    by_cases c5 : (l0.length : Int) > 1000
    · rw [if_pos c5] at H
      have c5b0 : decide (1000 < (l0.length : Int)) = true := decide_eq_true c5
      have c5b1 : decide (1000 < l0.length) = true := decide_eq_true (by omega)
      clear c5
      obtain rfl := Option.some.inj H
      go_enter Try.func6, Try.ntmps6
      go_wp2_with (first | (go_at_call 9; (with_reducible refine (cupellaw34_shown.calls k  true _ A3.out).mono ?_); rintro e w6 ⟨rfl, hb⟩; have n0_ := Aside0.mk (below_step (by repeat (first | (with_reducible first | exact HB.out | apply below_alloc | apply pw_below_drewN | apply below_drew1) | exact HB.out)) hb); clear HB; have HB := n0_; clear n0_; (try clear hb); (try clear hb2); (try clear hk); (try clear hi)))
      repeat (go_quiet (first | (go_at_call 9; (with_reducible refine (cupellaw34_shown.calls k  true _ A3.out).mono ?_); rintro e w6 ⟨rfl, hb⟩; have n0_ := Aside0.mk (below_step (by repeat (first | (with_reducible first | exact HB.out | apply below_alloc | apply pw_below_drewN | apply below_drew1) | exact HB.out)) hb); clear HB; have HB := n0_; clear n0_; (try clear hb); (try clear hb2); (try clear hk); (try clear hi))); try go_wp2_with (first | (go_at_call 9; (with_reducible refine (cupellaw34_shown.calls k  true _ A3.out).mono ?_); rintro e w6 ⟨rfl, hb⟩; have n0_ := Aside0.mk (below_step (by repeat (first | (with_reducible first | exact HB.out | apply below_alloc | apply pw_below_drewN | apply below_drew1) | exact HB.out)) hb); clear HB; have HB := n0_; clear n0_; (try clear hb); (try clear hb2); (try clear hk); (try clear hi))))
      go_ret
      exact ⟨by first | rfl | (simp [errW_none, errW_some] <;> rfl) | (simp [*, errW_none, errW_some] <;> rfl), by repeat (first | (with_reducible first | exact HB.out | apply below_alloc | apply pw_below_drewN | apply below_drew1) | exact HB.out)⟩
    · rw [if_neg c5] at H
      have c5b0 : decide (1000 < (l0.length : Int)) = false := decide_eq_false c5
      have c5b1 : decide (1000 < l0.length) = false := decide_eq_false (by omega)
      clear c5
      replace H := Option.bind_eq_some_iff.mp H
      obtain ⟨⟨t249, t250⟩, A70, H⟩ := H
      replace H : (if t250 = 0 then (if (t249.length : Int) = (l0.length : Int) then (cupellaw34_EnergyExact.l0 k l0 a1 t249 0 0 0) else (none)) else (some ((t249.length : Int) == 0))) = some r := H
      have A7 := Aside0.mk A70
      clear A70
      by_cases c8 : t250 = 0
      · rw [if_pos c8] at H
        have c8b0 : (t250 == 0) = true := beq_iff_eq.mpr c8
        have c8b1 : (t250 != 0) = false := bne_eq_false_iff_eq.mpr c8
        clear c8
        by_cases c9 : (t249.length : Int) = (l0.length : Int)
        · rw [if_pos c9] at H
          have c9b0 : ((t249.length : Int) == (l0.length : Int)) = true := beq_iff_eq.mpr c9
          have c9b1 : ((t249.length : Int) != (l0.length : Int)) = false := bne_eq_false_iff_eq.mpr c9
          have c9b2 : (t249.length == l0.length) = true := by first | simpa using c9 | (simp at c9 ⊢; omega)
          clear c9
          have H' := Aside0.mk H
          clear H
          go_enter Try.func6, Try.ntmps6
          go_wp2_with (first | (go_at_call 9; (with_reducible refine (cupellaw34_shown.calls k  true _ A3.out).mono ?_); rintro e w10 ⟨rfl, hb⟩; have n0_ := Aside0.mk (below_step (by repeat (first | (with_reducible first | exact HB.out | apply below_alloc | apply pw_below_drewN | apply below_drew1) | exact HB.out)) hb); clear HB; have HB := n0_; clear n0_; (try clear hb); (try clear hb2); (try clear hk); (try clear hi)) | (go_at_call 14; (with_reducible refine (energy_Shares.calls k _ _ l0 a1 t249 t250 _ ?side1 ?side2 A7.out).mono ?_); (case side1 => repeat (first | exact (Kd.C_below HR0.out HB.out) | (with_reducible refine Kd.C_alloc ?_ _) | (with_reducible refine Kd.C_drewN ?_ _) | (with_reducible refine Kd.C_drew ?_))); (case side2 => exact HC0.out); rintro e w11 ⟨v251, rfl, ho0, hb⟩; have n0_ := Aside0.mk (Kd.R_lower ho0 (below_size (by repeat (first | (with_reducible first | exact HB.out | apply below_alloc | apply pw_below_drewN | apply below_drew1) | exact HB.out)))); have n1_ := Aside0.mk (below_step (by repeat (first | (with_reducible first | exact HB.out | apply below_alloc | apply pw_below_drewN | apply below_drew1) | exact HB.out)) hb); clear HB; have HO252 := n0_; have HB := n1_; clear n0_ n1_; (try clear hb); (try clear hb2); (try clear hk); (try clear hi); (try clear ho0); obtain ⟨Ao12, co12, eo12⟩ := Kd.R_slice HO252.out; subst eo12))
          repeat (go_quiet (first | (go_at_call 9; (with_reducible refine (cupellaw34_shown.calls k  true _ A3.out).mono ?_); rintro e w10 ⟨rfl, hb⟩; have n0_ := Aside0.mk (below_step (by repeat (first | (with_reducible first | exact HB.out | apply below_alloc | apply pw_below_drewN | apply below_drew1) | exact HB.out)) hb); clear HB; have HB := n0_; clear n0_; (try clear hb); (try clear hb2); (try clear hk); (try clear hi)) | (go_at_call 14; (with_reducible refine (energy_Shares.calls k _ _ l0 a1 t249 t250 _ ?side1 ?side2 A7.out).mono ?_); (case side1 => repeat (first | exact (Kd.C_below HR0.out HB.out) | (with_reducible refine Kd.C_alloc ?_ _) | (with_reducible refine Kd.C_drewN ?_ _) | (with_reducible refine Kd.C_drew ?_))); (case side2 => exact HC0.out); rintro e w11 ⟨v251, rfl, ho0, hb⟩; have n0_ := Aside0.mk (Kd.R_lower ho0 (below_size (by repeat (first | (with_reducible first | exact HB.out | apply below_alloc | apply pw_below_drewN | apply below_drew1) | exact HB.out)))); have n1_ := Aside0.mk (below_step (by repeat (first | (with_reducible first | exact HB.out | apply below_alloc | apply pw_below_drewN | apply below_drew1) | exact HB.out)) hb); clear HB; have HO252 := n0_; have HB := n1_; clear n0_ n1_; (try clear hb); (try clear hb2); (try clear hk); (try clear hi); (try clear ho0); obtain ⟨Ao12, co12, eo12⟩ := Kd.R_slice HO252.out; subst eo12)); try go_wp2_with (first | (go_at_call 9; (with_reducible refine (cupellaw34_shown.calls k  true _ A3.out).mono ?_); rintro e w10 ⟨rfl, hb⟩; have n0_ := Aside0.mk (below_step (by repeat (first | (with_reducible first | exact HB.out | apply below_alloc | apply pw_below_drewN | apply below_drew1) | exact HB.out)) hb); clear HB; have HB := n0_; clear n0_; (try clear hb); (try clear hb2); (try clear hk); (try clear hi)) | (go_at_call 14; (with_reducible refine (energy_Shares.calls k _ _ l0 a1 t249 t250 _ ?side1 ?side2 A7.out).mono ?_); (case side1 => repeat (first | exact (Kd.C_below HR0.out HB.out) | (with_reducible refine Kd.C_alloc ?_ _) | (with_reducible refine Kd.C_drewN ?_ _) | (with_reducible refine Kd.C_drew ?_))); (case side2 => exact HC0.out); rintro e w11 ⟨v251, rfl, ho0, hb⟩; have n0_ := Aside0.mk (Kd.R_lower ho0 (below_size (by repeat (first | (with_reducible first | exact HB.out | apply below_alloc | apply pw_below_drewN | apply below_drew1) | exact HB.out)))); have n1_ := Aside0.mk (below_step (by repeat (first | (with_reducible first | exact HB.out | apply below_alloc | apply pw_below_drewN | apply below_drew1) | exact HB.out)) hb); clear HB; have HO252 := n0_; have HB := n1_; clear n0_ n1_; (try clear hb); (try clear hb2); (try clear hk); (try clear hi); (try clear ho0); obtain ⟨Ao12, co12, eo12⟩ := Kd.R_slice HO252.out; subst eo12)))
          go_loopg [7, 8, 9] k (fun kq v7 v8 v9 w' => ∃ (x7_1 : Int) (x8_1 : Int) (x9_1 : Int), v7 = .int .i64 x7_1 ∧ v8 = .int .i64 x8_1 ∧ v9 = .int .i64 x9_1 ∧ Aside0 (cupellaw34_EnergyExact.l0 kq l0 a1 t249 x7_1 x8_1 x9_1 = some r) ∧ Aside0 (kq ≤ k) ∧ Aside0 (Kd.R (Kd.int .i64) 3 w' w.heap.size (fun _ => True) (.slice Ao12 t249.length co12) t249) ∧ Aside0 (Below w.heap.size w w'))
          case atStart => exact ⟨(0), (0), (0), (by first | rfl | (simp; done) | (simp [*]; done)), (by first | rfl | (simp; done) | (simp [*]; done)), (by first | rfl | (simp; done) | (simp [*]; done)), H', ⟨Nat.le_refl _⟩, ⟨by (with_reducible repeat (first | apply Kd.R_alloc | apply Kd.R_drewN | apply Kd.R_drew)); exact HO252.out⟩, ⟨by repeat (first | (with_reducible first | exact HB.out | apply below_alloc | apply pw_below_drewN | apply below_drew1) | exact HB.out)⟩⟩
          case round =>
            clear H'
            try clear p2
            try clear c4
            try clear c5
            try clear c5b0
            try clear c5b1
            try clear c6
            try clear c8
            try clear c8b0
            try clear c8b1
            try clear c9
            try clear c9b0
            try clear c9b1
            try clear c9b2
            obtain ⟨x7_1, x8_1, x9_1, rfl, rfl, rfl, HA, HK1, HO_5, HB⟩ := hrel
            cases gk with
            | zero => exact absurd HA.out (by simp [cupellaw34_EnergyExact.l0])
            | succ k1 =>
              have H := HA.out
              clear HA
              simp only [cupellaw34_EnergyExact.l0] at H
              by_cases c13 : x9_1 < (l0.length : Int)
              · rw [if_pos c13] at H
                have c13b0 : decide (x9_1 < (l0.length : Int)) = true := decide_eq_true c13
                clear c13
                by_cases c14 : 0 ≤ x9_1
                · rw [if_pos c14] at H
                  have c14b0 : decide (0 ≤ x9_1) = true := decide_eq_true c14
                  clear c14
                  by_cases c15 : x9_1 < (t249.length : Int)
                  · rw [if_pos c15] at H
                    have c15b0 : decide (x9_1 < (t249.length : Int)) = true := decide_eq_true c15
                    clear c15
                    have H' := Aside0.mk H
                    clear H
                    have p253 : 0 ≤ (x9_1 : Int) := of_decide_eq_true (by first | (with_reducible assumption) | assumption)
                    have q253 : x9_1 < (l0.length : Int) := of_decide_eq_true (by first | (with_reducible assumption) | assumption)
                    obtain ⟨ad253, e253, hx253_0⟩ := Kd.at_int HR0.out x9_1 p253 q253
                    cases e253
                    replace hx253_0 := (HB.out.cell (World.block_lt_of_cell? w _ hx253_0)).trans hx253_0
                    replace p253 := eq_true p253
                    replace q253 := eq_true q253
                    have p254 : 0 ≤ (x9_1 : Int) := of_decide_eq_true (by first | (with_reducible assumption) | assumption)
                    have q254 : x9_1 < (t249.length : Int) := of_decide_eq_true (by first | (with_reducible assumption) | assumption)
                    obtain ⟨ad254, e254, hx254_0⟩ := Kd.at_int (Kd.R_reads' HO_5.out).2.2 x9_1 p254 q254
                    cases e254
                    replace p254 := eq_true p254
                    replace q254 := eq_true q254
                    go_wp2
                    repeat (go_quiet (fail); try go_wp2)
                    go_roundg k1
                    case measure => have := HK1.out; omega
                    case rel => exact ⟨(wrap64 (x7_1 + (rd l0 x9_1))), (wrap64 (x8_1 + (rd t249 x9_1))), (wrap64 (x9_1 + 1)), (by first | rfl | (simp; done) | (simp [*]; done)), (by first | rfl | (simp; done) | (simp [*]; done)), (by first | rfl | (simp; done) | (simp [*]; done)), H', ⟨by have := HK1.out; omega⟩, ⟨by (with_reducible repeat (first | apply Kd.R_alloc | apply Kd.R_drewN | apply Kd.R_drew)); exact HO_5.out⟩, ⟨by repeat (first | (with_reducible first | exact HB.out | apply below_alloc | apply pw_below_drewN | apply below_drew1) | exact HB.out)⟩⟩
                  · rw [if_neg c15] at H
                    exact absurd H (by simp)
                · rw [if_neg c14] at H
                  exact absurd H (by simp)
              · rw [if_neg c13] at H
                have c13b0 : decide (x9_1 < (l0.length : Int)) = false := decide_eq_false c13
                clear c13
                by_cases c16 : x8_1 = a1
                · rw [if_pos c16] at H
                  have c16b0 : (x8_1 == a1) = true := beq_iff_eq.mpr c16
                  have c16b1 : (x8_1 != a1) = false := bne_eq_false_iff_eq.mpr c16
                  clear c16
                  have H' := Aside0.mk H
                  clear H
                  go_wp2
                  repeat (go_quiet (fail); try go_wp2)
                  go_loopg [10] k1 (fun kq v10 w' => ∃ (x10_2 : Int), v10 = .int .i64 x10_2 ∧ Aside0 (cupellaw34_EnergyExact.l1 kq l0 a1 t249 x7_1 x10_2 = some r) ∧ Aside0 (kq ≤ k1) ∧ Aside0 (Kd.R (Kd.int .i64) 3 w' w.heap.size (fun _ => True) (.slice Ao12 t249.length co12) t249) ∧ Aside0 (Below w.heap.size w w'))
                  case atStart => exact ⟨(0), (by first | rfl | (simp; done) | (simp [*]; done)), H', ⟨Nat.le_refl _⟩, ⟨by (with_reducible repeat (first | apply Kd.R_alloc | apply Kd.R_drewN | apply Kd.R_drew)); exact HO_5.out⟩, ⟨by repeat (first | (with_reducible first | exact HB.out | apply below_alloc | apply pw_below_drewN | apply below_drew1) | exact HB.out)⟩⟩
                  case round =>
                    clear H'
                    try clear c1
                    try clear p2
                    try clear q2
                    try clear hx2
                    try clear c4
                    try clear c5
                    try clear c5b0
                    try clear c5b1
                    try clear c6
                    try clear p6
                    try clear c8
                    try clear c8b0
                    try clear c8b1
                    try clear c9
                    try clear c9b0
                    try clear c9b1
                    try clear c9b2
                    try clear c13
                    try clear c13b0
                    try clear c14
                    try clear c14b0
                    try clear c15
                    try clear c15b0
                    try clear c16
                    try clear c16b0
                    try clear c16b1
                    try clear hx253_0
                    try clear hx254_0
                    try clear p2
                    try clear p253
                    try clear p254
                    try clear q253
                    try clear q254
                    obtain ⟨x10_2, rfl, HA, HK2, HO_5, HB⟩ := hrel
                    cases gk with
                    | zero => exact absurd HA.out (by simp [cupellaw34_EnergyExact.l1])
                    | succ k2 =>
                      have H := HA.out
                      clear HA
                      simp only [cupellaw34_EnergyExact.l1] at H
                      by_cases c17 : x10_2 < (l0.length : Int)
                      · rw [if_pos c17] at H
                        have c17b0 : decide (x10_2 < (l0.length : Int)) = true := decide_eq_true c17
                        clear c17
                        by_cases c18 : 0 ≤ x10_2
                        · rw [if_pos c18] at H
                          have c18b0 : decide (0 ≤ x10_2) = true := decide_eq_true c18
                          clear c18
                          by_cases c19 : x10_2 < (t249.length : Int)
                          · rw [if_pos c19] at H
                            have c19b0 : decide (x10_2 < (t249.length : Int)) = true := decide_eq_true c19
                            clear c19
                            have HC20 := Aside0.mk H
                            clear H
                            have p255 : 0 ≤ (x10_2 : Int) := of_decide_eq_true (by first | (with_reducible assumption) | assumption)
                            have q255 : x10_2 < (t249.length : Int) := of_decide_eq_true (by first | (with_reducible assumption) | assumption)
                            obtain ⟨ad255, e255, hx255_0⟩ := Kd.at_int (Kd.R_reads' HO_5.out).2.2 x10_2 p255 q255
                            cases e255
                            replace p255 := eq_true p255
                            replace q255 := eq_true q255
                            have p256 : 0 ≤ (x10_2 : Int) := of_decide_eq_true (by first | (with_reducible assumption) | assumption)
                            have q256 : x10_2 < (l0.length : Int) := of_decide_eq_true (by first | (with_reducible assumption) | assumption)
                            obtain ⟨ad256, e256, hx256_0⟩ := Kd.at_int HR0.out x10_2 p256 q256
                            cases e256
                            replace hx256_0 := (HB.out.cell (World.block_lt_of_cell? w _ hx256_0)).trans hx256_0
                            replace p256 := eq_true p256
                            replace q256 := eq_true q256
                            go_upto_region 22 with (fail)
                            repeat (go_quiet (fail); go_upto_region 22 with (fail))
                            go_cut [81] (fun v81 wc => ∃ (kq : Nat) (x81_19 : Bool), v81 = .bool x81_19 ∧ Aside0 (cupellaw34_EnergyExact.j2 kq l0 a1 t249 x7_1 x10_2 x81_19 = some r) ∧ Aside0 (kq ≤ k2) ∧ Aside0 (Kd.R (Kd.int .i64) 3 wc w.heap.size (fun _ => True) (.slice (some ad255) t249.length co12) t249) ∧ Aside0 (Below w.heap.size w wc))
                            case first =>
                              have H := HC20.out
                              clear HC20
                              by_cases c21 : (wrap64 ((wrap64 ((rd t249 x10_2) * x7_1)) - (wrap64 (a1 * (rd l0 x10_2))))) ≥ x7_1
                              · rw [if_pos c21] at H
                                have c21b0 : decide (x7_1 ≤ (wrap64 ((wrap64 ((rd t249 x10_2) * x7_1)) - (wrap64 (a1 * (rd l0 x10_2)))))) = true := decide_eq_true c21
                                clear c21
                                (first | rw [c21b0] | (simp only [i64_w, i32_w]; rw [c21b0]) | skip)
                                have H' := Aside0.mk H
                                clear H
                                go_wp2
                                repeat (go_quiet (fail); try go_wp2)
                                go_meet
                                case rel => exact ⟨_, (true), (by first | rfl | (simp; done) | (simp [*]; done)), H', ⟨by have := HK1.out; have := HK2.out; first | omega | exact Nat.le_refl _⟩, ⟨by (with_reducible repeat (first | apply Kd.R_alloc | apply Kd.R_drewN | apply Kd.R_drew)); exact HO_5.out⟩, ⟨by repeat (first | (with_reducible first | exact HB.out | apply below_alloc | apply pw_below_drewN | apply below_drew1) | exact HB.out)⟩⟩
                              · rw [if_neg c21] at H
                                have c21b0 : decide (x7_1 ≤ (wrap64 ((wrap64 ((rd t249 x10_2) * x7_1)) - (wrap64 (a1 * (rd l0 x10_2)))))) = false := decide_eq_false c21
                                clear c21
                                (first | rw [c21b0] | (simp only [i64_w, i32_w]; rw [c21b0]) | skip)
                                have H' := Aside0.mk H
                                clear H
                                go_wp2
                                repeat (go_quiet (fail); try go_wp2)
                                go_meet
                                case rel => exact ⟨_, (decide ((wrap64 ((wrap64 ((rd t249 x10_2) * x7_1)) - (wrap64 (a1 * (rd l0 x10_2))))) ≤ (wrap64 (-x7_1)))), (by first | rfl | (simp; done) | (simp [*]; done)), H', ⟨by have := HK1.out; have := HK2.out; first | omega | exact Nat.le_refl _⟩, ⟨by (with_reducible repeat (first | apply Kd.R_alloc | apply Kd.R_drewN | apply Kd.R_drew)); exact HO_5.out⟩, ⟨by repeat (first | (with_reducible first | exact HB.out | apply below_alloc | apply pw_below_drewN | apply below_drew1) | exact HB.out)⟩⟩
                            case rest =>
                              clear HC20
                              try clear c1
                              try clear c2
                              try clear p2
                              try clear q2
                              try clear hx2
                              try clear c4
                              try clear c5
                              try clear c5b0
                              try clear c5b1
                              try clear c6
                              try clear p6
                              try clear c8
                              try clear c8b0
                              try clear c8b1
                              try clear c9
                              try clear c9b0
                              try clear c9b1
                              try clear c9b2
                              try clear c13
                              try clear c13b0
                              try clear c14
                              try clear c14b0
                              try clear c15
                              try clear c15b0
                              try clear c16
                              try clear c16b0
                              try clear c16b1
                              try clear c17
                              try clear c17b0
                              try clear c18
                              try clear c18b0
                              try clear c19
                              try clear c19b0
                              try clear c21
                              try clear c21b0
                              try clear hx253_0
                              try clear hx254_0
                              try clear hx255_0
                              try clear hx256_0
                              try clear p2
                              try clear p253
                              try clear p254
                              try clear p255
                              try clear p256
                              try clear p6
                              try clear q2
                              try clear q253
                              try clear q254
                              try clear q255
                              try clear q256
                              obtain ⟨kq, x81_19, rfl, HA, HJ19, HO_5, HB⟩ := hcut
                              cases kq with
                              | zero => exact absurd HA.out (by simp [cupellaw34_EnergyExact.j2])
                              | succ kj19 =>
                                have H := HA.out
                                clear HA
                                simp only [cupellaw34_EnergyExact.j2] at H
                                by_cases c22 : x81_19 = true
                                · subst c22
                                  have H1 : (none) = some r := by rw [if_pos rfl] at H; exact H
                                  clear H
                                  have H := H1
                                  clear H1
                                  exact absurd H (by simp)
                                · replace c22 := Bool.eq_false_iff.mpr c22
                                  subst c22
                                  have H1 : (if x10_2 > 0 then (if 0 ≤ x10_2 then (if x10_2 < (l0.length : Int) then (if 0 ≤ (wrap64 (x10_2 - 1)) then (if (wrap64 (x10_2 - 1)) < (l0.length : Int) then (if (rd l0 x10_2) > (rd l0 (wrap64 (x10_2 - 1))) then (if x10_2 < (t249.length : Int) then (if (wrap64 (x10_2 - 1)) < (t249.length : Int) then (if (rd t249 x10_2) < (rd t249 (wrap64 (x10_2 - 1))) then (none) else (if (rd l0 x10_2) < (rd l0 (wrap64 (x10_2 - 1))) then (if (rd t249 x10_2) > (rd t249 (wrap64 (x10_2 - 1))) then (none) else (cupellaw34_EnergyExact.l1 kj19 l0 a1 t249 x7_1 (wrap64 (x10_2 + 1)))) else (cupellaw34_EnergyExact.l1 kj19 l0 a1 t249 x7_1 (wrap64 (x10_2 + 1))))) else (none)) else (none)) else (if (rd l0 x10_2) < (rd l0 (wrap64 (x10_2 - 1))) then (if x10_2 < (t249.length : Int) then (if (wrap64 (x10_2 - 1)) < (t249.length : Int) then (if (rd t249 x10_2) > (rd t249 (wrap64 (x10_2 - 1))) then (none) else (cupellaw34_EnergyExact.l1 kj19 l0 a1 t249 x7_1 (wrap64 (x10_2 + 1)))) else (none)) else (none)) else (cupellaw34_EnergyExact.l1 kj19 l0 a1 t249 x7_1 (wrap64 (x10_2 + 1))))) else (none)) else (none)) else (none)) else (none)) else (cupellaw34_EnergyExact.l1 kj19 l0 a1 t249 x7_1 (wrap64 (x10_2 + 1)))) = some r := by rw [if_neg (show ¬ (false = true) by decide)] at H; exact H
                                  clear H
                                  have H := H1
                                  clear H1
                                  by_cases c23 : x10_2 > 0
                                  · rw [if_pos c23] at H
                                    have c23b0 : decide (0 < x10_2) = true := decide_eq_true c23
                                    clear c23
                                    by_cases c24 : 0 ≤ x10_2
                                    · rw [if_pos c24] at H
                                      have c24b0 : decide (0 ≤ x10_2) = true := decide_eq_true c24
                                      clear c24
                                      by_cases c25 : x10_2 < (l0.length : Int)
                                      · rw [if_pos c25] at H
                                        have c25b0 : decide (x10_2 < (l0.length : Int)) = true := decide_eq_true c25
                                        clear c25
                                        obtain ⟨ji26, hji26⟩ : ∃ j_ : Int, (wrap64 (x10_2 - 1)) = j_ := ⟨_, rfl⟩
                                        replace H : (if 0 ≤ (ji26) then (if (ji26) < (l0.length : Int) then (if (rd l0 x10_2) > (rd l0 (ji26)) then (if x10_2 < (t249.length : Int) then (if (ji26) < (t249.length : Int) then (if (rd t249 x10_2) < (rd t249 (ji26)) then (none) else (if (rd l0 x10_2) < (rd l0 (ji26)) then (if (rd t249 x10_2) > (rd t249 (ji26)) then (none) else (cupellaw34_EnergyExact.l1 kj19 l0 a1 t249 x7_1 (wrap64 (x10_2 + 1)))) else (cupellaw34_EnergyExact.l1 kj19 l0 a1 t249 x7_1 (wrap64 (x10_2 + 1))))) else (none)) else (none)) else (if (rd l0 x10_2) < (rd l0 (ji26)) then (if x10_2 < (t249.length : Int) then (if (ji26) < (t249.length : Int) then (if (rd t249 x10_2) > (rd t249 (ji26)) then (none) else (cupellaw34_EnergyExact.l1 kj19 l0 a1 t249 x7_1 (wrap64 (x10_2 + 1)))) else (none)) else (none)) else (cupellaw34_EnergyExact.l1 kj19 l0 a1 t249 x7_1 (wrap64 (x10_2 + 1))))) else (none)) else (none)) = some r := by first | (rw [hji26] at H; exact H) | (simp only [hji26] at H ⊢; exact H)
                                        have hji26w : (IntKind.i64.wrap (x10_2 - 1)) = ji26 := (i64_w _).trans hji26
                                        by_cases c27 : 0 ≤ (ji26)
                                        · rw [if_pos c27] at H
                                          have c27b0 : decide (0 ≤ (ji26)) = true := decide_eq_true c27
                                          clear c27
                                          by_cases c28 : (ji26) < (l0.length : Int)
                                          · rw [if_pos c28] at H
                                            have c28b0 : decide ((ji26) < (l0.length : Int)) = true := decide_eq_true c28
                                            clear c28
                                            by_cases c29 : (rd l0 x10_2) > (rd l0 (ji26))
                                            · rw [if_pos c29] at H
                                              have c29b0 : decide ((rd l0 (ji26)) < (rd l0 x10_2)) = true := decide_eq_true c29
                                              clear c29
                                              by_cases c30 : x10_2 < (t249.length : Int)
                                              · rw [if_pos c30] at H
                                                have c30b0 : decide (x10_2 < (t249.length : Int)) = true := decide_eq_true c30
                                                clear c30
                                                by_cases c31 : (ji26) < (t249.length : Int)
                                                · rw [if_pos c31] at H
                                                  have c31b0 : decide ((ji26) < (t249.length : Int)) = true := decide_eq_true c31
                                                  clear c31
                                                  by_cases c32 : (rd t249 x10_2) < (rd t249 (ji26))
                                                  · rw [if_pos c32] at H
                                                    exact absurd H (by simp)
                                                  · rw [if_neg c32] at H
                                                    have c32b0 : decide ((rd t249 x10_2) < (rd t249 (ji26))) = false := decide_eq_false c32
                                                    clear c32
                                                    by_cases c33 : (rd l0 x10_2) < (rd l0 (ji26))
                                                    · rw [if_pos c33] at H
                                                      have c33b0 : decide ((rd l0 x10_2) < (rd l0 (ji26))) = true := decide_eq_true c33
                                                      clear c33
                                                      by_cases c34 : (rd t249 x10_2) > (rd t249 (ji26))
                                                      · rw [if_pos c34] at H
                                                        exact absurd H (by simp)
                                                      · rw [if_neg c34] at H
                                                        have c34b0 : decide ((rd t249 (ji26)) < (rd t249 x10_2)) = false := decide_eq_false c34
                                                        clear c34
                                                        have H' := Aside0.mk H
                                                        clear H
                                                        have p257 : 0 ≤ (x10_2 : Int) := of_decide_eq_true (by first | (with_reducible assumption) | assumption)
                                                        have q257 : x10_2 < (l0.length : Int) := of_decide_eq_true (by first | (with_reducible assumption) | assumption)
                                                        obtain ⟨ad257, e257, hx257_0⟩ := Kd.at_int HR0.out x10_2 p257 q257
                                                        obtain rfl : ad256 = ad257 := (by injection e257)
                                                        replace hx257_0 := (HB.out.cell (World.block_lt_of_cell? w _ hx257_0)).trans hx257_0
                                                        replace p257 := eq_true p257
                                                        replace q257 := eq_true q257
                                                        have p258 : 0 ≤ ((ji26) : Int) := of_decide_eq_true (by first | (with_reducible assumption) | assumption)
                                                        have q258 : (ji26) < (l0.length : Int) := of_decide_eq_true (by first | (with_reducible assumption) | assumption)
                                                        obtain ⟨ad258, e258, hx258_0⟩ := Kd.at_int HR0.out (ji26) p258 q258
                                                        obtain rfl : ad256 = ad258 := (by injection e258)
                                                        replace hx258_0 := (HB.out.cell (World.block_lt_of_cell? w _ hx258_0)).trans hx258_0
                                                        replace p258 := eq_true p258
                                                        replace q258 := eq_true q258
                                                        have p259 : 0 ≤ (x10_2 : Int) := of_decide_eq_true (by first | (with_reducible assumption) | assumption)
                                                        have q259 : x10_2 < (t249.length : Int) := of_decide_eq_true (by first | (with_reducible assumption) | assumption)
                                                        obtain ⟨ad259, e259, hx259_0⟩ := Kd.at_int (Kd.R_reads' HO_5.out).2.2 x10_2 p259 q259
                                                        obtain rfl : ad255 = ad259 := (by injection e259)
                                                        replace p259 := eq_true p259
                                                        replace q259 := eq_true q259
                                                        have p260 : 0 ≤ ((ji26) : Int) := of_decide_eq_true (by first | (with_reducible assumption) | assumption)
                                                        have q260 : (ji26) < (t249.length : Int) := of_decide_eq_true (by first | (with_reducible assumption) | assumption)
                                                        obtain ⟨ad260, e260, hx260_0⟩ := Kd.at_int (Kd.R_reads' HO_5.out).2.2 (ji26) p260 q260
                                                        obtain rfl : ad255 = ad260 := (by injection e260)
                                                        replace p260 := eq_true p260
                                                        replace q260 := eq_true q260
                                                        have p261 : 0 ≤ (x10_2 : Int) := of_decide_eq_true (by first | (with_reducible assumption) | assumption)
                                                        have q261 : x10_2 < (l0.length : Int) := of_decide_eq_true (by first | (with_reducible assumption) | assumption)
                                                        obtain ⟨ad261, e261, hx261_0⟩ := Kd.at_int HR0.out x10_2 p261 q261
                                                        obtain rfl : ad256 = ad261 := (by injection e261)
                                                        replace hx261_0 := (HB.out.cell (World.block_lt_of_cell? w _ hx261_0)).trans hx261_0
                                                        replace p261 := eq_true p261
                                                        replace q261 := eq_true q261
                                                        have p262 : 0 ≤ ((ji26) : Int) := of_decide_eq_true (by first | (with_reducible assumption) | assumption)
                                                        have q262 : (ji26) < (l0.length : Int) := of_decide_eq_true (by first | (with_reducible assumption) | assumption)
                                                        obtain ⟨ad262, e262, hx262_0⟩ := Kd.at_int HR0.out (ji26) p262 q262
                                                        obtain rfl : ad256 = ad262 := (by injection e262)
                                                        replace hx262_0 := (HB.out.cell (World.block_lt_of_cell? w _ hx262_0)).trans hx262_0
                                                        replace p262 := eq_true p262
                                                        replace q262 := eq_true q262
                                                        have p263 : 0 ≤ (x10_2 : Int) := of_decide_eq_true (by first | (with_reducible assumption) | assumption)
                                                        have q263 : x10_2 < (t249.length : Int) := of_decide_eq_true (by first | (with_reducible assumption) | assumption)
                                                        obtain ⟨ad263, e263, hx263_0⟩ := Kd.at_int (Kd.R_reads' HO_5.out).2.2 x10_2 p263 q263
                                                        obtain rfl : ad255 = ad263 := (by injection e263)
                                                        replace p263 := eq_true p263
                                                        replace q263 := eq_true q263
                                                        have p264 : 0 ≤ ((ji26) : Int) := of_decide_eq_true (by first | (with_reducible assumption) | assumption)
                                                        have q264 : (ji26) < (t249.length : Int) := of_decide_eq_true (by first | (with_reducible assumption) | assumption)
                                                        obtain ⟨ad264, e264, hx264_0⟩ := Kd.at_int (Kd.R_reads' HO_5.out).2.2 (ji26) p264 q264
                                                        obtain rfl : ad255 = ad264 := (by injection e264)
                                                        replace p264 := eq_true p264
                                                        replace q264 := eq_true q264
                                                        go_wp2
                                                        repeat (go_quiet (fail); try go_wp2)
                                                        go_roundg kj19
                                                        case measure => have := HK1.out; have := HK2.out; have := HJ19.out; omega
                                                        case rel => exact ⟨(wrap64 (x10_2 + 1)), (by first | rfl | (simp; done) | (simp [*]; done)), H', ⟨by have := HK1.out; have := HK2.out; have := HJ19.out; omega⟩, ⟨by (with_reducible repeat (first | apply Kd.R_alloc | apply Kd.R_drewN | apply Kd.R_drew)); exact HO_5.out⟩, ⟨by repeat (first | (with_reducible first | exact HB.out | apply below_alloc | apply pw_below_drewN | apply below_drew1) | exact HB.out)⟩⟩
                                                    · rw [if_neg c33] at H
                                                      have c33b0 : decide ((rd l0 x10_2) < (rd l0 (ji26))) = false := decide_eq_false c33
                                                      clear c33
                                                      have H' := Aside0.mk H
                                                      clear H
                                                      have p257 : 0 ≤ (x10_2 : Int) := of_decide_eq_true (by first | (with_reducible assumption) | assumption)
                                                      have q257 : x10_2 < (l0.length : Int) := of_decide_eq_true (by first | (with_reducible assumption) | assumption)
                                                      obtain ⟨ad257, e257, hx257_0⟩ := Kd.at_int HR0.out x10_2 p257 q257
                                                      obtain rfl : ad256 = ad257 := (by injection e257)
                                                      replace hx257_0 := (HB.out.cell (World.block_lt_of_cell? w _ hx257_0)).trans hx257_0
                                                      replace p257 := eq_true p257
                                                      replace q257 := eq_true q257
                                                      have p258 : 0 ≤ ((ji26) : Int) := of_decide_eq_true (by first | (with_reducible assumption) | assumption)
                                                      have q258 : (ji26) < (l0.length : Int) := of_decide_eq_true (by first | (with_reducible assumption) | assumption)
                                                      obtain ⟨ad258, e258, hx258_0⟩ := Kd.at_int HR0.out (ji26) p258 q258
                                                      obtain rfl : ad256 = ad258 := (by injection e258)
                                                      replace hx258_0 := (HB.out.cell (World.block_lt_of_cell? w _ hx258_0)).trans hx258_0
                                                      replace p258 := eq_true p258
                                                      replace q258 := eq_true q258
                                                      have p259 : 0 ≤ (x10_2 : Int) := of_decide_eq_true (by first | (with_reducible assumption) | assumption)
                                                      have q259 : x10_2 < (t249.length : Int) := of_decide_eq_true (by first | (with_reducible assumption) | assumption)
                                                      obtain ⟨ad259, e259, hx259_0⟩ := Kd.at_int (Kd.R_reads' HO_5.out).2.2 x10_2 p259 q259
                                                      obtain rfl : ad255 = ad259 := (by injection e259)
                                                      replace p259 := eq_true p259
                                                      replace q259 := eq_true q259
                                                      have p260 : 0 ≤ ((ji26) : Int) := of_decide_eq_true (by first | (with_reducible assumption) | assumption)
                                                      have q260 : (ji26) < (t249.length : Int) := of_decide_eq_true (by first | (with_reducible assumption) | assumption)
                                                      obtain ⟨ad260, e260, hx260_0⟩ := Kd.at_int (Kd.R_reads' HO_5.out).2.2 (ji26) p260 q260
                                                      obtain rfl : ad255 = ad260 := (by injection e260)
                                                      replace p260 := eq_true p260
                                                      replace q260 := eq_true q260
                                                      have p261 : 0 ≤ (x10_2 : Int) := of_decide_eq_true (by first | (with_reducible assumption) | assumption)
                                                      have q261 : x10_2 < (l0.length : Int) := of_decide_eq_true (by first | (with_reducible assumption) | assumption)
                                                      obtain ⟨ad261, e261, hx261_0⟩ := Kd.at_int HR0.out x10_2 p261 q261
                                                      obtain rfl : ad256 = ad261 := (by injection e261)
                                                      replace hx261_0 := (HB.out.cell (World.block_lt_of_cell? w _ hx261_0)).trans hx261_0
                                                      replace p261 := eq_true p261
                                                      replace q261 := eq_true q261
                                                      have p262 : 0 ≤ ((ji26) : Int) := of_decide_eq_true (by first | (with_reducible assumption) | assumption)
                                                      have q262 : (ji26) < (l0.length : Int) := of_decide_eq_true (by first | (with_reducible assumption) | assumption)
                                                      obtain ⟨ad262, e262, hx262_0⟩ := Kd.at_int HR0.out (ji26) p262 q262
                                                      obtain rfl : ad256 = ad262 := (by injection e262)
                                                      replace hx262_0 := (HB.out.cell (World.block_lt_of_cell? w _ hx262_0)).trans hx262_0
                                                      replace p262 := eq_true p262
                                                      replace q262 := eq_true q262
                                                      go_wp2
                                                      repeat (go_quiet (fail); try go_wp2)
                                                      go_roundg kj19
                                                      case measure => have := HK1.out; have := HK2.out; have := HJ19.out; omega
                                                      case rel => exact ⟨(wrap64 (x10_2 + 1)), (by first | rfl | (simp; done) | (simp [*]; done)), H', ⟨by have := HK1.out; have := HK2.out; have := HJ19.out; omega⟩, ⟨by (with_reducible repeat (first | apply Kd.R_alloc | apply Kd.R_drewN | apply Kd.R_drew)); exact HO_5.out⟩, ⟨by repeat (first | (with_reducible first | exact HB.out | apply below_alloc | apply pw_below_drewN | apply below_drew1) | exact HB.out)⟩⟩
                                                · rw [if_neg c31] at H
                                                  exact absurd H (by simp)
                                              · rw [if_neg c30] at H
                                                exact absurd H (by simp)
                                            · rw [if_neg c29] at H
                                              have c29b0 : decide ((rd l0 (ji26)) < (rd l0 x10_2)) = false := decide_eq_false c29
                                              clear c29
                                              by_cases c35 : (rd l0 x10_2) < (rd l0 (ji26))
                                              · rw [if_pos c35] at H
                                                have c35b0 : decide ((rd l0 x10_2) < (rd l0 (ji26))) = true := decide_eq_true c35
                                                clear c35
                                                by_cases c36 : x10_2 < (t249.length : Int)
                                                · rw [if_pos c36] at H
                                                  have c36b0 : decide (x10_2 < (t249.length : Int)) = true := decide_eq_true c36
                                                  clear c36
                                                  by_cases c37 : (ji26) < (t249.length : Int)
                                                  · rw [if_pos c37] at H
                                                    have c37b0 : decide ((ji26) < (t249.length : Int)) = true := decide_eq_true c37
                                                    clear c37
                                                    by_cases c38 : (rd t249 x10_2) > (rd t249 (ji26))
                                                    · rw [if_pos c38] at H
                                                      exact absurd H (by simp)
                                                    · rw [if_neg c38] at H
                                                      have c38b0 : decide ((rd t249 (ji26)) < (rd t249 x10_2)) = false := decide_eq_false c38
                                                      clear c38
                                                      have H' := Aside0.mk H
                                                      clear H
                                                      have p257 : 0 ≤ (x10_2 : Int) := of_decide_eq_true (by first | (with_reducible assumption) | assumption)
                                                      have q257 : x10_2 < (l0.length : Int) := of_decide_eq_true (by first | (with_reducible assumption) | assumption)
                                                      obtain ⟨ad257, e257, hx257_0⟩ := Kd.at_int HR0.out x10_2 p257 q257
                                                      obtain rfl : ad256 = ad257 := (by injection e257)
                                                      replace hx257_0 := (HB.out.cell (World.block_lt_of_cell? w _ hx257_0)).trans hx257_0
                                                      replace p257 := eq_true p257
                                                      replace q257 := eq_true q257
                                                      have p258 : 0 ≤ ((ji26) : Int) := of_decide_eq_true (by first | (with_reducible assumption) | assumption)
                                                      have q258 : (ji26) < (l0.length : Int) := of_decide_eq_true (by first | (with_reducible assumption) | assumption)
                                                      obtain ⟨ad258, e258, hx258_0⟩ := Kd.at_int HR0.out (ji26) p258 q258
                                                      obtain rfl : ad256 = ad258 := (by injection e258)
                                                      replace hx258_0 := (HB.out.cell (World.block_lt_of_cell? w _ hx258_0)).trans hx258_0
                                                      replace p258 := eq_true p258
                                                      replace q258 := eq_true q258
                                                      have p265 : 0 ≤ (x10_2 : Int) := of_decide_eq_true (by first | (with_reducible assumption) | assumption)
                                                      have q265 : x10_2 < (l0.length : Int) := of_decide_eq_true (by first | (with_reducible assumption) | assumption)
                                                      obtain ⟨ad265, e265, hx265_0⟩ := Kd.at_int HR0.out x10_2 p265 q265
                                                      obtain rfl : ad256 = ad265 := (by injection e265)
                                                      replace hx265_0 := (HB.out.cell (World.block_lt_of_cell? w _ hx265_0)).trans hx265_0
                                                      replace p265 := eq_true p265
                                                      replace q265 := eq_true q265
                                                      have p266 : 0 ≤ ((ji26) : Int) := of_decide_eq_true (by first | (with_reducible assumption) | assumption)
                                                      have q266 : (ji26) < (l0.length : Int) := of_decide_eq_true (by first | (with_reducible assumption) | assumption)
                                                      obtain ⟨ad266, e266, hx266_0⟩ := Kd.at_int HR0.out (ji26) p266 q266
                                                      obtain rfl : ad256 = ad266 := (by injection e266)
                                                      replace hx266_0 := (HB.out.cell (World.block_lt_of_cell? w _ hx266_0)).trans hx266_0
                                                      replace p266 := eq_true p266
                                                      replace q266 := eq_true q266
                                                      have p267 : 0 ≤ (x10_2 : Int) := of_decide_eq_true (by first | (with_reducible assumption) | assumption)
                                                      have q267 : x10_2 < (t249.length : Int) := of_decide_eq_true (by first | (with_reducible assumption) | assumption)
                                                      obtain ⟨ad267, e267, hx267_0⟩ := Kd.at_int (Kd.R_reads' HO_5.out).2.2 x10_2 p267 q267
                                                      obtain rfl : ad255 = ad267 := (by injection e267)
                                                      replace p267 := eq_true p267
                                                      replace q267 := eq_true q267
                                                      have p268 : 0 ≤ ((ji26) : Int) := of_decide_eq_true (by first | (with_reducible assumption) | assumption)
                                                      have q268 : (ji26) < (t249.length : Int) := of_decide_eq_true (by first | (with_reducible assumption) | assumption)
                                                      obtain ⟨ad268, e268, hx268_0⟩ := Kd.at_int (Kd.R_reads' HO_5.out).2.2 (ji26) p268 q268
                                                      obtain rfl : ad255 = ad268 := (by injection e268)
                                                      replace p268 := eq_true p268
                                                      replace q268 := eq_true q268
                                                      go_wp2
                                                      repeat (go_quiet (fail); try go_wp2)
                                                      go_roundg kj19
                                                      case measure => have := HK1.out; have := HK2.out; have := HJ19.out; omega
                                                      case rel => exact ⟨(wrap64 (x10_2 + 1)), (by first | rfl | (simp; done) | (simp [*]; done)), H', ⟨by have := HK1.out; have := HK2.out; have := HJ19.out; omega⟩, ⟨by (with_reducible repeat (first | apply Kd.R_alloc | apply Kd.R_drewN | apply Kd.R_drew)); exact HO_5.out⟩, ⟨by repeat (first | (with_reducible first | exact HB.out | apply below_alloc | apply pw_below_drewN | apply below_drew1) | exact HB.out)⟩⟩
                                                  · rw [if_neg c37] at H
                                                    exact absurd H (by simp)
                                                · rw [if_neg c36] at H
                                                  exact absurd H (by simp)
                                              · rw [if_neg c35] at H
                                                have c35b0 : decide ((rd l0 x10_2) < (rd l0 (ji26))) = false := decide_eq_false c35
                                                clear c35
                                                have H' := Aside0.mk H
                                                clear H
                                                have p257 : 0 ≤ (x10_2 : Int) := of_decide_eq_true (by first | (with_reducible assumption) | assumption)
                                                have q257 : x10_2 < (l0.length : Int) := of_decide_eq_true (by first | (with_reducible assumption) | assumption)
                                                obtain ⟨ad257, e257, hx257_0⟩ := Kd.at_int HR0.out x10_2 p257 q257
                                                obtain rfl : ad256 = ad257 := (by injection e257)
                                                replace hx257_0 := (HB.out.cell (World.block_lt_of_cell? w _ hx257_0)).trans hx257_0
                                                replace p257 := eq_true p257
                                                replace q257 := eq_true q257
                                                have p258 : 0 ≤ ((ji26) : Int) := of_decide_eq_true (by first | (with_reducible assumption) | assumption)
                                                have q258 : (ji26) < (l0.length : Int) := of_decide_eq_true (by first | (with_reducible assumption) | assumption)
                                                obtain ⟨ad258, e258, hx258_0⟩ := Kd.at_int HR0.out (ji26) p258 q258
                                                obtain rfl : ad256 = ad258 := (by injection e258)
                                                replace hx258_0 := (HB.out.cell (World.block_lt_of_cell? w _ hx258_0)).trans hx258_0
                                                replace p258 := eq_true p258
                                                replace q258 := eq_true q258
                                                have p265 : 0 ≤ (x10_2 : Int) := of_decide_eq_true (by first | (with_reducible assumption) | assumption)
                                                have q265 : x10_2 < (l0.length : Int) := of_decide_eq_true (by first | (with_reducible assumption) | assumption)
                                                obtain ⟨ad265, e265, hx265_0⟩ := Kd.at_int HR0.out x10_2 p265 q265
                                                obtain rfl : ad256 = ad265 := (by injection e265)
                                                replace hx265_0 := (HB.out.cell (World.block_lt_of_cell? w _ hx265_0)).trans hx265_0
                                                replace p265 := eq_true p265
                                                replace q265 := eq_true q265
                                                have p266 : 0 ≤ ((ji26) : Int) := of_decide_eq_true (by first | (with_reducible assumption) | assumption)
                                                have q266 : (ji26) < (l0.length : Int) := of_decide_eq_true (by first | (with_reducible assumption) | assumption)
                                                obtain ⟨ad266, e266, hx266_0⟩ := Kd.at_int HR0.out (ji26) p266 q266
                                                obtain rfl : ad256 = ad266 := (by injection e266)
                                                replace hx266_0 := (HB.out.cell (World.block_lt_of_cell? w _ hx266_0)).trans hx266_0
                                                replace p266 := eq_true p266
                                                replace q266 := eq_true q266
                                                go_wp2
                                                repeat (go_quiet (fail); try go_wp2)
                                                go_roundg kj19
                                                case measure => have := HK1.out; have := HK2.out; have := HJ19.out; omega
                                                case rel => exact ⟨(wrap64 (x10_2 + 1)), (by first | rfl | (simp; done) | (simp [*]; done)), H', ⟨by have := HK1.out; have := HK2.out; have := HJ19.out; omega⟩, ⟨by (with_reducible repeat (first | apply Kd.R_alloc | apply Kd.R_drewN | apply Kd.R_drew)); exact HO_5.out⟩, ⟨by repeat (first | (with_reducible first | exact HB.out | apply below_alloc | apply pw_below_drewN | apply below_drew1) | exact HB.out)⟩⟩
                                          · rw [if_neg c28] at H
                                            exact absurd H (by simp)
                                        · rw [if_neg c27] at H
                                          exact absurd H (by simp)
                                      · rw [if_neg c25] at H
                                        exact absurd H (by simp)
                                    · rw [if_neg c24] at H
                                      exact absurd H (by simp)
                                  · rw [if_neg c23] at H
                                    have c23b0 : decide (0 < x10_2) = false := decide_eq_false c23
                                    clear c23
                                    have H' := Aside0.mk H
                                    clear H
                                    go_wp2
                                    repeat (go_quiet (fail); try go_wp2)
                                    go_roundg kj19
                                    case measure => have := HK1.out; have := HK2.out; have := HJ19.out; omega
                                    case rel => exact ⟨(wrap64 (x10_2 + 1)), (by first | rfl | (simp; done) | (simp [*]; done)), H', ⟨by have := HK1.out; have := HK2.out; have := HJ19.out; omega⟩, ⟨by (with_reducible repeat (first | apply Kd.R_alloc | apply Kd.R_drewN | apply Kd.R_drew)); exact HO_5.out⟩, ⟨by repeat (first | (with_reducible first | exact HB.out | apply below_alloc | apply pw_below_drewN | apply below_drew1) | exact HB.out)⟩⟩
                          · rw [if_neg c19] at H
                            exact absurd H (by simp)
                        · rw [if_neg c18] at H
                          exact absurd H (by simp)
                      · rw [if_neg c17] at H
                        have c17b0 : decide (x10_2 < (l0.length : Int)) = false := decide_eq_false c17
                        clear c17
                        obtain rfl := Option.some.inj H
                        go_wp2
                        repeat (go_quiet (fail); try go_wp2)
                        go_ret
                        exact ⟨by first | rfl | (simp [errW_none, errW_some] <;> rfl) | (simp [*, errW_none, errW_some] <;> rfl), by repeat (first | (with_reducible first | exact HB.out | apply below_alloc | apply pw_below_drewN | apply below_drew1) | exact HB.out)⟩
                · rw [if_neg c16] at H
                  exact absurd H (by simp)
        · rw [if_neg c9] at H
          exact absurd H (by simp)
      · rw [if_neg c8] at H
        have c8b0 : (t250 == 0) = false := beq_eq_false_iff_ne.mpr c8
        have c8b1 : (t250 != 0) = true := bne_iff_ne.mpr c8
        obtain rfl := Option.some.inj H
        go_enter Try.func6, Try.ntmps6
        go_wp2_with (first | (go_at_call 9; (with_reducible refine (cupellaw34_shown.calls k  true _ A3.out).mono ?_); rintro e w39 ⟨rfl, hb⟩; have n0_ := Aside0.mk (below_step (by repeat (first | (with_reducible first | exact HB.out | apply below_alloc | apply pw_below_drewN | apply below_drew1) | exact HB.out)) hb); clear HB; have HB := n0_; clear n0_; (try clear hb); (try clear hb2); (try clear hk); (try clear hi)) | (go_at_call 14; (with_reducible refine (energy_Shares.calls k _ _ l0 a1 t249 t250 _ ?side1 ?side2 A7.out).mono ?_); (case side1 => repeat (first | exact (Kd.C_below HR0.out HB.out) | (with_reducible refine Kd.C_alloc ?_ _) | (with_reducible refine Kd.C_drewN ?_ _) | (with_reducible refine Kd.C_drew ?_))); (case side2 => exact HC0.out); rintro e w40 ⟨v251, rfl, ho0, hb⟩; have n0_ := Aside0.mk (Kd.R_lower ho0 (below_size (by repeat (first | (with_reducible first | exact HB.out | apply below_alloc | apply pw_below_drewN | apply below_drew1) | exact HB.out)))); have n1_ := Aside0.mk (below_step (by repeat (first | (with_reducible first | exact HB.out | apply below_alloc | apply pw_below_drewN | apply below_drew1) | exact HB.out)) hb); clear HB; have HO252 := n0_; have HB := n1_; clear n0_ n1_; (try clear hb); (try clear hb2); (try clear hk); (try clear hi); (try clear ho0); obtain ⟨Ao41, co41, eo41⟩ := Kd.R_slice HO252.out; subst eo41))
        repeat (go_quiet (first | (go_at_call 9; (with_reducible refine (cupellaw34_shown.calls k  true _ A3.out).mono ?_); rintro e w39 ⟨rfl, hb⟩; have n0_ := Aside0.mk (below_step (by repeat (first | (with_reducible first | exact HB.out | apply below_alloc | apply pw_below_drewN | apply below_drew1) | exact HB.out)) hb); clear HB; have HB := n0_; clear n0_; (try clear hb); (try clear hb2); (try clear hk); (try clear hi)) | (go_at_call 14; (with_reducible refine (energy_Shares.calls k _ _ l0 a1 t249 t250 _ ?side1 ?side2 A7.out).mono ?_); (case side1 => repeat (first | exact (Kd.C_below HR0.out HB.out) | (with_reducible refine Kd.C_alloc ?_ _) | (with_reducible refine Kd.C_drewN ?_ _) | (with_reducible refine Kd.C_drew ?_))); (case side2 => exact HC0.out); rintro e w40 ⟨v251, rfl, ho0, hb⟩; have n0_ := Aside0.mk (Kd.R_lower ho0 (below_size (by repeat (first | (with_reducible first | exact HB.out | apply below_alloc | apply pw_below_drewN | apply below_drew1) | exact HB.out)))); have n1_ := Aside0.mk (below_step (by repeat (first | (with_reducible first | exact HB.out | apply below_alloc | apply pw_below_drewN | apply below_drew1) | exact HB.out)) hb); clear HB; have HO252 := n0_; have HB := n1_; clear n0_ n1_; (try clear hb); (try clear hb2); (try clear hk); (try clear hi); (try clear ho0); obtain ⟨Ao41, co41, eo41⟩ := Kd.R_slice HO252.out; subst eo41)); try go_wp2_with (first | (go_at_call 9; (with_reducible refine (cupellaw34_shown.calls k  true _ A3.out).mono ?_); rintro e w39 ⟨rfl, hb⟩; have n0_ := Aside0.mk (below_step (by repeat (first | (with_reducible first | exact HB.out | apply below_alloc | apply pw_below_drewN | apply below_drew1) | exact HB.out)) hb); clear HB; have HB := n0_; clear n0_; (try clear hb); (try clear hb2); (try clear hk); (try clear hi)) | (go_at_call 14; (with_reducible refine (energy_Shares.calls k _ _ l0 a1 t249 t250 _ ?side1 ?side2 A7.out).mono ?_); (case side1 => repeat (first | exact (Kd.C_below HR0.out HB.out) | (with_reducible refine Kd.C_alloc ?_ _) | (with_reducible refine Kd.C_drewN ?_ _) | (with_reducible refine Kd.C_drew ?_))); (case side2 => exact HC0.out); rintro e w40 ⟨v251, rfl, ho0, hb⟩; have n0_ := Aside0.mk (Kd.R_lower ho0 (below_size (by repeat (first | (with_reducible first | exact HB.out | apply below_alloc | apply pw_below_drewN | apply below_drew1) | exact HB.out)))); have n1_ := Aside0.mk (below_step (by repeat (first | (with_reducible first | exact HB.out | apply below_alloc | apply pw_below_drewN | apply below_drew1) | exact HB.out)) hb); clear HB; have HO252 := n0_; have HB := n1_; clear n0_ n1_; (try clear hb); (try clear hb2); (try clear hk); (try clear hi); (try clear ho0); obtain ⟨Ao41, co41, eo41⟩ := Kd.R_slice HO252.out; subst eo41)))
        go_ret
        exact ⟨by first | rfl | (simp [errW_none, errW_some] <;> rfl) | (simp [*, errW_none, errW_some] <;> rfl), by repeat (first | (with_reducible first | exact HB.out | apply below_alloc | apply pw_below_drewN | apply below_drew1) | exact HB.out)⟩
  · replace c4 := Bool.eq_false_iff.mpr c4
    subst c4
    have H1 : (none) = some r := by rw [if_neg (show ¬ (false = true) by decide)] at H; exact H
    clear H
    have H := H1
    clear H1
    exact absurd H (by simp)

/-- THE ONE PURE STATEMENT of cupellaw34_EnergyExact: yours. -/
def cupellaw34_EnergyExact.Pure : Prop := ∀ (l0 : List Int) (a1 : Int), l0.length ≤ maxLen → l0.length * 8 ≤ 140737488351232 → (∀ x ∈ l0, (Lit.int .i64 x).wf = true) → (Lit.int .i64 a1).wf = true → ∃ k, cupellaw34_EnergyExact.f k l0 a1 = some true
theorem cupellaw34_EnergyExact.walk (P : cupellaw34_EnergyExact.Pure) (a0 : Option Addr) (len0 cap0 : Nat) (z0 : List Int) (a1 : Int) (w : World) (w0 : (a0 = none ∧ len0 = 0 ∧ cap0 = 0 ∧ z0 = []) ∨ ∃ x, a0 = some x ∧ len0 ≤ cap0 ∧ cap0 ≤ maxLen ∧ z0.length = cap0 ∧ (∀ i, i < z0.length → w.cell? (x.add i) = some (.int .i64 (z0.getD i 0))) ∧ ∀ n ∈ z0, (Lit.int .i64 n).wf = true) (y0 : len0 * 8 ≤ 140737488351232) (w1 : (Lit.int .i64 a1).wf = true) :
    Calls Try.prog 6 #[.slice a0 len0 cap0, .int .i64 a1] w fun e w' => e = .returned (.bool true) ∧ Below w.heap.size w w' := by
  obtain ⟨l0, rfl, hr0, hm0, hw0, hc0⟩ := ReadsInt.ofRowC w0
  obtain ⟨k, h⟩ := P l0 a1 hm0 y0 hw0 w1
  refine (cupellaw34_EnergyExact.calls k _ _ l0 a1 true w (Kd.C_of_reads (d := (0 : Int)) (h1 := fun _ => rfl) hr0) hc0 h).mono ?_
  rintro e w' ⟨rfl, hd⟩
  exact ⟨rfl, hd⟩

end Go.Proofs.Ytpkdmhplmgbfaaa.A
