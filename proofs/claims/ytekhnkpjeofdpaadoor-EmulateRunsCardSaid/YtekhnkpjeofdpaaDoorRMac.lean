/- The reference's machine (cupelref23): trap, place, within, bin: contracts over the same plain machine. -/
import Derived.Test.YtekhnkpjeofdpaaDoorEq23
import Derived.Test.YtekhnkpjeofdpaaDoorMacStep
import Derived.Deep.RegionLaw
import Derived.Deep.QuietTactic
import Derived.BigQuiet
set_option linter.unusedVariables false
set_option maxRecDepth 100000
namespace Go.Proofs.YtekhnkpjeofdpaaDoor.A
open Go.RowKit Go.Proofs.YtekhnkpjeofdpaaDoorW.PrintWords Go.Proofs.YtekhnkpjeofdpaaDoorW.PrintLast Go.Proofs.YtekhnkpjeofdpaaDoorW.PrintMore
set_option maxHeartbeats 4000000
section
variable {P : Rg} {w : World} {g : Nat} {m : Mac}
theorem rtrap_calls (h : IsM 46 P w g m) (c : Int) : Calls Tryd.prog 30 #[.pointer (some ⟨g, 0, none⟩), .int .i64 c] w fun e w' => e = .returned (.tuple #[]) ∧ IsM 46 P w' g (m.trap c) ∧ Chg P w w' := by
  obtain ⟨Ac, cc, bm, vK, vO, h⟩ := h
  have h17 := h.c17
  have f17 := h.fz 17
  have h18 := h.c18
  have f18 := h.fz 18
  have HH := Aside0.mk h
  clear h
  go_enter Tryd.func30, Tryd.ntmps30
  go_wp2
  go_end0
  exact ⟨rfl, ⟨_, _, _, _, _, (HH.out.set17 2).set18 c⟩, (((Chg.refl P w).setCell (a := ⟨g, 17, none⟩) HH.out.pg _).setCell (a := ⟨g, 18, none⟩) HH.out.pg _)⟩
theorem within_calls (h : IsM 46 P w g m) (v n : Int) : Calls Tryd.prog 32 #[.pointer (some ⟨g, 0, none⟩), .int .i64 v, .int .i64 n] w fun e w' => e = .returned (.tuple #[]) ∧ IsM 46 P w' g (if v < 0 then m.trap 2 else if v ≥ n then m.trap 2 else m) ∧ Chg P w w' := by
  have HI := Aside0.mk h
  by_cases c1 : v < 0
  · rw [if_pos c1]
    have d0 : decide (v < 0) = true := decide_eq_true c1
    clear h c1
    go_enter Tryd.func32, Tryd.ntmps32
    go_wp2_with (go_at_call 30; refine (rtrap_calls HI.out 2).mono ?_; rintro e w2 ⟨rfl, hi, hc⟩)
    go_end0
    exact ⟨rfl, hi, hc⟩
  · rw [if_neg c1]
    have d0 : decide (v < 0) = false := decide_eq_false c1
    by_cases c2 : v ≥ n
    · rw [if_pos c2]
      have d1 : decide (n ≤ v) = true := decide_eq_true c2
      clear h c1 c2
      go_enter Tryd.func32, Tryd.ntmps32
      go_wp2_with (go_at_call 30; refine (rtrap_calls HI.out 2).mono ?_; rintro e w2 ⟨rfl, hi, hc⟩)
      go_end0
      exact ⟨rfl, hi, hc⟩
    · rw [if_neg c2]
      have d1 : decide (n ≤ v) = false := decide_eq_false c2
      clear h c1 c2
      go_enter Tryd.func32, Tryd.ntmps32
      go_wp2
      go_end0
      exact ⟨rfl, HI.out, Chg.refl _ _⟩
theorem place_in (h : IsM 46 P w g m) (x0 x1 x3 x4 : Int) (A : Nat) (hA : A < 10) (v : Nat) (hv : wrap64 (reg m A + x4) = (v : Int)) (hv2 : v < 20000) : Calls Tryd.prog 31 #[.pointer (some ⟨g, 0, none⟩), .agg #[.int .i64 x0, .int .i64 x1, .int .i64 (A : Int), .int .i64 x3, .int .i64 x4]] w fun e w' => e = .returned (.tuple #[.int .i64 (v : Int), .bool true]) ∧ Below w.heap.size w w' := by
  obtain ⟨Ac, cc, bm, vK, vO, h⟩ := h
  have HH := Aside0.mk h
  have kr := fun o => (HH.out.alloc o).creg A hA
  have b1 : (0 : Int) ≤ (A : Int) := by omega
  have b2 : (A : Int) < 10 := by omega
  have d0 : decide ((v : Int) < 0) = false := decide_eq_false (by omega)
  have d1 : decide (20000 ≤ (v : Int)) = false := decide_eq_false (by omega)
  clear h
  go_enter Tryd.func31, Tryd.ntmps31
  go_wp2
  go_quiet (fail)
  go_wp2
  go_ret2
  exact ⟨by rw [← hv]; rfl, pw_below_drewN (below_alloc (Below.refl _ _) _) _⟩
theorem place_out (h : IsM 46 P w g m) (x0 x1 x3 x4 : Int) (A : Nat) (hA : A < 10) (hv : wrap64 (reg m A + x4) < 0 ∨ wrap64 (reg m A + x4) ≥ 20000) : Calls Tryd.prog 31 #[.pointer (some ⟨g, 0, none⟩), .agg #[.int .i64 x0, .int .i64 x1, .int .i64 (A : Int), .int .i64 x3, .int .i64 x4]] w fun e w' => e = .returned (.tuple #[.int .i64 0, .bool false]) ∧ IsM 46 P w' g (m.trap 10) ∧ Chg P w w' := by
  obtain ⟨Ac, cc, bm, vK, vO, h⟩ := h
  have HH := Aside0.mk h
  have kr := fun o => (HH.out.alloc o).creg A hA
  have b1 : (0 : Int) ≤ (A : Int) := by omega
  have b2 : (A : Int) < 10 := by omega
  clear h
  obtain ⟨v, ev⟩ : ∃ v, wrap64 (reg m A + x4) = v := ⟨_, rfl⟩
  rw [ev] at hv
  have hd : decide (v < 0) = true ∨ (decide (v < 0) = false ∧ decide (20000 ≤ v) = true) := by
    simp only [decide_eq_true_eq, decide_eq_false_iff_not]
    omega
  clear hv
  rcases hd with d0 | ⟨d0, d1⟩
  all_goals
    go_enter Tryd.func31, Tryd.ntmps31
    go_wp2
    go_quiet (fail)
    go_wp2_with (go_at_call 30; refine (rtrap_calls ⟨_, _, _, _, _, (HH.out.alloc (.cells #[.int .i64 x0, .int .i64 x1, .int .i64 (A : Int), .int .i64 x3, .int .i64 x4] 67)).drewN _⟩ 10).mono ?_; rintro e w2 ⟨rfl, hi, hc⟩)
    go_ret2
    exact ⟨rfl, hi, (((Chg.refl P w).alloc (.cells #[.int .i64 x0, .int .i64 x1, .int .i64 (A : Int), .int .i64 x3, .int .i64 x4] 67)).drewN _).trans hc⟩
theorem rbin_calls (h : IsM 46 P w g m) (x0 x3 x4 : Int) (D A : Nat) (hD : D < 10) (hA : A < 10) (kind b v : Int) (t : Bool) (e0 : Int) (hr : cupelref10_Bin.f kind (reg m A) b = some (v, t, e0)) : Calls Tryd.prog 33 #[.pointer (some ⟨g, 0, none⟩), .agg #[.int .i64 x0, .int .i64 (D : Int), .int .i64 (A : Int), .int .i64 x3, .int .i64 x4], .int .i64 kind, .int .i64 b] w fun e w' => e = .returned (.tuple #[]) ∧ IsM 46 P w' g (if t = true then m.trap 1 else { m with regs := m.regs.set D v }) ∧ Chg P w w' := by
  obtain ⟨Ac, cc, bm, vK, vO, h⟩ := h
  have HH := Aside0.mk h
  have HR := Aside0.mk hr
  obtain ⟨W1, eW1⟩ : ∃ W, w.alloc (.cells #[.int .i64 x0, .int .i64 (D : Int), .int .i64 (A : Int), .int .i64 x3, .int .i64 x4] 67) = W := ⟨_, rfl⟩
  have H1 := Aside0.mk (show IsMx 46 P W1 g m Ac cc bm vK vO from eW1 ▸ h.alloc _)
  have HX := Aside0.mk (show W1.heap[w.heap.size]? = some (.cells #[.int .i64 x0, .int .i64 (D : Int), .int .i64 (A : Int), .int .i64 x3, .int .i64 x4] 67 (0, 0)) from eW1 ▸ blk_new w _)
  have HC1 := Aside0.mk (show Chg P w W1 from eW1 ▸ (Chg.refl P w).alloc _)
  have kr := H1.out.creg A hA
  have x1 : W1.cell? ⟨w.heap.size, 1, none⟩ = some (.int .i64 (D : Int)) := (blk_cell HX.out 1).trans rfl
  have x2 : W1.cell? ⟨w.heap.size, 2, none⟩ = some (.int .i64 (A : Int)) := (blk_cell HX.out 2).trans rfl
  have b1 : (0 : Int) ≤ (A : Int) := by omega
  have b2 : (A : Int) < 10 := by omega
  have b3 : (0 : Int) ≤ (D : Int) := by omega
  have b4 : (D : Int) < 10 := by omega
  clear h hr
  go_enter Tryd.func33, Tryd.ntmps33
  go_wp2
  go_quiet ((go_at_call 42; exact Calls.quiet_of ((cupelref10_Bin.calls kind (reg m A) b v t e0 _ HR.out).mono (fun e w2 hq => ⟨hq.1, hq.2.out⟩))))
  clear eW1
  obtain ⟨W2, eW2⟩ : ∃ W, W1.drewN nq = W := ⟨_, rfl⟩
  have H2 := Aside0.mk (show IsMx 46 P W2 g m Ac cc bm vK vO from eW2 ▸ H1.out.drewN nq)
  have HX2 := Aside0.mk (show W2.heap[w.heap.size]? = some (.cells #[.int .i64 x0, .int .i64 (D : Int), .int .i64 (A : Int), .int .i64 x3, .int .i64 x4] 67 (0, 0)) from eW2 ▸ blk_drewN HX.out nq)
  have HC2 := Aside0.mk (show Chg P w W2 from eW2 ▸ HC1.out.drewN nq)
  rw [eW2]
  cases t
  · have kd := H2.out.creg D hD
    have fd := H2.out.fz (2 + D)
    have x1 : W2.cell? ⟨w.heap.size, 1, none⟩ = some (.int .i64 (D : Int)) := (blk_cell HX2.out 1).trans rfl
    go_wp2
    go_region
    (first | go_end0 | refine bodyPost_ret (results_none rfl _ _ _) rfl ?_)
    exact ⟨rfl, ⟨_, _, _, _, _, (H2.out.setReg D hD v).drew⟩, (HC2.out.setCell (a := ⟨g, 2 + D, none⟩) HH.out.pg _).drew⟩
  · go_wp2_with (go_at_call 30; refine (rtrap_calls ⟨_, _, _, _, _, H2.out⟩ 1).mono ?_; rintro e w3 ⟨rfl, hi, hc⟩)
    (first | go_end0 | refine bodyPost_ret (results_none rfl _ _ _) rfl ?_)
    exact ⟨rfl, hi, HC2.out.trans hc⟩
end
end Go.Proofs.YtekhnkpjeofdpaaDoor.A
