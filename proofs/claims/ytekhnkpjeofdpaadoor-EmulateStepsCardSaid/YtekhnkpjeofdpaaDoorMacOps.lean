/- emulate's machine: trap, word, and what each operation does: contracts over the plain machine. -/
import Derived.Test.YtekhnkpjeofdpaaDoorMacDef
import Derived.Deep.RegionLaw
import Derived.Deep.QuietTactic
import Derived.BigQuiet
set_option linter.unusedVariables false
set_option maxRecDepth 100000
namespace Go.Proofs.YtekhnkpjeofdpaaDoor.A
open Go.RowKit Go.Proofs.YtekhnkpjeofdpaaDoorW.PrintWords Go.Proofs.YtekhnkpjeofdpaaDoorW.PrintLast Go.Proofs.YtekhnkpjeofdpaaDoorW.PrintMore
set_option maxHeartbeats 4000000
def Mac.trap (m : Mac) (c : Int) : Mac := { m with end_ := 2, why := c }
section
variable {P : Rg} {w : World} {g : Nat} {m : Mac}
theorem trap_calls (h : IsM 57 P w g m) (c : Int) : Calls Tryd.prog 36 #[.pointer (some ⟨g, 0, none⟩), .int .i64 c] w fun e w' => e = .returned (.tuple #[]) ∧ IsM 57 P w' g (m.trap c) ∧ Chg P w w' := by
  obtain ⟨Ac, cc, bm, vK, vO, h⟩ := h
  have h17 := h.c17
  have f17 := h.fz 17
  have h18 := h.c18
  have f18 := h.fz 18
  have HH := Aside0.mk h
  clear h
  go_enter Tryd.func36, Tryd.ntmps36
  go_wp2
  go_end0
  exact ⟨rfl, ⟨_, _, _, _, _, (HH.out.set17 2).set18 c⟩, (((Chg.refl P w).setCell (a := ⟨g, 17, none⟩) HH.out.pg _).setCell (a := ⟨g, 18, none⟩) HH.out.pg _)⟩
theorem sub1 (n : Nat) (h : n ≤ 1000) : IntKind.i64.wrap ((n : Int) + 1 - 1) = (n : Int) := by rw [i64_w]; unfold wrap64; omega
theorem R_pop {w : World} {ok : Nat → Prop} {A : Option Addr} {n c : Nat} {l : List Int} {y : Int} (h : Kd.R (Kd.int .i64) 3 w 0 ok (.slice A n c) (l ++ [y])) : Kd.R (Kd.int .i64) 3 w 0 ok (.slice A l.length c) l := by
  have := Kd.R_take h (m := l.length) (by simp)
  simpa using this
theorem wr1 (n : Nat) (h : n ≤ 1000) : IntKind.i64.wrap (n : Int) = (n : Int) := by rw [i64_w]; unfold wrap64; omega
theorem op_move (h : IsM 57 P w g m) (x0 x1 x2 x3 x4 a : Int) (d : Nat) (hd : d < 10) : Calls Tryd.prog 47 #[.pointer (some ⟨g, 0, none⟩), .agg #[.int .i64 x0, .int .i64 x1, .int .i64 x2, .int .i64 x3, .int .i64 x4], .int .i64 a, .pointer (some ⟨g, 2 + d, none⟩)] w fun e w' => e = .returned (.tuple #[]) ∧ IsM 57 P w' g ({ m with regs := m.regs.set d a }) ∧ Chg P w w' := by
  obtain ⟨Ac, cc, bm, vK, vO, h⟩ := h
  have HH := Aside0.mk h
  have HA := Aside0.mk (fun o => h.alloc o)
  have kd := fun o => (HA.out o).creg d hd
  have fd := fun o => (HA.out o).fz (2 + d)
  clear h
  go_enter Tryd.func47, Tryd.ntmps47
  go_wp2
  (first | go_end0 | refine bodyPost_ret (results_none rfl _ _ _) rfl ?_)
  exact ⟨rfl, ⟨_, _, _, _, _, (HA.out _).setReg d hd _⟩, ((Chg.refl P w).alloc (.cells #[.int .i64 x0, .int .i64 x1, .int .i64 x2, .int .i64 x3, .int .i64 x4] 67)).setCell (a := ⟨g, 2 + d, none⟩) HH.out.pg _⟩
theorem op_set (h : IsM 57 P w g m) (x0 x1 x2 x3 x4 a : Int) (d : Nat) (hd : d < 10) : Calls Tryd.prog 48 #[.pointer (some ⟨g, 0, none⟩), .agg #[.int .i64 x0, .int .i64 x1, .int .i64 x2, .int .i64 x3, .int .i64 x4], .int .i64 a, .pointer (some ⟨g, 2 + d, none⟩)] w fun e w' => e = .returned (.tuple #[]) ∧ IsM 57 P w' g ({ m with regs := m.regs.set d x4 }) ∧ Chg P w w' := by
  obtain ⟨Ac, cc, bm, vK, vO, h⟩ := h
  have HH := Aside0.mk h
  have HA := Aside0.mk (fun o => h.alloc o)
  have kd := fun o => (HA.out o).creg d hd
  have fd := fun o => (HA.out o).fz (2 + d)
  clear h
  go_enter Tryd.func48, Tryd.ntmps48
  go_wp2
  (first | go_end0 | refine bodyPost_ret (results_none rfl _ _ _) rfl ?_)
  exact ⟨rfl, ⟨_, _, _, _, _, (HA.out _).setReg d hd _⟩, ((Chg.refl P w).alloc (.cells #[.int .i64 x0, .int .i64 x1, .int .i64 x2, .int .i64 x3, .int .i64 x4] 67)).setCell (a := ⟨g, 2 + d, none⟩) HH.out.pg _⟩
theorem op_wide (h : IsM 57 P w g m) (x0 x1 x2 x3 x4 a : Int) (d : Nat) (hd : d < 10) : Calls Tryd.prog 49 #[.pointer (some ⟨g, 0, none⟩), .agg #[.int .i64 x0, .int .i64 x1, .int .i64 x2, .int .i64 x3, .int .i64 x4], .int .i64 a, .pointer (some ⟨g, 2 + d, none⟩)] w fun e w' => e = .returned (.tuple #[]) ∧ IsM 57 P w' g ({ m with regs := m.regs.set d x4 }) ∧ Chg P w w' := by
  obtain ⟨Ac, cc, bm, vK, vO, h⟩ := h
  have HH := Aside0.mk h
  have HA := Aside0.mk (fun o => h.alloc o)
  have kd := fun o => (HA.out o).creg d hd
  have fd := fun o => (HA.out o).fz (2 + d)
  clear h
  go_enter Tryd.func49, Tryd.ntmps49
  go_wp2
  (first | go_end0 | refine bodyPost_ret (results_none rfl _ _ _) rfl ?_)
  exact ⟨rfl, ⟨_, _, _, _, _, (HA.out _).setReg d hd _⟩, ((Chg.refl P w).alloc (.cells #[.int .i64 x0, .int .i64 x1, .int .i64 x2, .int .i64 x3, .int .i64 x4] 67)).setCell (a := ⟨g, 2 + d, none⟩) HH.out.pg _⟩
theorem op_jump (h : IsM 57 P w g m) (x0 x1 x2 x3 x4 a : Int) (d : Nat) (hd : d < 10) : Calls Tryd.prog 53 #[.pointer (some ⟨g, 0, none⟩), .agg #[.int .i64 x0, .int .i64 x1, .int .i64 x2, .int .i64 x3, .int .i64 x4], .int .i64 a, .pointer (some ⟨g, 2 + d, none⟩)] w fun e w' => e = .returned (.tuple #[]) ∧ IsM 57 P w' g ({ m with at_ := x4 }) ∧ Chg P w w' := by
  obtain ⟨Ac, cc, bm, vK, vO, h⟩ := h
  have HH := Aside0.mk h
  have HA := Aside0.mk (fun o => h.alloc o)
  have k12 := fun o => (HA.out o).c12
  have f12 := fun o => (HA.out o).fz 12
  clear h
  go_enter Tryd.func53, Tryd.ntmps53
  go_wp2
  (first | go_end0 | refine bodyPost_ret (results_none rfl _ _ _) rfl ?_)
  exact ⟨rfl, ⟨_, _, _, _, _, (HA.out _).set12 _⟩, ((Chg.refl P w).alloc (.cells #[.int .i64 x0, .int .i64 x1, .int .i64 x2, .int .i64 x3, .int .i64 x4] 67)).setCell (a := ⟨g, 12, none⟩) HH.out.pg _⟩
theorem op_zero_no (h : IsM 57 P w g m) (x0 x1 x2 x3 x4 a : Int) (d : Nat) (hd : d < 10) (c : a ≠ 0) : Calls Tryd.prog 54 #[.pointer (some ⟨g, 0, none⟩), .agg #[.int .i64 x0, .int .i64 x1, .int .i64 x2, .int .i64 x3, .int .i64 x4], .int .i64 a, .pointer (some ⟨g, 2 + d, none⟩)] w fun e w' => e = .returned (.tuple #[]) ∧ IsM 57 P w' g (m) ∧ Chg P w w' := by
  obtain ⟨Ac, cc, bm, vK, vO, h⟩ := h
  have HH := Aside0.mk h
  have HA := Aside0.mk (fun o => h.alloc o)
  have c0 : (a == 0) = false := beq_eq_false_iff_ne.mpr c
  clear h
  go_enter Tryd.func54, Tryd.ntmps54
  go_wp2
  (first | go_end0 | refine bodyPost_ret (results_none rfl _ _ _) rfl ?_)
  exact ⟨rfl, ⟨_, _, _, _, _, HA.out _⟩, (Chg.refl P w).alloc (.cells #[.int .i64 x0, .int .i64 x1, .int .i64 x2, .int .i64 x3, .int .i64 x4] 67)⟩
theorem op_zero_yes (h : IsM 57 P w g m) (x0 x1 x2 x3 x4 a : Int) (d : Nat) (hd : d < 10) (c : a = 0) : Calls Tryd.prog 54 #[.pointer (some ⟨g, 0, none⟩), .agg #[.int .i64 x0, .int .i64 x1, .int .i64 x2, .int .i64 x3, .int .i64 x4], .int .i64 a, .pointer (some ⟨g, 2 + d, none⟩)] w fun e w' => e = .returned (.tuple #[]) ∧ IsM 57 P w' g ({ m with at_ := x4 }) ∧ Chg P w w' := by
  obtain ⟨Ac, cc, bm, vK, vO, h⟩ := h
  have HH := Aside0.mk h
  have HA := Aside0.mk (fun o => h.alloc o)
  have k12 := fun o => (HA.out o).c12
  have f12 := fun o => (HA.out o).fz 12
  have c0 : (a == 0) = true := beq_iff_eq.mpr c
  clear h
  go_enter Tryd.func54, Tryd.ntmps54
  clear c
  go_wp2
  (first | go_end0 | refine bodyPost_ret (results_none rfl _ _ _) rfl ?_)
  exact ⟨rfl, ⟨_, _, _, _, _, (HA.out _).set12 _⟩, ((Chg.refl P w).alloc (.cells #[.int .i64 x0, .int .i64 x1, .int .i64 x2, .int .i64 x3, .int .i64 x4] 67)).setCell (a := ⟨g, 12, none⟩) HH.out.pg _⟩
theorem op_checki_ok (h : IsM 57 P w g m) (x0 x1 x2 x3 x4 a : Int) (d : Nat) (hd : d < 10) (c1 : ¬ a < 0) (c2 : ¬ a ≥ x4) : Calls Tryd.prog 56 #[.pointer (some ⟨g, 0, none⟩), .agg #[.int .i64 x0, .int .i64 x1, .int .i64 x2, .int .i64 x3, .int .i64 x4], .int .i64 a, .pointer (some ⟨g, 2 + d, none⟩)] w fun e w' => e = .returned (.tuple #[]) ∧ IsM 57 P w' g (m) ∧ Chg P w w' := by
  obtain ⟨Ac, cc, bm, vK, vO, h⟩ := h
  have HH := Aside0.mk h
  have HA := Aside0.mk (fun o => h.alloc o)
  have e1 : decide (a < 0) = false := decide_eq_false c1
  have e2 : decide (x4 ≤ a) = false := decide_eq_false c2
  clear h
  go_enter Tryd.func56, Tryd.ntmps56
  go_wp2
  (first | go_end0 | refine bodyPost_ret (results_none rfl _ _ _) rfl ?_)
  exact ⟨rfl, ⟨_, _, _, _, _, HA.out _⟩, (Chg.refl P w).alloc (.cells #[.int .i64 x0, .int .i64 x1, .int .i64 x2, .int .i64 x3, .int .i64 x4] 67)⟩
theorem op_checki_lo (h : IsM 57 P w g m) (x0 x1 x2 x3 x4 a : Int) (d : Nat) (hd : d < 10) (c1 : a < 0) : Calls Tryd.prog 56 #[.pointer (some ⟨g, 0, none⟩), .agg #[.int .i64 x0, .int .i64 x1, .int .i64 x2, .int .i64 x3, .int .i64 x4], .int .i64 a, .pointer (some ⟨g, 2 + d, none⟩)] w fun e w' => e = .returned (.tuple #[]) ∧ IsM 57 P w' g (m.trap 2) ∧ Chg P w w' := by
  obtain ⟨Ac, cc, bm, vK, vO, h⟩ := h
  have HH := Aside0.mk h
  have HA := Aside0.mk (fun o => h.alloc o)
  have e1 : decide (a < 0) = true := decide_eq_true c1
  clear h
  go_enter Tryd.func56, Tryd.ntmps56
  go_wp2_with (go_at_call 36; refine (trap_calls ⟨_, _, _, _, _, HA.out _⟩ 2).mono ?_; rintro e w2 ⟨rfl, hi, hc⟩)
  go_end0
  exact ⟨rfl, hi, ((Chg.refl P w).alloc (.cells #[.int .i64 x0, .int .i64 x1, .int .i64 x2, .int .i64 x3, .int .i64 x4] 67)).trans hc⟩
theorem op_checki_hi (h : IsM 57 P w g m) (x0 x1 x2 x3 x4 a : Int) (d : Nat) (hd : d < 10) (c1 : ¬ a < 0) (c2 : a ≥ x4) : Calls Tryd.prog 56 #[.pointer (some ⟨g, 0, none⟩), .agg #[.int .i64 x0, .int .i64 x1, .int .i64 x2, .int .i64 x3, .int .i64 x4], .int .i64 a, .pointer (some ⟨g, 2 + d, none⟩)] w fun e w' => e = .returned (.tuple #[]) ∧ IsM 57 P w' g (m.trap 2) ∧ Chg P w w' := by
  obtain ⟨Ac, cc, bm, vK, vO, h⟩ := h
  have HH := Aside0.mk h
  have HA := Aside0.mk (fun o => h.alloc o)
  have e1 : decide (a < 0) = false := decide_eq_false c1
  have e2 : decide (x4 ≤ a) = true := decide_eq_true c2
  clear h
  go_enter Tryd.func56, Tryd.ntmps56
  go_wp2_with (go_at_call 36; refine (trap_calls ⟨_, _, _, _, _, HA.out _⟩ 2).mono ?_; rintro e w2 ⟨rfl, hi, hc⟩)
  go_end0
  exact ⟨rfl, hi, ((Chg.refl P w).alloc (.cells #[.int .i64 x0, .int .i64 x1, .int .i64 x2, .int .i64 x3, .int .i64 x4] 67)).trans hc⟩
theorem op_trap (h : IsM 57 P w g m) (x0 x1 x2 x3 x4 a : Int) (d : Nat) (hd : d < 10) : Calls Tryd.prog 60 #[.pointer (some ⟨g, 0, none⟩), .agg #[.int .i64 x0, .int .i64 x1, .int .i64 x2, .int .i64 x3, .int .i64 x4], .int .i64 a, .pointer (some ⟨g, 2 + d, none⟩)] w fun e w' => e = .returned (.tuple #[]) ∧ IsM 57 P w' g (m.trap 3) ∧ Chg P w w' := by
  obtain ⟨Ac, cc, bm, vK, vO, h⟩ := h
  have HH := Aside0.mk h
  have HA := Aside0.mk (fun o => h.alloc o)
  clear h
  go_enter Tryd.func60, Tryd.ntmps60
  go_wp2_with (go_at_call 36; refine (trap_calls ⟨_, _, _, _, _, HA.out _⟩ 3).mono ?_; rintro e w2 ⟨rfl, hi, hc⟩)
  go_end0
  exact ⟨rfl, hi, ((Chg.refl P w).alloc (.cells #[.int .i64 x0, .int .i64 x1, .int .i64 x2, .int .i64 x3, .int .i64 x4] 67)).trans hc⟩
theorem op_halt (h : IsM 57 P w g m) (x0 x1 x2 x3 x4 a : Int) (d : Nat) (hd : d < 10) : Calls Tryd.prog 61 #[.pointer (some ⟨g, 0, none⟩), .agg #[.int .i64 x0, .int .i64 x1, .int .i64 x2, .int .i64 x3, .int .i64 x4], .int .i64 a, .pointer (some ⟨g, 2 + d, none⟩)] w fun e w' => e = .returned (.tuple #[]) ∧ IsM 57 P w' g ({ m with end_ := 1 }) ∧ Chg P w w' := by
  obtain ⟨Ac, cc, bm, vK, vO, h⟩ := h
  have HH := Aside0.mk h
  have HA := Aside0.mk (fun o => h.alloc o)
  have k17 := fun o => (HA.out o).c17
  have f17 := fun o => (HA.out o).fz 17
  clear h
  go_enter Tryd.func61, Tryd.ntmps61
  go_wp2
  (first | go_end0 | refine bodyPost_ret (results_none rfl _ _ _) rfl ?_)
  exact ⟨rfl, ⟨_, _, _, _, _, (HA.out _).set17 _⟩, ((Chg.refl P w).alloc (.cells #[.int .i64 x0, .int .i64 x1, .int .i64 x2, .int .i64 x3, .int .i64 x4] 67)).setCell (a := ⟨g, 17, none⟩) HH.out.pg _⟩
theorem word_in {Ac : Option Addr} {cc bm : Nat} {vK vO : Value} (h : IsMx 57 P w g m Ac cc bm vK vO) (x0 x1 x3 x4 : Int) (A : Nat) (hA : A < 10) (v : Nat) (hv : wrap64 (reg m A + x4) = (v : Int)) (hv2 : v < 20000) :
    Calls Tryd.prog 51 #[.pointer (some ⟨g, 0, none⟩), .agg #[.int .i64 x0, .int .i64 x1, .int .i64 (A : Int), .int .i64 x3, .int .i64 x4]] w fun e w' => e = .returned (.pointer (some ⟨bm, v, none⟩)) ∧ Below w.heap.size w w' := by
  have HA := Aside0.mk (fun o => h.alloc o)
  have HB := Aside0.mk (Below.refl w.heap.size w)
  have kr := fun o => (HA.out o).creg A hA
  have k1 := fun o => (HA.out o).c1
  have a1 : (0 : Int) ≤ (A : Int) := by omega
  have a2 : (A : Int) < 10 := by omega
  have b0 : decide ((0 : Int) ≤ (v : Int)) = true := decide_eq_true (by omega)
  have b1 : decide ((v : Int) < 20000) = true := decide_eq_true (by omega)
  have b2 : (0 : Int) ≤ (v : Int) := by omega
  have b3 : (v : Int) < 20000 := by omega
  have hw : IntKind.i64.wrap (reg m A + x4) = (v : Int) := (i64_w _).trans hv
  clear h hv2 hA
  go_enter Tryd.func51, Tryd.ntmps51
  go_wp2
  go_quiet (fail)
  go_wp2
  go_ret
  exact ⟨rfl, by repeat (first | (with_reducible first | exact HB.out | apply below_alloc | apply pw_below_drewN | apply below_drew1))⟩
theorem word_out {Ac : Option Addr} {cc bm : Nat} {vK vO : Value} (h : IsMx 57 P w g m Ac cc bm vK vO) (x0 x1 x3 x4 : Int) (A : Nat) (hA : A < 10) (hv : wrap64 (reg m A + x4) < 0 ∨ wrap64 (reg m A + x4) ≥ 20000) :
    Calls Tryd.prog 51 #[.pointer (some ⟨g, 0, none⟩), .agg #[.int .i64 x0, .int .i64 x1, .int .i64 (A : Int), .int .i64 x3, .int .i64 x4]] w fun e w' => e = .returned (.pointer none) ∧ IsM 57 P w' g (m.trap 10) ∧ Chg P w w' := by
  have HA := Aside0.mk (fun o => h.alloc o)
  have kr := fun o => (HA.out o).creg A hA
  have k1 := fun o => (HA.out o).c1
  have a1 : (0 : Int) ≤ (A : Int) := by omega
  have a2 : (A : Int) < 10 := by omega
  obtain ⟨v, hw0⟩ : ∃ v, wrap64 (reg m A + x4) = v := ⟨_, rfl⟩
  have hw : IntKind.i64.wrap (reg m A + x4) = v := (i64_w _).trans hw0
  rw [hw0] at hv
  clear h hA
  rcases Int.lt_or_le v 0 with b | b
  · have b0 : decide ((0 : Int) ≤ v) = false := decide_eq_false (by omega)
    clear hv b
    go_enter Tryd.func51, Tryd.ntmps51
    go_wp2
    go_quiet (fail)
    go_wp2_with (go_at_call 36; refine (trap_calls ⟨_, _, _, _, _, ((HA.out (.cells #[.int .i64 x0, .int .i64 x1, .int .i64 (A : Int), .int .i64 x3, .int .i64 x4] 67)).drewN _)⟩ 10).mono ?_; rintro e w2 ⟨rfl, hi, hc⟩)
    go_ret
    exact ⟨rfl, hi, (((Chg.refl P w).alloc _).drewN _).trans hc⟩
  · have b0 : decide ((0 : Int) ≤ v) = true := decide_eq_true (by omega)
    have b1 : decide (v < 20000) = false := decide_eq_false (by omega)
    clear hv b
    go_enter Tryd.func51, Tryd.ntmps51
    go_wp2
    go_quiet (fail)
    go_wp2_with (go_at_call 36; refine (trap_calls ⟨_, _, _, _, _, ((HA.out (.cells #[.int .i64 x0, .int .i64 x1, .int .i64 (A : Int), .int .i64 x3, .int .i64 x4] 67)).drewN _)⟩ 10).mono ?_; rintro e w2 ⟨rfl, hi, hc⟩)
    go_ret
    exact ⟨rfl, hi, (((Chg.refl P w).alloc _).drewN _).trans hc⟩
theorem op_load_in (h : IsM 57 P w g m) (x0 x1 x3 x4 a : Int) (d : Nat) (hd : d < 10) (A : Nat) (hA : A < 10) (v : Nat) (hv : wrap64 (reg m A + x4) = (v : Int)) (hv2 : v < 20000) : Calls Tryd.prog 50 #[.pointer (some ⟨g, 0, none⟩), .agg #[.int .i64 x0, .int .i64 x1, .int .i64 (A : Int), .int .i64 x3, .int .i64 x4], .int .i64 a, .pointer (some ⟨g, 2 + d, none⟩)] w fun e w' => e = .returned (.tuple #[]) ∧ IsM 57 P w' g ({ m with regs := m.regs.set d (m.mem.getD v 0) }) ∧ Chg P w w' := by
  obtain ⟨Ac, cc, bm, vK, vO, h⟩ := h
  have HH := Aside0.mk h
  have HA := Aside0.mk (fun o => h.alloc o)
  clear h
  go_enter Tryd.func50, Tryd.ntmps50
  go_wp2_with (go_at_call 51; refine (word_in (HA.out (.cells #[.int .i64 x0, .int .i64 x1, .int .i64 (A : Int), .int .i64 x3, .int .i64 x4] 67)) x0 x1 x3 x4 A hA v hv hv2).mono ?_; rintro e w2 ⟨rfl, hb⟩; have H2 := Aside0.mk ((HA.out (.cells #[.int .i64 x0, .int .i64 x1, .int .i64 (A : Int), .int .i64 x3, .int .i64 x4] 67)).below hb); have km := H2.out.cm v hv2; have kd := H2.out.creg d hd; have fd := H2.out.fz (2 + d); have hb2 := Aside0.mk hb; clear hb)
  (first | go_end0 | refine bodyPost_ret (results_none rfl _ _ _) rfl ?_)
  exact ⟨rfl, ⟨_, _, _, _, _, H2.out.setReg d hd _⟩, (((Chg.refl P w).alloc (.cells #[.int .i64 x0, .int .i64 x1, .int .i64 (A : Int), .int .i64 x3, .int .i64 x4] 67)).trans (.of_below hb2.out)).setCell (a := ⟨g, 2 + d, none⟩) HH.out.pg _⟩
theorem op_load_out (h : IsM 57 P w g m) (x0 x1 x3 x4 a : Int) (d : Nat) (hd : d < 10) (A : Nat) (hA : A < 10) (hv : wrap64 (reg m A + x4) < 0 ∨ wrap64 (reg m A + x4) ≥ 20000) : Calls Tryd.prog 50 #[.pointer (some ⟨g, 0, none⟩), .agg #[.int .i64 x0, .int .i64 x1, .int .i64 (A : Int), .int .i64 x3, .int .i64 x4], .int .i64 a, .pointer (some ⟨g, 2 + d, none⟩)] w fun e w' => e = .returned (.tuple #[]) ∧ IsM 57 P w' g (m.trap 10) ∧ Chg P w w' := by
  obtain ⟨Ac, cc, bm, vK, vO, h⟩ := h
  have HH := Aside0.mk h
  have HA := Aside0.mk (fun o => h.alloc o)
  clear h
  go_enter Tryd.func50, Tryd.ntmps50
  go_wp2_with (go_at_call 51; refine (word_out (HA.out (.cells #[.int .i64 x0, .int .i64 x1, .int .i64 (A : Int), .int .i64 x3, .int .i64 x4] 67)) x0 x1 x3 x4 A hA hv).mono ?_; rintro e w2 ⟨rfl, hi, hc⟩)
  go_end0
  exact ⟨rfl, hi, ((Chg.refl P w).alloc (.cells #[.int .i64 x0, .int .i64 x1, .int .i64 (A : Int), .int .i64 x3, .int .i64 x4] 67)).trans hc⟩
theorem op_store_out (h : IsM 57 P w g m) (x0 x1 x4 a : Int) (d : Nat) (hd : d < 10) (B : Nat) (A : Nat) (hA : A < 10) (hv : wrap64 (reg m A + x4) < 0 ∨ wrap64 (reg m A + x4) ≥ 20000) : Calls Tryd.prog 52 #[.pointer (some ⟨g, 0, none⟩), .agg #[.int .i64 x0, .int .i64 x1, .int .i64 (A : Int), .int .i64 (B : Int), .int .i64 x4], .int .i64 a, .pointer (some ⟨g, 2 + d, none⟩)] w fun e w' => e = .returned (.tuple #[]) ∧ IsM 57 P w' g (m.trap 10) ∧ Chg P w w' := by
  obtain ⟨Ac, cc, bm, vK, vO, h⟩ := h
  have HH := Aside0.mk h
  have HA := Aside0.mk (fun o => h.alloc o)
  clear h
  go_enter Tryd.func52, Tryd.ntmps52
  go_wp2_with (go_at_call 51; refine (word_out (HA.out (.cells #[.int .i64 x0, .int .i64 x1, .int .i64 (A : Int), .int .i64 (B : Int), .int .i64 x4] 67)) x0 x1 B x4 A hA hv).mono ?_; rintro e w2 ⟨rfl, hi, hc⟩)
  go_end0
  exact ⟨rfl, hi, ((Chg.refl P w).alloc (.cells #[.int .i64 x0, .int .i64 x1, .int .i64 (A : Int), .int .i64 (B : Int), .int .i64 x4] 67)).trans hc⟩
theorem op_store_in (h : IsM 57 P w g m) (x0 x1 x4 a : Int) (d : Nat) (hd : d < 10) (B : Nat) (hB : B < 10) (A : Nat) (hA : A < 10) (v : Nat) (hv : wrap64 (reg m A + x4) = (v : Int)) (hv2 : v < 20000) : Calls Tryd.prog 52 #[.pointer (some ⟨g, 0, none⟩), .agg #[.int .i64 x0, .int .i64 x1, .int .i64 (A : Int), .int .i64 (B : Int), .int .i64 x4], .int .i64 a, .pointer (some ⟨g, 2 + d, none⟩)] w fun e w' => e = .returned (.tuple #[]) ∧ IsM 57 P w' g ({ m with mem := m.mem.set v (reg m B) }) ∧ Chg P w w' := by
  obtain ⟨Ac, cc, bm, vK, vO, h⟩ := h
  have HH := Aside0.mk h
  have HA := Aside0.mk (fun o => h.alloc o)
  have b1 : (0 : Int) ≤ (B : Int) := by omega
  have b2 : (B : Int) < 10 := by omega
  clear h
  go_enter Tryd.func52, Tryd.ntmps52
  go_wp2_with (go_at_call 51; refine (word_in (HA.out (.cells #[.int .i64 x0, .int .i64 x1, .int .i64 (A : Int), .int .i64 (B : Int), .int .i64 x4] 67)) x0 x1 B x4 A hA v hv hv2).mono ?_; rintro e w2 ⟨rfl, hb⟩; have H2 := Aside0.mk ((HA.out (.cells #[.int .i64 x0, .int .i64 x1, .int .i64 (A : Int), .int .i64 (B : Int), .int .i64 x4] 67)).below hb); have kx := fun j => (blk_cell (blk_below (blk_new w (.cells #[.int .i64 x0, .int .i64 x1, .int .i64 (A : Int), .int .i64 (B : Int), .int .i64 x4] 67)) hb) j); have kx3 := (blk_cell (blk_below (blk_new w (.cells #[.int .i64 x0, .int .i64 x1, .int .i64 (A : Int), .int .i64 (B : Int), .int .i64 x4] 67)) hb) 3).trans rfl; have km := H2.out.cm v hv2; have fm := H2.out.fm v; have kr := H2.out.creg B hB; have hb2 := Aside0.mk hb; clear hb)
  go_region
  go_end0
  exact ⟨rfl, ⟨_, _, _, _, _, (H2.out.setMem v _).drew⟩, ((((Chg.refl P w).alloc (.cells #[.int .i64 x0, .int .i64 x1, .int .i64 (A : Int), .int .i64 (B : Int), .int .i64 x4] 67)).trans (.of_below hb2.out)).setCell (a := ⟨bm, v, none⟩) HH.out.pb _).drew⟩
theorem op_check_lo (h : IsM 57 P w g m) (x0 x1 x2 x4 a : Int) (d : Nat) (hd : d < 10) (B : Nat) (hB : B < 10) (c1 : a < 0) : Calls Tryd.prog 55 #[.pointer (some ⟨g, 0, none⟩), .agg #[.int .i64 x0, .int .i64 x1, .int .i64 x2, .int .i64 (B : Int), .int .i64 x4], .int .i64 a, .pointer (some ⟨g, 2 + d, none⟩)] w fun e w' => e = .returned (.tuple #[]) ∧ IsM 57 P w' g (m.trap 2) ∧ Chg P w w' := by
  obtain ⟨Ac, cc, bm, vK, vO, h⟩ := h
  have HH := Aside0.mk h
  have HA := Aside0.mk (fun o => h.alloc o)
  have kr := fun o => (HA.out o).creg B hB
  have b1 : (0 : Int) ≤ (B : Int) := by omega
  have b2 : (B : Int) < 10 := by omega
  have e1 : decide (a < 0) = true := decide_eq_true c1
  clear h
  go_enter Tryd.func55, Tryd.ntmps55
  clear c1
  go_wp2
  go_quiet (fail)
  go_wp2_with (go_at_call 36; refine (trap_calls ⟨_, _, _, _, _, (HA.out (.cells #[.int .i64 x0, .int .i64 x1, .int .i64 x2, .int .i64 (B : Int), .int .i64 x4] 67)).drewN _⟩ 2).mono ?_; rintro e w2 ⟨rfl, hi, hc⟩)
  go_end0
  exact ⟨rfl, hi, (((Chg.refl P w).alloc (.cells #[.int .i64 x0, .int .i64 x1, .int .i64 x2, .int .i64 (B : Int), .int .i64 x4] 67)).drewN _).trans hc⟩
theorem op_check_hi (h : IsM 57 P w g m) (x0 x1 x2 x4 a : Int) (d : Nat) (hd : d < 10) (B : Nat) (hB : B < 10) (c1 : ¬ a < 0) (c2 : a ≥ reg m B) : Calls Tryd.prog 55 #[.pointer (some ⟨g, 0, none⟩), .agg #[.int .i64 x0, .int .i64 x1, .int .i64 x2, .int .i64 (B : Int), .int .i64 x4], .int .i64 a, .pointer (some ⟨g, 2 + d, none⟩)] w fun e w' => e = .returned (.tuple #[]) ∧ IsM 57 P w' g (m.trap 2) ∧ Chg P w w' := by
  obtain ⟨Ac, cc, bm, vK, vO, h⟩ := h
  have HH := Aside0.mk h
  have HA := Aside0.mk (fun o => h.alloc o)
  have kr := fun o => (HA.out o).creg B hB
  have b1 : (0 : Int) ≤ (B : Int) := by omega
  have b2 : (B : Int) < 10 := by omega
  have e1 : decide (a < 0) = false := decide_eq_false c1
  have e2 : decide (reg m B ≤ a) = true := decide_eq_true c2
  clear h
  go_enter Tryd.func55, Tryd.ntmps55
  clear c1 c2
  go_wp2
  go_quiet (fail)
  go_wp2_with (go_at_call 36; refine (trap_calls ⟨_, _, _, _, _, (HA.out (.cells #[.int .i64 x0, .int .i64 x1, .int .i64 x2, .int .i64 (B : Int), .int .i64 x4] 67)).drewN _⟩ 2).mono ?_; rintro e w2 ⟨rfl, hi, hc⟩)
  go_end0
  exact ⟨rfl, hi, (((Chg.refl P w).alloc (.cells #[.int .i64 x0, .int .i64 x1, .int .i64 x2, .int .i64 (B : Int), .int .i64 x4] 67)).drewN _).trans hc⟩
theorem op_check_ok (h : IsM 57 P w g m) (x0 x1 x2 x4 a : Int) (d : Nat) (hd : d < 10) (B : Nat) (hB : B < 10) (c1 : ¬ a < 0) (c2 : ¬ a ≥ reg m B) : Calls Tryd.prog 55 #[.pointer (some ⟨g, 0, none⟩), .agg #[.int .i64 x0, .int .i64 x1, .int .i64 x2, .int .i64 (B : Int), .int .i64 x4], .int .i64 a, .pointer (some ⟨g, 2 + d, none⟩)] w fun e w' => e = .returned (.tuple #[]) ∧ IsM 57 P w' g (m) ∧ Chg P w w' := by
  obtain ⟨Ac, cc, bm, vK, vO, h⟩ := h
  have HH := Aside0.mk h
  have HA := Aside0.mk (fun o => h.alloc o)
  have kr := fun o => (HA.out o).creg B hB
  have b1 : (0 : Int) ≤ (B : Int) := by omega
  have b2 : (B : Int) < 10 := by omega
  have e1 : decide (a < 0) = false := decide_eq_false c1
  have e2 : decide (reg m B ≤ a) = false := decide_eq_false c2
  clear h
  go_enter Tryd.func55, Tryd.ntmps55
  clear c1 c2
  go_wp2
  go_quiet (fail)
  go_wp2
  go_end0
  exact ⟨rfl, ⟨_, _, _, _, _, (HA.out (.cells #[.int .i64 x0, .int .i64 x1, .int .i64 x2, .int .i64 (B : Int), .int .i64 x4] 67)).drewN _⟩, ((Chg.refl P w).alloc (.cells #[.int .i64 x0, .int .i64 x1, .int .i64 x2, .int .i64 (B : Int), .int .i64 x4] 67)).drewN _⟩
theorem op_print_full (h : IsM 57 P w g m) (x0 x1 x2 x3 x4 a : Int) (d : Nat) (hd : d < 10) (c : m.out.length = 2000) : Calls Tryd.prog 57 #[.pointer (some ⟨g, 0, none⟩), .agg #[.int .i64 x0, .int .i64 x1, .int .i64 x2, .int .i64 x3, .int .i64 x4], .int .i64 a, .pointer (some ⟨g, 2 + d, none⟩)] w fun e w' => e = .returned (.tuple #[]) ∧ IsM 57 P w' g ({ m with end_ := 4 }) ∧ Chg P w w' := by
  obtain ⟨Ac, cc, bm, vK, vO, h⟩ := h
  have HH := Aside0.mk h
  obtain ⟨AO, cO, eO⟩ : ∃ A c, vO = .slice A m.out.length c := Kd.R_slice HH.out.out
  have c1 : ((m.out.length : Int) == 2000) = true := beq_iff_eq.mpr (by omega)
  clear h
  go_enter Tryd.func57, Tryd.ntmps57
  subst eO
  clear c1
  go_wp2_with ((with_reducible refine gate_dst (N := 5) rfl ?_); refine box_event ?hg (N := 5) ?hd (cs := #[.int .i64 x0, .int .i64 x1, .int .i64 x2, .int .i64 x3, .int .i64 x4]) (t := 67) ?hr ?_; (case hd => rfl); (case hg => rfl); (case hr => first | (go_simp; done) | (go_simp; rfl)); intro gb hg w5 hbox hb; have H5 := Aside0.mk (HH.out.below hb); have CH5 := Aside0.mk (Chg.of_below (P := P) hb); have HS5 := Aside0.mk hb.size; have k16 := H5.out.c16; rw [c] at k16; have k17 := H5.out.c17; have f17 := H5.out.fz 17; clear hb hbox hg)
  (first | go_end0 | refine bodyPost_ret (results_none rfl _ _ _) rfl ?_)
  exact ⟨rfl, ⟨_, _, _, _, _, H5.out.set17 _⟩, CH5.out.setCell (a := ⟨g, 17, none⟩) HH.out.pg _⟩
theorem op_print_ok (h : IsM 57 P w g m) (x0 x1 x2 x3 x4 a : Int) (d : Nat) (hd : d < 10) (hP : ∀ k, w.heap.size ≤ k → P k) (c : ¬ m.out.length = 2000) (cl : m.out.length ≤ 2000) : Calls Tryd.prog 57 #[.pointer (some ⟨g, 0, none⟩), .agg #[.int .i64 x0, .int .i64 x1, .int .i64 x2, .int .i64 x3, .int .i64 x4], .int .i64 a, .pointer (some ⟨g, 2 + d, none⟩)] w fun e w' => e = .returned (.tuple #[]) ∧ IsM 57 P w' g ({ m with out := m.out ++ [a] }) ∧ Chg P w w' := by
  obtain ⟨Ac, cc, bm, vK, vO, h⟩ := h
  have HH := Aside0.mk h
  obtain ⟨AO, cO, eO⟩ : ∃ A c, vO = .slice A m.out.length c := Kd.R_slice HH.out.out
  have c1 : ((m.out.length : Int) == 2000) = false := beq_eq_false_iff_ne.mpr (by omega)
  clear h
  go_enter Tryd.func57, Tryd.ntmps57
  subst eO
  clear c
  go_wp2_with (first | ((with_reducible refine gate_dst (N := 5) rfl ?_); refine box_event ?hg (N := 5) ?hd (cs := #[.int .i64 x0, .int .i64 x1, .int .i64 x2, .int .i64 x3, .int .i64 x4]) (t := 67) ?hr ?_; (case hd => rfl); (case hg => rfl); (case hr => first | (go_simp; done) | (go_simp; rfl)); intro gb hg w5 hbox hb; have H5 := Aside0.mk (HH.out.below hb); have CH5 := Aside0.mk (Chg.of_below (P := P) hb); have HS5 := Aside0.mk hb.size; have k16 := H5.out.c16; have f16 := H5.out.fz 16; clear hb hbox hg) | ((with_reducible refine gate_builtin (b := .append) (xs := #[.tmp 21, .tmp 23]) rfl ?_); at_builtin; refine Kd.R_append (Kd.int .i64) (w0 := w5) 0 rfl (.tmp 21) (.tmp 23) 23 2 (.int .i64 0) 8 rfl Tryd.underlying23 info2 rfl (by decide) (by omega) _ m.out (a) [.int .i64 (a)] (fun k => P k ∧ k ≠ g ∧ k ≠ bm) (fun _ => False) rfl rfl rfl (fun _ hk => hk.elim) (fun k hk => ⟨hP k (Nat.le_trans HS5.out hk), Nat.ne_of_gt (Nat.lt_of_lt_of_le (blk_lt H5.out.blk) hk), Nat.ne_of_gt (Nat.lt_of_lt_of_le (blk_lt H5.out.mblk) hk)⟩) H5.out.out (Below.refl _ _) (Nat.zero_le _) (by omega) ?_; intro v1 w2 ho hb hg hat; obtain ⟨A1, d1, e1⟩ := Kd.R_slice ho; subst e1; have k16b := (blk_cell (blk_grown H5.out.blk hg H5.out.rowO.1) 16).trans (mc_at _ _ _ _ _ H5.out.regs).2.2.2.2.2.2.1; have f16b := blk_frozen (blk_grown H5.out.blk hg H5.out.rowO.1) 16; have HI := Aside0.mk (H5.out.putOut hg _ _ ho); have CHI := Aside0.mk ((CH5.out.grown hg (fun k hk => (H5.out.out.1 k hk).1)).setCell (a := ⟨g, 16, none⟩) HH.out.pg (.slice A1 (m.out ++ [a]).length d1)); rw [show (m.out ++ [a]).length = m.out.length + 1 by simp] at HI CHI; clear ho hb hg hat))
  go_end0
  exact ⟨rfl, ⟨_, _, _, _, _, HI.out⟩, CHI.out⟩
theorem one_reads (W W1 : World) (base : Nat) (x : Int) (okp : Nat → Prop) (g e : Nat) (hg : W.heap[g]? = some (.cells #[.int .i64 x] e (0, 0))) :
    ReadsRow (fun y cs => (Kd.int .i64).M W1 base okp y cs) 1 W (some ⟨g, 0, none⟩) 1 [x] := by
  refine ⟨rfl, by omega, fun _ => ⟨_, rfl, fun j p hj => ?_⟩⟩
  match j, hj with
  | 0, hj =>
    obtain rfl := Option.some.inj hj
    refine ⟨[.int .i64 x], rfl, rfl, fun q u hu => ?_⟩
    have e : (⟨g, 0, none⟩ : Addr).add (0 * 1 + q) = ⟨g, q, none⟩ := by unfold Addr.add; simp; try omega
    rw [e, blk_cell hg]
    match q, hu with
    | 0, hu => exact hu
    | n + 1, hu => exact absurd hu (by simp)
  | n + 1, hj => simp at hj
theorem op_call_full (h : IsM 57 P w g m) (x0 x1 x2 x3 x4 a : Int) (d : Nat) (hd : d < 10) (c : m.kept.length = 64) : Calls Tryd.prog 58 #[.pointer (some ⟨g, 0, none⟩), .agg #[.int .i64 x0, .int .i64 x1, .int .i64 x2, .int .i64 x3, .int .i64 x4], .int .i64 a, .pointer (some ⟨g, 2 + d, none⟩)] w fun e w' => e = .returned (.tuple #[]) ∧ IsM 57 P w' g (m.trap 12) ∧ Chg P w w' := by
  obtain ⟨Ac, cc, bm, vK, vO, h⟩ := h
  have HH := Aside0.mk h
  obtain ⟨AK, cK, eK⟩ : ∃ A c, vK = .slice A m.kept.length c := Kd.R_slice HH.out.kept
  clear h
  go_enter Tryd.func58, Tryd.ntmps58
  subst eK
  go_wp2_with (first | ((with_reducible refine gate_dst (N := 5) rfl ?_); refine box_event ?hg (N := 5) ?hd (cs := #[.int .i64 x0, .int .i64 x1, .int .i64 x2, .int .i64 x3, .int .i64 x4]) (t := 67) ?hr ?_; (case hd => rfl); (case hg => rfl); (case hr => first | (go_simp; done) | (go_simp; rfl)); intro gb hg w5 hbox hb; have H5 := Aside0.mk (HH.out.below hb); have CH5 := Aside0.mk (Chg.of_below (P := P) hb); have HS5 := Aside0.mk hb.size; have k15 := H5.out.c15; rw [c] at k15; clear hb hbox hg) | (go_at_call 36; refine (trap_calls ⟨_, _, _, _, _, H5.out⟩ 12).mono ?_; rintro e w2 ⟨rfl, hi, hc⟩))
  (first | go_end0 | refine bodyPost_ret (results_none rfl _ _ _) rfl ?_)
  exact ⟨rfl, hi, CH5.out.trans hc⟩
theorem op_ret_none (h : IsM 57 P w g m) (x0 x1 x2 x3 x4 a : Int) (d : Nat) (hd : d < 10) (c : m.kept = []) : Calls Tryd.prog 59 #[.pointer (some ⟨g, 0, none⟩), .agg #[.int .i64 x0, .int .i64 x1, .int .i64 x2, .int .i64 x3, .int .i64 x4], .int .i64 a, .pointer (some ⟨g, 2 + d, none⟩)] w fun e w' => e = .returned (.tuple #[]) ∧ IsM 57 P w' g (m.trap 12) ∧ Chg P w w' := by
  obtain ⟨Ac, cc, bm, vK, vO, h⟩ := h
  have HH := Aside0.mk h
  obtain ⟨AK, cK, eK⟩ : ∃ A c, vK = .slice A m.kept.length c := Kd.R_slice HH.out.kept
  clear h
  go_enter Tryd.func59, Tryd.ntmps59
  subst eK
  go_wp2_with (first | ((with_reducible refine gate_dst (N := 5) rfl ?_); refine box_event ?hg (N := 5) ?hd (cs := #[.int .i64 x0, .int .i64 x1, .int .i64 x2, .int .i64 x3, .int .i64 x4]) (t := 67) ?hr ?_; (case hd => rfl); (case hg => rfl); (case hr => first | (go_simp; done) | (go_simp; rfl)); intro gb hg w5 hbox hb; have H5 := Aside0.mk (HH.out.below hb); have CH5 := Aside0.mk (Chg.of_below (P := P) hb); have HS5 := Aside0.mk hb.size; have k15 := H5.out.c15; rw [c] at k15; simp only [List.length_nil] at k15; clear hb hbox hg) | (go_at_call 36; refine (trap_calls ⟨_, _, _, _, _, H5.out⟩ 12).mono ?_; rintro e w2 ⟨rfl, hi, hc⟩))
  (first | go_end0 | refine bodyPost_ret (results_none rfl _ _ _) rfl ?_)
  exact ⟨rfl, hi, CH5.out.trans hc⟩
theorem info3 : (Tryd.prog.info? 3).map (fun i => (i.zero, i.size, i.bytes)) = some (some (.int .i64 0), 1, 8) := by kernel_rfl
theorem op_call_ok (h : IsM 57 P w g m) (x0 x1 x2 x3 x4 a : Int) (d : Nat) (hd : d < 10) (hP : ∀ k, w.heap.size ≤ k → P k) (c : ¬ m.kept.length = 64) (cl : m.kept.length ≤ 64) : Calls Tryd.prog 58 #[.pointer (some ⟨g, 0, none⟩), .agg #[.int .i64 x0, .int .i64 x1, .int .i64 x2, .int .i64 x3, .int .i64 x4], .int .i64 a, .pointer (some ⟨g, 2 + d, none⟩)] w fun e w' => e = .returned (.tuple #[]) ∧ IsM 57 P w' g ({ m with kept := m.kept ++ [m.at_], at_ := x4 }) ∧ Chg P w w' := by
  obtain ⟨Ac, cc, bm, vK, vO, h⟩ := h
  have HH := Aside0.mk h
  obtain ⟨AK, cK, eK⟩ : ∃ A c, vK = .slice A m.kept.length c := Kd.R_slice HH.out.kept
  have c1 : ((m.kept.length : Int) == 64) = false := beq_eq_false_iff_ne.mpr (by omega)
  clear h
  go_enter Tryd.func58, Tryd.ntmps58
  subst eK
  clear c
  go_wp2_with ((with_reducible refine gate_dst (N := 5) rfl ?_); refine box_event ?hg (N := 5) ?hd (cs := #[.int .i64 x0, .int .i64 x1, .int .i64 x2, .int .i64 x3, .int .i64 x4]) (t := 67) ?hr ?_; (case hd => rfl); (case hg => rfl); (case hr => first | (go_simp; done) | (go_simp; rfl)); intro gb hg w5 hbox hb; have H5 := Aside0.mk (HH.out.below hb); have CH5 := Aside0.mk (Chg.of_below (P := P) hb); have HS5 := Aside0.mk hb.size; have k15 := H5.out.c15; have f15 := H5.out.fz 15; have k12 := H5.out.c12; have k15a := fun o => (H5.out.alloc o).c15; have k12a := fun o => (H5.out.alloc o).c12; have HX := Aside0.mk hbox; have HGK := Aside0.mk (show some gb ≠ Value.ownBlock (.slice AK m.kept.length cK) from fun e => absurd (Kd.R_lt HH.out.kept gb e.symm) (by rw [hg]; omega)); have HGG := Aside0.mk (show gb ≠ g from fun e => absurd (blk_lt HH.out.blk) (by rw [← e, hg]; omega)); have HFR := Aside0.mk (show ∀ k, w5.heap.size ≤ k → P k ∧ k ≠ g ∧ k ≠ bm from (fun k hk => ⟨hP k (Nat.le_trans HS5.out hk), Nat.ne_of_gt (Nat.lt_of_lt_of_le (blk_lt H5.out.blk) hk), Nat.ne_of_gt (Nat.lt_of_lt_of_le (blk_lt H5.out.mblk) hk)⟩)); clear hb hbox hg)
  go_region_law (refine Kd.R_append_rows_step (Kd.int .i64) 0 rfl (.tmp 20) (.tmp 26) 41 3 (.int .i64 0) 8 rfl Tryd.underlying41 info3 rfl (by decide) (by omega) _ m.kept [m.at_] _ 1 1 (fun k => P k ∧ k ≠ g ∧ k ≠ bm) (fun _ => False) rfl rfl (IsMx.kept (by repeat (first | (with_reducible exact H5.out) | (with_reducible apply IsMx.alloc) | (with_reducible apply IsMx.drewN) | (with_reducible apply IsMx.drew) | exact H5.out))) (one_reads _ _ _ m.at_ _ _ _ (by (with_reducible repeat (first | refine blk_drewN ?_ _ | refine blk_drew ?_)); exact blk_new _ _)) (fun _ _ hx => hx) (fun _ h => h.elim) (fun k hk => by simp at hk; exact HFR.out k (by omega)) (Below.refl _ _) (Nat.zero_le _) (by omega) ?_; intro v1 w2 ho hb hg hat; obtain ⟨A1, d1, e1⟩ := Kd.R_slice ho; subst e1; have HI := Aside0.mk (IsMx.putKept (by repeat (first | (with_reducible exact H5.out) | (with_reducible apply IsMx.alloc) | (with_reducible apply IsMx.drewN) | (with_reducible apply IsMx.drew) | exact H5.out)) hg _ _ ho); have k15b := (blk_cell (blk_grown (IsMx.blk (by repeat (first | (with_reducible exact H5.out) | (with_reducible apply IsMx.alloc) | (with_reducible apply IsMx.drewN) | (with_reducible apply IsMx.drew) | exact H5.out))) hg (IsMx.rowK H5.out).1) 15).trans (mc_at _ _ _ _ _ H5.out.regs).2.2.2.2.2.1; have f15b := blk_frozen (blk_grown (IsMx.blk (by repeat (first | (with_reducible exact H5.out) | (with_reducible apply IsMx.alloc) | (with_reducible apply IsMx.drewN) | (with_reducible apply IsMx.drew) | exact H5.out))) hg (IsMx.rowK H5.out).1) 15; have CHI := Aside0.mk ((Chg.grown (by repeat (first | (with_reducible exact CH5.out) | (with_reducible apply Chg.alloc) | (with_reducible apply Chg.drewN) | (with_reducible apply Chg.drew) | exact CH5.out)) hg (fun k hk => (H5.out.kept.1 k hk).1)).setCell (a := ⟨g, 15, none⟩) HH.out.pg (.slice A1 (m.kept ++ [m.at_]).length d1)); have HX2 := Aside0.mk (blk_far (p := ⟨g, 15, none⟩) (blk_grown (by (with_reducible repeat (first | refine blk_drewN ?_ _ | refine blk_drew ?_ | refine blk_alloc ?_ _)); exact HX.out) hg HGK.out) HGG.out (.slice A1 (m.kept ++ [m.at_]).length d1)); rw [show (m.kept ++ [m.at_]).length = m.kept.length + 1 by simp] at HI CHI HX2; have k12b := HI.out.c12; have f12b := HI.out.fz 12; have kx4 := (blk_cell HX2.out 4).trans rfl; clear ho hb hg hat)
  all_goals (go_wp2; (first | go_end0 | refine bodyPost_ret (results_none rfl _ _ _) rfl ?_); exact ⟨rfl, ⟨_, _, _, _, _, HI.out.set12 x4⟩, CHI.out.setCell (a := ⟨g, 12, none⟩) HH.out.pg _⟩)
theorem op_ret_some (h : IsM 57 P w g m) (x0 x1 x2 x3 x4 a : Int) (d : Nat) (hd : d < 10) (l : List Int) (y : Int) (c : m.kept = l ++ [y]) (cl : l.length ≤ 63) : Calls Tryd.prog 59 #[.pointer (some ⟨g, 0, none⟩), .agg #[.int .i64 x0, .int .i64 x1, .int .i64 x2, .int .i64 x3, .int .i64 x4], .int .i64 a, .pointer (some ⟨g, 2 + d, none⟩)] w fun e w' => e = .returned (.tuple #[]) ∧ IsM 57 P w' g ({ m with at_ := y, kept := l }) ∧ Chg P w w' := by
  obtain ⟨Ac, cc, bm, vK, vO, h⟩ := h
  have HH := Aside0.mk h
  obtain ⟨AK, cK, eK⟩ : ∃ A c, vK = .slice A m.kept.length c := Kd.R_slice HH.out.kept
  have hlen : m.kept.length = l.length + 1 := by rw [c]; simp
  clear h
  go_enter Tryd.func59, Tryd.ntmps59
  subst eK
  have hcap := (Kd.R_reads' HH.out.kept).2.1
  rw [hlen] at hcap
  have hrd := (Kd.R_reads' HH.out.kept).2.2
  obtain ⟨ad, eA, hat⟩ := Kd.at_int hrd (l.length : Int) (by omega) (by rw [hlen]; omega)
  simp only [Int.toNat_natCast] at hat
  have hrv : rd m.kept (l.length : Int) = y := by rw [c]; simp [rd]
  rw [hrv] at hat
  have hat := Aside0.mk hat
  subst eA
  clear hrd hrv
  have q1 : (0 : Int) ≤ (l.length : Int) := by omega
  have q2 : (l.length : Int) ≤ (cK : Int) := by omega
  have q3 : (l.length : Int) < (l.length : Int) + 1 := by omega
  have q4 : ((l.length : Int) + 1 == 0) = false := beq_eq_false_iff_ne.mpr (by omega)
  have u1 : IntKind.i64.wrap ((l.length : Int) + 1 - 1) = (l.length : Int) := sub1 _ (by omega)
  have u2 : IntKind.i64.wrap (l.length : Int) = (l.length : Int) := wr1 _ (by clear u1; omega)
  clear hcap
  go_wp2_with ((with_reducible refine gate_dst (N := 5) rfl ?_); refine box_event ?hg (N := 5) ?hd (cs := #[.int .i64 x0, .int .i64 x1, .int .i64 x2, .int .i64 x3, .int .i64 x4]) (t := 67) ?hr ?_; (case hd => rfl); (case hg => rfl); (case hr => first | (go_simp; done) | (go_simp; rfl)); intro gb hg w5 hbox hb; have H5 := Aside0.mk (HH.out.below hb); have CH5 := Aside0.mk (Chg.of_below (P := P) hb); have HS5 := Aside0.mk hb.size; have k15 := H5.out.c15; rw [hlen] at k15; have f15 := H5.out.fz 15; have k12 := H5.out.c12; have f12 := H5.out.fz 12; have ha5 := pw_cell_below hb hat.out; clear hb hbox hg)
  go_region
  all_goals ((first | go_end0 | refine bodyPost_ret (results_none rfl _ _ _) rfl ?_); exact ⟨rfl, ⟨_, _, _, _, _, ((H5.out.set12 y).set15 (.slice (some ad) l.length cK) l (R_pop (y := y) (c ▸ (H5.out.set12 y).kept))).drew⟩, ((CH5.out.setCell (a := ⟨g, 12, none⟩) HH.out.pg _).setCell (a := ⟨g, 15, none⟩) HH.out.pg _).drew⟩)
end
end Go.Proofs.YtekhnkpjeofdpaaDoor.A
