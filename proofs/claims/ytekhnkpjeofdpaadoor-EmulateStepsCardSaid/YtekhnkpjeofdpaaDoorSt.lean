/- emulate's machine: State, Peek of a machine that New made: contracts. -/
import Derived.Test.YtekhnkpjeofdpaaDoorGoes
import Derived.ChangeKeysEq
set_option linter.unusedVariables false
set_option maxRecDepth 100000
namespace Go.Proofs.YtekhnkpjeofdpaaDoor.A
open Go.RowKit Go.Proofs.YtekhnkpjeofdpaaDoorW.PrintWords Go.Proofs.YtekhnkpjeofdpaaDoorW.PrintLast Go.Proofs.YtekhnkpjeofdpaaDoorW.PrintMore
set_option maxHeartbeats 4000000
/-- the thirteen cells of a machine's state -/
def stv (m : Mac) : Array Value := (m.regs.map (Value.int .i64) ++ [Value.int .i64 m.at_, Value.int .i64 m.depth, Value.int .i64 m.steps]).toArray
theorem state_calls {P : Rg} {w : World} {g : Nat} {m : Mac} (h : IsM 57 P w g m) :
    Calls Tryd.prog 18 #[.pointer (some ⟨g, 0, none⟩)] w fun e w' => e = .returned (.tuple #[.agg (stv m), .int .i64 0]) ∧ Below w.heap.size w w' := by
  obtain ⟨Ac, cc, bm, vK, vO, h⟩ := h
  obtain ⟨code, mem, regs, at_, depth, steps, kept, out, end_, why⟩ := m
  obtain ⟨r0, r1, r2, r3, r4, r5, r6, r7, r8, r9, rfl⟩ := list10 h.regs
  have H := Aside0.mk h
  have c0 := fun o => (H.out.alloc o).creg 0 (by omega)
  have c1 := fun o => (H.out.alloc o).creg 1 (by omega)
  have c2 := fun o => (H.out.alloc o).creg 2 (by omega)
  have c3 := fun o => (H.out.alloc o).creg 3 (by omega)
  have c4 := fun o => (H.out.alloc o).creg 4 (by omega)
  have c5 := fun o => (H.out.alloc o).creg 5 (by omega)
  have c6 := fun o => (H.out.alloc o).creg 6 (by omega)
  have c7 := fun o => (H.out.alloc o).creg 7 (by omega)
  have c8 := fun o => (H.out.alloc o).creg 8 (by omega)
  have c9 := fun o => (H.out.alloc o).creg 9 (by omega)
  have c10 := fun o => (H.out.alloc o).c12
  have c11 := fun o => (H.out.alloc o).c13
  have c12 := fun o => (H.out.alloc o).c14
  simp only [reg, List.getD_cons_zero, List.getD_cons_succ] at c0 c1 c2 c3 c4 c5 c6 c7 c8 c9 c10 c11 c12
  clear h
  go_enter Tryd.func18, Tryd.ntmps18
  go_wp2_with (go_at_call 26; refine (none_calls (P := P) (g := g) (m := _) ⟨_, _, _, _, _, H.out.alloc _⟩).mono ?_; rintro e w2 ⟨rfl, hw⟩; obtain rfl := hw.symm)
  refine bodyPost_ret (results_ct (fn := Tryd.f18) rfl _ _ w.heap.size 44 #[.int .i64 r0, .int .i64 r1, .int .i64 r2, .int .i64 r3, .int .i64 r4, .int .i64 r5, .int .i64 r6, .int .i64 r7, .int .i64 r8, .int .i64 r9, .int .i64 at_, .int .i64 depth, .int .i64 steps] (0, 0) _ rfl (blk_new _ _) Tryd.underlying44 rfl (by kernel_rfl)) rfl ?_
  exact ⟨rfl, below_alloc (Below.refl _ _) _⟩
theorem peek_any {P : Rg} {w : World} {g : Nat} {m : Mac} (h : IsM 57 P w g m) (i : Int) (v : Int × Int) (hv : v = if 0 ≤ i ∧ i < 20000 then (m.mem.getD i.toNat 0, 0) else (0, 2)) :
    Calls Tryd.prog 20 #[.pointer (some ⟨g, 0, none⟩), .int .i64 i] w fun e w' => e = .returned (.tuple #[.int .i64 v.1, .int .i64 v.2]) ∧ w' = w := by
  have HI := Aside0.mk h
  obtain ⟨Ac, cc, bm, vK, vO, h⟩ := h
  have c1 := h.c1
  have HC := Aside0.mk h
  clear h
  by_cases c : 0 ≤ i ∧ i < 20000
  · rw [if_pos c] at hv
    subst hv
    obtain ⟨n, rfl⟩ : ∃ n : Nat, i = n := ⟨i.toNat, by omega⟩
    have d0 : decide ((n : Int) < 0) = false := decide_eq_false (by omega)
    have d1 : decide (20000 ≤ (n : Int)) = false := decide_eq_false (by omega)
    have q1 : (0 : Int) ≤ (n : Int) := by omega
    have q2 : (n : Int) < 20000 := by omega
    have cm := HC.out.cm n (by omega)
    go_enter Tryd.func20, Tryd.ntmps20
    go_wp2_with (go_at_call 26; refine (none_calls (P := P) (g := g) (m := m) HI.out).mono ?_; rintro e w2 ⟨rfl, hw⟩; obtain rfl : w = w2 := hw.symm)
    go_ret2
    exact ⟨rfl, rfl⟩
  · rw [if_neg c] at hv
    subst hv
    rcases (show decide (i < 0) = true ∨ (decide (i < 0) = false ∧ decide (20000 ≤ i) = true) by simp only [decide_eq_true_eq, decide_eq_false_iff_not]; omega) with d0 | ⟨d0, d1⟩
    all_goals
      go_enter Tryd.func20, Tryd.ntmps20
      go_wp2_with (go_at_call 26; refine (none_calls (P := P) (g := g) (m := m) HI.out).mono ?_; rintro e w2 ⟨rfl, hw⟩; obtain rfl : w = w2 := hw.symm)
      go_ret2
      exact ⟨rfl, rfl⟩
theorem items_same (W : World) (xs : Array Value) : ∀ is : List Nat, (∀ j ∈ is, ∃ x, xs[j]? = some (.int .i64 x)) → (Op.eqItems 9998 2 1 xs xs is).run Tryd.prog W = .ok true W := by
  intro is
  induction is with
  | nil => intro _; simp [Op.eqItems]
  | cons j is ih =>
    intro h
    obtain ⟨x, hx⟩ := h j (by simp)
    have hp := run_part_plain (P := Tryd.prog) W (e := 2) (by kernel_rfl) hx
    simp only [Op.eqItems, Sem.run_bind, Nat.mul_one, hp, Result.andThen_ok]
    rw [run_equalIn_int W 9997 2 .i64 .i64 x x Tryd.underlying2]
    simp only [Result.andThen_ok, beq_self_eq_true, Bool.not_true, Bool.false_eq_true, if_false]
    exact ih (fun j hj => h j (by simp [hj]))
theorem eq10s (r0 r1 r2 r3 r4 r5 r6 r7 r8 r9 : Int) (W : World) : (Op.equalIn 9999 42 (.agg #[.int .i64 r0, .int .i64 r1, .int .i64 r2, .int .i64 r3, .int .i64 r4, .int .i64 r5, .int .i64 r6, .int .i64 r7, .int .i64 r8, .int .i64 r9]) (.agg #[.int .i64 r0, .int .i64 r1, .int .i64 r2, .int .i64 r3, .int .i64 r4, .int .i64 r5, .int .i64 r6, .int .i64 r7, .int .i64 r8, .int .i64 r9])).run Tryd.prog W = .ok true W := by
  obtain ⟨i, hi⟩ := info_of_underlying Tryd.underlying2
  rw [run_equalIn_array W 9998 _ _ Tryd.underlying42 hi, show Tryd.prog.cellsOf 2 = 1 by kernel_rfl]
  refine items_same W _ _ (fun j hj => ?_)
  have hj : j < 10 := by simpa using hj
  match j, hj with
  | 0, _ => exact ⟨_, rfl⟩
  | 1, _ => exact ⟨_, rfl⟩
  | 2, _ => exact ⟨_, rfl⟩
  | 3, _ => exact ⟨_, rfl⟩
  | 4, _ => exact ⟨_, rfl⟩
  | 5, _ => exact ⟨_, rfl⟩
  | 6, _ => exact ⟨_, rfl⟩
  | 7, _ => exact ⟨_, rfl⟩
  | 8, _ => exact ⟨_, rfl⟩
  | 9, _ => exact ⟨_, rfl⟩
end Go.Proofs.YtekhnkpjeofdpaaDoor.A
