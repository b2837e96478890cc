/- cupellaw23.EmulateRuns: the law's walk (where the two tables lie). -/
import Derived.Test.YtekhnkpjeofdpaaDoorRRun
import Derived.Test.YtekhnkpjeofdpaaDoorGoes
set_option linter.unusedVariables false
set_option maxRecDepth 100000
namespace Go.Proofs.YtekhnkpjeofdpaaDoor.A
open Go.RowKit Go.Proofs.YtekhnkpjeofdpaaDoorW.PrintWords Go.Proofs.YtekhnkpjeofdpaaDoorW.PrintLast Go.Proofs.YtekhnkpjeofdpaaDoorW.PrintMore
set_option maxHeartbeats 4000000
/-- emulate.Run: the image is good, the steps are out of range -/
theorem run_arg (k : Nat) (A0 : Option Addr) (c0 : Nat) (code : List Int) (A1 : Option Addr) (c1 : Nat) (data : List Int) (entry n : Int) (w : World) (hT : Tab w) (hC : Kd.C (Kd.int .u64) w A0 code.length code) (hc0 : code.length ≤ c0) (hD : Kd.C (Kd.int .i64) w A1 data.length data) (hc1 : data.length ≤ c1) (hl : code.length ≤ 20000) (hl1 : data.length ≤ 20000) (h : target_Check.f k code data entry = some 0) (hn : n < 0 ∨ 5000000 < n) :
    Calls Tryd.prog 9 #[.agg #[.slice A0 code.length c0, .slice A1 data.length c1, .int .i64 entry], .int .i64 n] w fun e w' => e = .returned (.tuple #[.agg #[.slice none 0 0, .int .i64 0, .int .i64 0], .int .i64 2]) ∧ Below w.heap.size w w' := by
  have HT := Aside0.mk hT
  have HC := Aside0.mk hC
  have HD := Aside0.mk hD
  have HH := Aside0.mk h
  have hn2 : decide (n < 0) = true ∨ (decide (n < 0) = false ∧ decide (5000000 < n) = true) := by
    simp only [decide_eq_true_eq, decide_eq_false_iff_not]
    omega
  obtain ⟨W2, eW2⟩ : ∃ W, (w.alloc (.cells #[.slice A0 code.length c0, .slice A1 data.length c1, .int .i64 entry] 25)).alloc (.cells #[.slice none 0 0, .int .i64 0, .int .i64 0] 28) = W := ⟨_, rfl⟩
  have hb2 : Below w.heap.size w W2 := eW2 ▸ below_alloc (below_alloc (Below.refl _ _) _) _
  have hz : W2.heap[w.heap.size + 1]? = some (.cells #[.slice none 0 0, .int .i64 0, .int .i64 0] 28 (0, 0)) := eW2 ▸ blk_new2 w _ _
  have hi : W2.heap[w.heap.size]? = some (.cells #[.slice A0 code.length c0, .slice A1 data.length c1, .int .i64 entry] 25 (0, 0)) := eW2 ▸ blk_alloc (blk_new w _) _
  have i0 : W2.cell? ⟨w.heap.size, 0, none⟩ = some (.slice A0 code.length c0) := (blk_cell hi 0).trans rfl
  have i1 : W2.cell? ⟨w.heap.size, 1, none⟩ = some (.slice A1 data.length c1) := (blk_cell hi 1).trans rfl
  have i2 : W2.cell? ⟨w.heap.size, 2, none⟩ = some (.int .i64 entry) := (blk_cell hi 2).trans rfl
  clear hi
  have HB2 := Aside0.mk hb2
  have HZ := Aside0.mk hz
  clear hT hC hD h hb2 hz hn
  rcases hn2 with d0 | ⟨d0, d1⟩
  all_goals
    go_enter Tryd.func9, Tryd.ntmps9
    go_wp2_with (first
      | (go_at_call 12; refine (new_ok k A0 c0 code A1 c1 data entry W2 (Tab.below HT.out HB2.out) (Kd.C_below HC.out HB2.out) hc0 (Kd.C_below HD.out HB2.out) hc1 hl hl1 HH.out).mono ?_; rintro e w3 ⟨g, P, rfl, hI, hP1, hP2, hb3⟩; have HZ3 := Aside0.mk (blk_below HZ.out hb3); have HB3 := Aside0.mk (HB2.out.trans (hb3.mono HB2.out.size)); clear hI hP1 hP2 hb3)
      | (refine wpList_store_row rfl 28 _ _ rfl (w.heap.size + 1) zero3 rfl rfl 28 zero3 HZ3.out info28s rfl (by kernel_rfl) ?_))
    refine bodyPost_ret (results_ct (fn := Tryd.f9) rfl _ _ (w.heap.size + 1) 28 zero3 (0, 0) _ rfl (setRow_heap _ (w.heap.size + 1) zero3 _ 28 (0, 0) HZ3.out) Tryd.underlying28 rfl (by kernel_rfl)) rfl ?_
    exact ⟨rfl, below_row HB3.out (Nat.le_succ _)⟩
/-- what a call of Run answers -/
def Ran (f : Nat) (A0 : Option Addr) (c0 : Nat) (code : List Int) (A1 : Option Addr) (c1 : Nat) (data : List Int) (entry n : Int) (xs : List Int) (E Y r : Int) : Prop :=
  ∀ w : World, Tab w → Kd.C (Kd.int .u64) w A0 code.length code → Kd.C (Kd.int .i64) w A1 data.length data → Calls Tryd.prog f #[.agg #[.slice A0 code.length c0, .slice A1 data.length c1, .int .i64 entry], .int .i64 n] w fun e w' => ∃ v0, e = .returned (.tuple #[.agg #[v0, .int .i64 E, .int .i64 Y], .int .i64 r]) ∧ Kd.R (Kd.int .i64) 2 w' w.heap.size (fun _ => True) v0 xs ∧ Below w.heap.size w w'
theorem runs_same (A0 : Option Addr) (c0 : Nat) (code : List Int) (A1 : Option Addr) (c1 : Nat) (data : List Int) (entry n : Int) (hc0 : code.length ≤ c0) (hc1 : data.length ≤ c1) (hl : code.length ≤ 400) (hl1 : data.length ≤ 30000) (hn : n ≤ 3000 ∨ 5000000 < n) :
    ∃ xs E Y r, xs.length ≤ 2000 ∧ Ran 9 A0 c0 code A1 c1 data entry n xs E Y r ∧ Ran 10 A0 c0 code A1 c1 data entry n xs E Y r := by
  obtain ⟨r, hr, hr2⟩ := check_total code data entry hl 521 (by omega)
  have hr' := check_ref code data entry r hl 521 500 (by omega) (by omega) hr
  by_cases h0 : r = 0
  · subst h0
    obtain ⟨hd, _, _⟩ := hr2 rfl
    by_cases hx : n < 0 ∨ 5000000 < n
    · refine ⟨[], 0, 0, 2, by simp, fun w hT hC hD => ?_, fun w hT hC hD => ?_⟩
      · exact (run_arg 521 A0 c0 code A1 c1 data entry n w hT hC hc0 hD hc1 (by omega) hd hr hx).mono fun e w' ⟨he, hb⟩ => ⟨_, he, Kd.R_nil _ _ _ _ _, hb⟩
      · exact (rrun_arg 500 A0 c0 code A1 c1 data entry n w hC hc0 hD hc1 hd hr' hx).mono fun e w' ⟨he, hb⟩ => ⟨_, he, Kd.R_nil _ _ _ _ _, hb⟩
    · obtain ⟨q, rfl⟩ : ∃ q : Nat, n = (q : Int) := ⟨n.toNat, by omega⟩
      obtain ⟨m', h1, hf, _, _⟩ := run_total 521 (by omega) q (mac0_fine code data entry (by omega))
      refine ⟨m'.out, endOf m', m'.why, 0, hf.out, fun w hT hC hD => ?_, fun w hT hC hD => ?_⟩
      · exact run_calls 521 A0 c0 code A1 c1 data entry q m' w hT hC hc0 hD hc1 (by omega) hd hr (by omega) h1 hf.out
      · exact rrun_ok 500 (by omega) A0 c0 code A1 c1 data entry q m' w hC hc0 hD hc1 (by omega) hd hr' (by omega) h1
  · refine ⟨[], 0, 0, r, by simp, fun w hT hC hD => ?_, fun w hT hC hD => ?_⟩
    · exact (run_bad 521 A0 c0 code A1 c1 data entry n r w hT hC hc0 (by omega) hr h0).mono fun e w' ⟨he, hb⟩ => ⟨_, he, Kd.R_nil _ _ _ _ _, hb⟩
    · exact (rrun_bad 500 A0 c0 code A1 c1 data entry n r w hC hc0 hD hc1 hr' h0).mono fun e w' ⟨he, hb⟩ => ⟨_, he, Kd.R_nil _ _ _ _ _, hb⟩
theorem runs_far (A0 : Option Addr) (c0 : Nat) (code : List Int) (A1 : Option Addr) (c1 : Nat) (data : List Int) (entry s : Int) (w : World) (hT : Tab w) (h : 400 < (code.length : Int) ∨ 30000 < (data.length : Int) ∨ (3000 < s ∧ s ≤ 5000000)) :
    Calls Tryd.prog 3 #[.agg #[.slice A0 code.length c0, .slice A1 data.length c1, .int .i64 entry], .int .i64 s] w fun e w' => e = .returned (.bool true) ∧ Below w.heap.size w w' := by
  have HT := Aside0.mk hT
  obtain ⟨W1, eW1⟩ : ∃ W, w.alloc (.cells #[.slice A0 code.length c0, .slice A1 data.length c1, .int .i64 entry] 25) = W := ⟨_, rfl⟩
  have hb1 : Below w.heap.size w W1 := eW1 ▸ below_alloc (Below.refl _ _) _
  have hi : W1.heap[w.heap.size]? = some (.cells #[.slice A0 code.length c0, .slice A1 data.length c1, .int .i64 entry] 25 (0, 0)) := eW1 ▸ blk_new w _
  have i0 : W1.cell? ⟨w.heap.size, 0, none⟩ = some (.slice A0 code.length c0) := (blk_cell hi 0).trans rfl
  have i1 : W1.cell? ⟨w.heap.size, 1, none⟩ = some (.slice A1 data.length c1) := (blk_cell hi 1).trans rfl
  have HB1 := Aside0.mk hb1
  clear hT hb1 hi
  have hh : decide (400 < (code.length : Int)) = true ∨ (decide (400 < (code.length : Int)) = false ∧ decide (30000 < (data.length : Int)) = true) ∨ (decide (400 < (code.length : Int)) = false ∧ decide (30000 < (data.length : Int)) = false ∧ decide (3000 < s) = true ∧ decide (s ≤ 5000000) = true) := by
    simp only [decide_eq_true_eq, decide_eq_false_iff_not]
    omega
  clear h
  rcases hh with b0 | ⟨b0, b1⟩ | ⟨b0, b1, b2, b3⟩
  all_goals
    go_enter Tryd.func3, Tryd.ntmps3
    go_wp2_with (go_at_call 8; refine (awake_calls _ (Tab.below HT.out HB1.out)).mono ?_; rintro e w2 ⟨rfl, hb⟩; have HB2 := Aside0.mk (below_step HB1.out hb); clear hb)
    go_ret
    exact ⟨rfl, HB2.out⟩
theorem law_runs (A0 : Option Addr) (c0 : Nat) (code : List Int) (A1 : Option Addr) (c1 : Nat) (data : List Int) (entry s : Int) (w : World) (hT : Tab w) (hC : Kd.C (Kd.int .u64) w A0 code.length code) (hc0 : code.length ≤ c0) (hD : Kd.C (Kd.int .i64) w A1 data.length data) (hc1 : data.length ≤ c1) :
    Calls Tryd.prog 3 #[.agg #[.slice A0 code.length c0, .slice A1 data.length c1, .int .i64 entry], .int .i64 s] w fun e w' => e = .returned (.bool true) ∧ Below w.heap.size w w' := by
  by_cases hf : 400 < (code.length : Int) ∨ 30000 < (data.length : Int) ∨ (3000 < s ∧ s ≤ 5000000)
  · exact runs_far A0 c0 code A1 c1 data entry s w hT hf
  · obtain ⟨xs, E, Y, r, hx, h9, h10⟩ := runs_same A0 c0 code A1 c1 data entry s hc0 hc1 (by omega) (by omega) (by omega)
    have hs : decide (3000 < s) = false ∨ (decide (3000 < s) = true ∧ decide (s ≤ 5000000) = false) := by
      simp only [decide_eq_true_eq, decide_eq_false_iff_not]
      omega
    have H9 := Aside0.mk h9
    have H10 := Aside0.mk h10
    have HX := Aside0.mk hx
    have HT := Aside0.mk hT
    have HC := Aside0.mk hC
    have HD := Aside0.mk hD
    obtain ⟨W1, eW1⟩ : ∃ W, w.alloc (.cells #[.slice A0 code.length c0, .slice A1 data.length c1, .int .i64 entry] 25) = W := ⟨_, rfl⟩
    have hb1 : Below w.heap.size w W1 := eW1 ▸ below_alloc (Below.refl _ _) _
    have hi : W1.heap[w.heap.size]? = some (.cells #[.slice A0 code.length c0, .slice A1 data.length c1, .int .i64 entry] 25 (0, 0)) := eW1 ▸ blk_new w _
    have HB1 := Aside0.mk hb1
    have HI := Aside0.mk hi
    have b0 : decide (400 < (code.length : Int)) = false := decide_eq_false (by omega)
    have b1 : decide (30000 < (data.length : Int)) = false := decide_eq_false (by omega)
    have i0 : W1.cell? ⟨w.heap.size, 0, none⟩ = some (.slice A0 code.length c0) := (blk_cell hi 0).trans rfl
    have i1 : W1.cell? ⟨w.heap.size, 1, none⟩ = some (.slice A1 data.length c1) := (blk_cell hi 1).trans rfl
    have i2 : W1.cell? ⟨w.heap.size, 2, none⟩ = some (.int .i64 entry) := (blk_cell hi 2).trans rfl
    have rr : (r == r) = true := beq_self_eq_true r
    clear hT hC hD hx h9 h10 hb1 hi hf
    rcases hs with b2 | ⟨b2, b3⟩
    all_goals
      go_enter Tryd.func3, Tryd.ntmps3
      go_wp2_with (first
        | (go_at_call 9; refine (H9.out W1 (Tab.below HT.out HB1.out) (Kd.C_below HC.out HB1.out) (Kd.C_below HD.out HB1.out)).mono ?_; rintro e w2 ⟨va, rfl, hra, hb⟩; obtain ⟨Aa, ca, ea⟩ := Kd.R_slice hra; subst ea; have HRA := Aside0.mk hra; have HB2 := Aside0.mk (below_step HB1.out hb); have HI2 := Aside0.mk (blk_below HI.out hb); have j0 := fun o => (blk_cell (blk_alloc HI2.out o) 0).trans rfl; have j1 := fun o => (blk_cell (blk_alloc HI2.out o) 1).trans rfl; have j2 := fun o => (blk_cell (blk_alloc HI2.out o) 2).trans rfl; have XA := Aside0.mk (blk_new w2 (.cells #[.slice Aa xs.length ca, .int .i64 E, .int .i64 Y] 28)); have SA := Aside0.mk (below_alloc (Below.refl w2.heap.size w2) (.cells #[.slice Aa xs.length ca, .int .i64 E, .int .i64 Y] 28)); clear hb hra)
        | (go_at_call 10; refine (H10.out _ (Tab.below HT.out (below_alloc HB2.out _)) (Kd.C_below HC.out (below_alloc HB2.out _)) (Kd.C_below HD.out (below_alloc HB2.out _))).mono ?_; rintro e w3 ⟨vb, rfl, hrb, hb⟩; obtain ⟨Ab, cb, eb⟩ := Kd.R_slice hrb; subst eb; have HRB := Aside0.mk hrb; have HB3 := Aside0.mk (below_step (below_alloc HB2.out _) hb); have XA3 := Aside0.mk (blk_below XA.out hb); have SA3 := Aside0.mk (below_step SA.out hb); have XB3 := Aside0.mk (blk_new w3 (.cells #[.slice Ab xs.length cb, .int .i64 E, .int .i64 Y] 28)); have a0 := fun o => (blk_cell (blk_alloc XA3.out o) 0).trans rfl; have a1 := fun o => (blk_cell (blk_alloc XA3.out o) 1).trans rfl; have a2 := fun o => (blk_cell (blk_alloc XA3.out o) 2).trans rfl; have e0 := (blk_cell XB3.out 0).trans rfl; have e1 := (blk_cell XB3.out 1).trans rfl; have e2 := (blk_cell XB3.out 2).trans rfl; clear hb hrb)
        | (go_at_call 11; refine (cupelref10_Equal.calls 5000 Aa ca xs E Y Ab cb xs E Y true _ (Kd.C_below (Kd.R_reads' HRA.out).2.2 (below_alloc SA3.out _)) (Kd.R_reads' HRA.out).2.1 (Kd.C_below (Kd.R_reads' HRB.out).2.2 (below_alloc (Below.refl _ _) _)) (Kd.R_reads' HRB.out).2.1 (equal_refl xs E Y HX.out 5000 (by omega))).mono ?_; rintro e w4 ⟨rfl, hb⟩; have HB4 := Aside0.mk (below_step (below_alloc HB3.out _) hb); clear hb)
        | (go_at_call 8; refine (awake_calls _ (Tab.below HT.out HB4.out)).mono ?_; rintro e w5 ⟨rfl, hb⟩; have HB5 := Aside0.mk (below_step HB4.out hb); clear hb))
      go_ret
      exact ⟨rfl, HB5.out⟩
end Go.Proofs.YtekhnkpjeofdpaaDoor.A
