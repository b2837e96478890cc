/- cupellaw23.EmulateGoesOn: the law's walk where its bounds are passed, or the image is refused (where the two tables lie). -/
import Derived.Test.YtekhnkpjeofdpaaDoorGoes
set_option linter.unusedVariables false
set_option maxRecDepth 100000
namespace Go.Proofs.YtekhnkpjeofdpaaDoor.A
open Go.RowKit Go.Proofs.YtekhnkpjeofdpaaDoorW.PrintWords Go.Proofs.YtekhnkpjeofdpaaDoorW.PrintLast Go.Proofs.YtekhnkpjeofdpaaDoorW.PrintMore
set_option maxHeartbeats 4000000
/-- the law, where its bounds are passed: it asks awake -/
theorem goes_far (A0 : Option Addr) (c0 : Nat) (code : List Int) (A1 : Option Addr) (c1 : Nat) (data : List Int) (entry s t : Int) (w : World) (hT : Tab w) (h : 400 < (code.length : Int) ∨ 30000 < (data.length : Int) ∨ s < 0 ∨ t < 0 ∨ 1000 < s ∨ 1000 < t) :
    Calls Tryd.prog 4 #[.agg #[.slice A0 code.length c0, .slice A1 data.length c1, .int .i64 entry], .int .i64 s, .int .i64 t] w fun e w' => e = .returned (.bool true) ∧ Below w.heap.size w w' := by
  have HT := Aside0.mk hT
  obtain ⟨W1, eW1⟩ : ∃ W, w.alloc (.cells #[.slice A0 code.length c0, .slice A1 data.length c1, .int .i64 entry] 25) = W := ⟨_, rfl⟩
  have hb1 : Below w.heap.size w W1 := eW1 ▸ below_alloc (Below.refl _ _) _
  have hi : W1.heap[w.heap.size]? = some (.cells #[.slice A0 code.length c0, .slice A1 data.length c1, .int .i64 entry] 25 (0, 0)) := eW1 ▸ blk_new w _
  have i0 : W1.cell? ⟨w.heap.size, 0, none⟩ = some (.slice A0 code.length c0) := (blk_cell hi 0).trans rfl
  have i1 : W1.cell? ⟨w.heap.size, 1, none⟩ = some (.slice A1 data.length c1) := (blk_cell hi 1).trans rfl
  have HB1 := Aside0.mk hb1
  clear hT hb1 hi
  have hh : decide (400 < (code.length : Int)) = true ∨ (decide (400 < (code.length : Int)) = false ∧ decide (30000 < (data.length : Int)) = true) ∨ (decide (400 < (code.length : Int)) = false ∧ decide (30000 < (data.length : Int)) = false ∧ decide (s < 0) = true) ∨ (decide (400 < (code.length : Int)) = false ∧ decide (30000 < (data.length : Int)) = false ∧ decide (s < 0) = false ∧ decide (t < 0) = true) ∨ (decide (400 < (code.length : Int)) = false ∧ decide (30000 < (data.length : Int)) = false ∧ decide (s < 0) = false ∧ decide (t < 0) = false ∧ decide (1000 < s) = true) ∨ (decide (400 < (code.length : Int)) = false ∧ decide (30000 < (data.length : Int)) = false ∧ decide (s < 0) = false ∧ decide (t < 0) = false ∧ decide (1000 < s) = false ∧ decide (1000 < t) = true) := by
    simp only [decide_eq_true_eq, decide_eq_false_iff_not]
    omega
  clear h
  rcases hh with b0 | ⟨b0, b1⟩ | ⟨b0, b1, b2⟩ | ⟨b0, b1, b2, b3⟩ | ⟨b0, b1, b2, b3, b4⟩ | ⟨b0, b1, b2, b3, b4, b5⟩
  all_goals
    go_enter Tryd.func4, Tryd.ntmps4
    go_wp2_with (go_at_call 8; refine (awake_calls _ (Tab.below HT.out HB1.out)).mono ?_; rintro e w2 ⟨rfl, hb⟩; have HB2 := Aside0.mk (below_step HB1.out hb); clear hb)
    go_ret
    exact ⟨rfl, HB2.out⟩
/-- the law, at an image that is refused -/
theorem goes_bad (A0 : Option Addr) (c0 : Nat) (code : List Int) (A1 : Option Addr) (c1 : Nat) (data : List Int) (entry : Int) (s t : Nat) (r : Int) (w : World) (hT : Tab w) (hC : Kd.C (Kd.int .u64) w A0 code.length code) (hc0 : code.length ≤ c0) (hl0 : code.length ≤ 400) (hl1 : data.length ≤ 30000) (hs : s ≤ 1000) (ht : t ≤ 1000) (h : target_Check.f 500 code data entry = some r) (hr : r ≠ 0) :
    Calls Tryd.prog 4 #[.agg #[.slice A0 code.length c0, .slice A1 data.length c1, .int .i64 entry], .int .i64 (s : Int), .int .i64 (t : Int)] w fun e w' => e = .returned (.bool true) ∧ Below w.heap.size w w' := by
  have HT := Aside0.mk hT
  have HC := Aside0.mk hC
  have HH := Aside0.mk h
  have HR := Aside0.mk hr
  have hr0 : (r != 0) = true := bne_iff_ne.mpr hr
  obtain ⟨W1, eW1⟩ : ∃ W, w.alloc (.cells #[.slice A0 code.length c0, .slice A1 data.length c1, .int .i64 entry] 25) = W := ⟨_, rfl⟩
  have hb1 : Below w.heap.size w W1 := eW1 ▸ below_alloc (Below.refl _ _) _
  have hi : W1.heap[w.heap.size]? = some (.cells #[.slice A0 code.length c0, .slice A1 data.length c1, .int .i64 entry] 25 (0, 0)) := eW1 ▸ blk_new w _
  have HB1 := Aside0.mk hb1
  have HI := Aside0.mk hi
  have b0 : decide (400 < (code.length : Int)) = false := decide_eq_false (by omega)
  have b1 : decide (30000 < (data.length : Int)) = false := decide_eq_false (by omega)
  have b2 : decide ((s : Int) < 0) = false := decide_eq_false (by omega)
  have b3 : decide ((t : Int) < 0) = false := decide_eq_false (by omega)
  have b4 : decide (1000 < (s : Int)) = false := decide_eq_false (by omega)
  have b5 : decide (1000 < (t : Int)) = false := decide_eq_false (by omega)
  clear hT hC h hr hb1 hi
  go_enter Tryd.func4, Tryd.ntmps4
  have i0 : W1.cell? ⟨w.heap.size, 0, none⟩ = some (.slice A0 code.length c0) := (blk_cell HI.out 0).trans rfl
  have i1 : W1.cell? ⟨w.heap.size, 1, none⟩ = some (.slice A1 data.length c1) := (blk_cell HI.out 1).trans rfl
  have i2 : W1.cell? ⟨w.heap.size, 2, none⟩ = some (.int .i64 entry) := (blk_cell HI.out 2).trans rfl
  go_wp2_with (first
    | (go_at_call 9; (with_reducible refine (run_bad 500 A0 c0 code A1 c1 data entry (s : Int) r W1 (Tab.below HT.out HB1.out) (Kd.C_below HC.out HB1.out) hc0 (by omega) HH.out HR.out).mono ?_); rintro e w2 ⟨rfl, hb⟩; have HB2 := Aside0.mk (below_step HB1.out hb); have HI2 := Aside0.mk (blk_below HI.out hb); have j0 := fun o => (blk_cell (blk_alloc HI2.out o) 0).trans rfl; have j1 := fun o => (blk_cell (blk_alloc HI2.out o) 1).trans rfl; have j2 := fun o => (blk_cell (blk_alloc HI2.out o) 2).trans rfl; clear hb)
    | (go_at_call 9; refine (run_bad 500 A0 c0 code A1 c1 data entry _ r _ (Tab.below HT.out (below_alloc HB2.out _)) (Kd.C_below HC.out (below_alloc HB2.out _)) hc0 (by omega) HH.out HR.out).mono ?_; rintro e w3 ⟨rfl, hb⟩; have HB3 := Aside0.mk (below_step (below_alloc HB2.out _) hb); have HI3 := Aside0.mk (blk_below (blk_alloc HI2.out _) hb); have k0 := fun o => (blk_cell (blk_alloc HI3.out o) 0).trans rfl; have k1 := fun o => (blk_cell (blk_alloc HI3.out o) 1).trans rfl; have k2 := fun o => (blk_cell (blk_alloc HI3.out o) 2).trans rfl; clear hb)
    | (go_at_call 12; refine (new_bad 500 A0 c0 code A1 c1 data entry r _ (Tab.below HT.out (below_alloc HB3.out _)) (Kd.C_below HC.out (below_alloc HB3.out _)) hc0 (by omega) HH.out HR.out).mono ?_; rintro e w4 ⟨rfl, hb⟩; have HB4 := Aside0.mk (below_step (below_alloc HB3.out _) hb); clear hb)
    | (go_at_call 8; refine (awake_calls _ (Tab.below HT.out HB4.out)).mono ?_; rintro e w5 ⟨rfl, hb⟩; have HB5 := Aside0.mk (below_step HB4.out hb); clear hb))
  go_ret
  exact ⟨rfl, HB5.out⟩
end Go.Proofs.YtekhnkpjeofdpaaDoor.A
