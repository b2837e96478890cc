/- emulate: New and Run of an image that is refused, Step of a machine that goes on: contracts (where the two tables lie). -/
import Derived.Test.YtekhnkpjeofdpaaDoorTot
import Derived.Test.YtekhnkpjeofdpaaDoorAwake
set_option linter.unusedVariables false
set_option maxRecDepth 100000
namespace Go.Proofs.YtekhnkpjeofdpaaDoor.A
open Go.RowKit Go.Proofs.YtekhnkpjeofdpaaDoorW.PrintWords Go.Proofs.YtekhnkpjeofdpaaDoorW.PrintLast Go.Proofs.YtekhnkpjeofdpaaDoorW.PrintMore
set_option maxHeartbeats 4000000
theorem new_bad (k : Nat) (A0 : Option Addr) (c0 : Nat) (code : List Int) (A1 : Option Addr) (c1 : Nat) (data : List Int) (entry : Int) (r : Int) (w : World) (hT : Tab w) (hC : Kd.C (Kd.int .u64) w A0 code.length code) (hc0 : code.length ≤ c0) (hl1 : data.length ≤ 9223372036854775807) (h : target_Check.f k code data entry = some r) (hr : r ≠ 0) :
    Calls Tryd.prog 12 #[.agg #[.slice A0 code.length c0, .slice A1 data.length c1, .int .i64 entry]] w fun e w' => e = .returned (.tuple #[.pointer none, .int .i64 r]) ∧ Below w.heap.size w w' := by
  have HT := Aside0.mk hT
  have HC := Aside0.mk hC
  have HH := Aside0.mk h
  have HB := Aside0.mk (Below.refl w.heap.size w)
  have hr0 : (r != 0) = true := bne_iff_ne.mpr hr
  clear hT hC h hr
  go_enter Tryd.func12, Tryd.ntmps12
  go_wp2_with (go_at_call 24; refine (target_Check.calls k A0 c0 code A1 c1 data entry r _ (Tab.below HT.out (below_alloc (Below.refl _ _) _)) (Kd.C_below HC.out (below_alloc (Below.refl _ _) _)) hc0 hl1 HH.out).mono ?_; rintro e w2 ⟨rfl, hb⟩)
  go_ret2
  exact ⟨rfl, below_step (below_alloc (Below.refl _ _) _) hb⟩
theorem run_bad (k : Nat) (A0 : Option Addr) (c0 : Nat) (code : List Int) (A1 : Option Addr) (c1 : Nat) (data : List Int) (entry n : Int) (r : Int) (w : World) (hT : Tab w) (hC : Kd.C (Kd.int .u64) w A0 code.length code) (hc0 : code.length ≤ c0) (hl1 : data.length ≤ 9223372036854775807) (h : target_Check.f k code data entry = some r) (hr : r ≠ 0) :
    Calls Tryd.prog 9 #[.agg #[.slice A0 code.length c0, .slice A1 data.length c1, .int .i64 entry], .int .i64 n] w fun e w' => e = .returned (.tuple #[.agg #[.slice none 0 0, .int .i64 0, .int .i64 0], .int .i64 r]) ∧ Below w.heap.size w w' := by
  have HT := Aside0.mk hT
  have HC := Aside0.mk hC
  have HH := Aside0.mk h
  have HR := Aside0.mk hr
  have hr0 : (r != 0) = true := bne_iff_ne.mpr hr
  obtain ⟨W2, eW2⟩ : ∃ W, (w.alloc (.cells #[.slice A0 code.length c0, .slice A1 data.length c1, .int .i64 entry] 25)).alloc (.cells #[.slice none 0 0, .int .i64 0, .int .i64 0] 28) = W := ⟨_, rfl⟩
  have hb2 : Below w.heap.size w W2 := eW2 ▸ below_alloc (below_alloc (Below.refl _ _) _) _
  have hz : W2.heap[w.heap.size + 1]? = some (.cells #[.slice none 0 0, .int .i64 0, .int .i64 0] 28 (0, 0)) := eW2 ▸ blk_new2 w _ _
  have hi : W2.heap[w.heap.size]? = some (.cells #[.slice A0 code.length c0, .slice A1 data.length c1, .int .i64 entry] 25 (0, 0)) := eW2 ▸ blk_alloc (blk_new w _) _
  have i0 : W2.cell? ⟨w.heap.size, 0, none⟩ = some (.slice A0 code.length c0) := (blk_cell hi 0).trans rfl
  have i1 : W2.cell? ⟨w.heap.size, 1, none⟩ = some (.slice A1 data.length c1) := (blk_cell hi 1).trans rfl
  have i2 : W2.cell? ⟨w.heap.size, 2, none⟩ = some (.int .i64 entry) := (blk_cell hi 2).trans rfl
  clear hi
  have HB2 := Aside0.mk hb2
  have HZ := Aside0.mk hz
  clear hT hC h hr hb2 hz
  go_enter Tryd.func9, Tryd.ntmps9
  go_wp2_with (go_at_call 12; refine (new_bad k A0 c0 code A1 c1 data entry r W2 (Tab.below HT.out HB2.out) (Kd.C_below HC.out HB2.out) hc0 hl1 HH.out HR.out).mono ?_; rintro e w3 ⟨rfl, hb3⟩; have HZ3 := Aside0.mk (blk_below HZ.out hb3); have HB3 := Aside0.mk (HB2.out.trans (hb3.mono HB2.out.size)); have z0 := (blk_cell HZ3.out 0).trans rfl; have z1 := (blk_cell HZ3.out 1).trans rfl; have z2 := (blk_cell HZ3.out 2).trans rfl; have y0 := blk_frozen HZ3.out 0; have y1 := blk_frozen HZ3.out 1; have y2 := blk_frozen HZ3.out 2; clear hb3)
  have Z2 := blk_put (cs' := #[.slice none 0 0, .int .i64 0, .int .i64 0]) HZ3.out 0 (.slice none 0 0) rfl
  have Z3 := blk_put (cs' := #[.slice none 0 0, .int .i64 0, .int .i64 0]) Z2 1 (.int .i64 0) rfl
  have Z4 := blk_put (cs' := #[.slice none 0 0, .int .i64 0, .int .i64 0]) Z3 2 (.int .i64 0) rfl
  refine bodyPost_ret (results_ct (fn := Tryd.f9) rfl _ _ (w.heap.size + 1) 28 #[.slice none 0 0, .int .i64 0, .int .i64 0] (0, 0) _ rfl Z4 Tryd.underlying28 rfl (by kernel_rfl)) rfl ?_
  exact ⟨rfl, below_set (below_set (below_set HB3.out (Nat.le_succ _)) (Nat.le_succ _)) (Nat.le_succ _)⟩
theorem stepx_calls {P : Rg} {w : World} {g : Nat} {m : Mac} (k : Nat) (h : IsM 57 P w g m) (hT : Tab w) (hP : ∀ k, w.heap.size ≤ k → P k) (m' : Mac) (he : m.end_ = 0) (hm : stepF k m = some m') :
    Calls Tryd.prog 13 #[.pointer (some ⟨g, 0, none⟩)] w fun e w' => e = .returned (.tuple #[.bool (m'.end_ == 0), .int .i64 0]) ∧ IsM 57 P w' g m' ∧ Chg P w w' := by
  have HI := Aside0.mk h
  have HT := Aside0.mk hT
  have HP := Aside0.mk hP
  have HM := Aside0.mk hm
  obtain ⟨Ac, cc, bm, vK, vO, hx⟩ := h
  have c17 := hx.c17
  rw [he] at c17
  clear hx hT hP hm
  go_enter Tryd.func13, Tryd.ntmps13
  go_wp2_with (first | (go_at_call 26; refine (none_calls (P := P) (g := g) (m := m) HI.out).mono ?_; rintro e w2 ⟨rfl, hw⟩; obtain rfl : w = w2 := hw.symm) | (go_at_call 22; refine (step_calls (P := P) k HI.out HT.out HP.out m' HM.out).mono ?_; rintro e w5 ⟨rfl, hi5, hc5⟩; have HI5 := Aside0.mk hi5; have HC5 := Aside0.mk hc5; have c5 : w5.cell? ⟨g, 17, none⟩ = some (.int .i64 m'.end_) := (by obtain ⟨_, _, _, _, _, hx⟩ := hi5; exact hx.c17); clear hi5 hc5))
  go_ret2
  exact ⟨rfl, HI5.out, HC5.out⟩
end Go.Proofs.YtekhnkpjeofdpaaDoor.A
