/- emulate.Run: the contract of its call (where the two tables lie). -/
import Derived.Test.YtekhnkpjeofdpaaDoorMacBeh
set_option linter.unusedVariables false
set_option maxRecDepth 100000
namespace Go.Proofs.YtekhnkpjeofdpaaDoor.A
open Go.RowKit Go.Proofs.YtekhnkpjeofdpaaDoorW.PrintWords Go.Proofs.YtekhnkpjeofdpaaDoorW.PrintLast Go.Proofs.YtekhnkpjeofdpaaDoorW.PrintMore
set_option maxHeartbeats 4000000
def runF (k : Nat) : Nat → Mac → Option Mac
  | 0, m => some m
  | n + 1, m => if m.end_ = 0 then (stepF k m).bind (runF k n) else some m
theorem wrap_q (q : Nat) (h : q ≤ 5000000) : wrap64 (q : Int) = (q : Int) := by unfold wrap64; omega
theorem tab_pos {w : World} (h : Tab w) : 1 < w.heap.size := by
  obtain ⟨_, b, hb⟩ := h
  exact blk_lt hb
theorem run_calls (k : Nat) (A0 : Option Addr) (c0 : Nat) (code : List Int) (A1 : Option Addr) (c1 : Nat) (data : List Int) (entry : Int) (n : Nat) (m' : Mac) (w : World) (hT : Tab w) (hC : Kd.C (Kd.int .u64) w A0 code.length code) (hc0 : code.length ≤ c0) (hD : Kd.C (Kd.int .i64) w A1 data.length data) (hc1 : data.length ≤ c1) (hl : code.length ≤ 20000) (hl1 : data.length ≤ 20000) (h : target_Check.f k code data entry = some 0) (hn : n ≤ 5000000) (hr : runF k n (mac0 code data entry) = some m') (ho : m'.out.length ≤ 2000) :
    Calls Tryd.prog 9 #[.agg #[.slice A0 code.length c0, .slice A1 data.length c1, .int .i64 entry], .int .i64 (n : Int)] w fun e w' => ∃ v0, e = .returned (.tuple #[.agg #[v0, .int .i64 (endOf m'), .int .i64 m'.why], .int .i64 0]) ∧ Kd.R (Kd.int .i64) 2 w' w.heap.size (fun _ => True) v0 m'.out ∧ Below w.heap.size w w' := by
  have HT := Aside0.mk hT
  have HC := Aside0.mk hC
  have HD := Aside0.mk hD
  have HH := Aside0.mk h
  have HRN := Aside0.mk hr
  have HO := Aside0.mk ho
  have s1 : decide ((n : Int) < 0) = false := decide_eq_false (by omega)
  have s2 : decide (5000000 < (n : Int)) = false := decide_eq_false (by omega)
  obtain ⟨W2, eW2⟩ : ∃ W, (w.alloc (.cells #[.slice A0 code.length c0, .slice A1 data.length c1, .int .i64 entry] 25)).alloc (.cells #[.slice none 0 0, .int .i64 0, .int .i64 0] 28) = W := ⟨_, rfl⟩
  have hb2 : Below w.heap.size w W2 := eW2 ▸ below_alloc (below_alloc (Below.refl _ _) _) _
  have hz : W2.heap[w.heap.size + 1]? = some (.cells #[.slice none 0 0, .int .i64 0, .int .i64 0] 28 (0, 0)) := eW2 ▸ blk_new2 w _ _
  have hi : W2.heap[w.heap.size]? = some (.cells #[.slice A0 code.length c0, .slice A1 data.length c1, .int .i64 entry] 25 (0, 0)) := eW2 ▸ blk_alloc (blk_new w _) _
  have i0 : W2.cell? ⟨w.heap.size, 0, none⟩ = some (.slice A0 code.length c0) := (blk_cell hi 0).trans rfl
  have i1 : W2.cell? ⟨w.heap.size, 1, none⟩ = some (.slice A1 data.length c1) := (blk_cell hi 1).trans rfl
  have i2 : W2.cell? ⟨w.heap.size, 2, none⟩ = some (.int .i64 entry) := (blk_cell hi 2).trans rfl
  clear hi
  have HB2 := Aside0.mk hb2
  have HZ := Aside0.mk hz
  have HN := Aside0.mk hn
  clear hT hC hD h hr ho hb2 hz hn
  go_enter Tryd.func9, Tryd.ntmps9
  go_wp2_with (go_at_call 12; refine (new_ok k A0 c0 code A1 c1 data entry W2 (Tab.below HT.out HB2.out) (Kd.C_below HC.out HB2.out) hc0 (Kd.C_below HD.out HB2.out) hc1 hl hl1 HH.out).mono ?_; rintro e w3 ⟨g, P, rfl, hI, hP1, hP2, hb3⟩; have HI := Aside0.mk hI; have HP1 := Aside0.mk hP1; have HP2 := Aside0.mk hP2; have HB3 := Aside0.mk hb3; clear hI hP1 hP2 hb3)
  clear eW2 s1 s2 i0 i1 i2
  go_loopg [1] n (fun kq v1 wq => ∃ mq : Mac, v1 = .int .i64 (kq : Int) ∧ Aside0 (runF k kq mq = some m') ∧ Aside0 (IsM 57 P wq g mq) ∧ Aside0 (Chg P w3 wq) ∧ Aside0 (kq ≤ n))
  case atStart => exact ⟨_, rfl, HRN, HI, ⟨Chg.refl _ _⟩, ⟨Nat.le_refl _⟩⟩
  case round =>
    obtain ⟨mq, rfl, HRq, HIq, HCq, HKq⟩ := hrel
    have hsz := HB2.out.size
    have HTq := Aside0.mk (Chg.tab HCq.out (Tab.below HT.out (HB2.out.trans (HB3.out.mono HB2.out.size))) (fun p => by have := HP1.out 0 p; have := tab_pos HT.out; omega) (fun p => by have := HP1.out 1 p; have := tab_pos HT.out; omega))
    have HPq := Aside0.mk (show ∀ k, wr.heap.size ≤ k → P k from fun k hk => HP2.out k (Nat.le_trans HCq.out.size hk))
    have HBq := Aside0.mk (show Below w.heap.size w wr from (HB2.out.trans (HB3.out.mono HB2.out.size)).trans (Chg.below HCq.out (Nat.le_trans hsz HB3.out.size) (fun k hk p => absurd (HP1.out k p) (by omega))))
    have HZq := Aside0.mk (Chg.blk HCq.out (blk_below HZ.out HB3.out) (fun p => absurd (HP1.out _ p) (Nat.not_le.2 (blk_lt HZ.out))))
    have hr0 : wr.cell? ⟨w.heap.size + 1, 0, none⟩ = some (.slice none 0 0) := (blk_cell HZq.out 0).trans rfl
    have hx := HIq.out
    obtain ⟨Ac, cc, bm, vK, vO, hx⟩ := hx
    have c17 := hx.c17
    clear hx
    cases gk with
    | zero =>
      obtain rfl : mq = m' := Option.some.inj HRq.out
      go_wp2_with (go_at_call 14; refine (behaviour_calls (P := P) HIq.out HO.out).mono ?_; rintro e w6 ⟨v0, rfl, hR6, hb6⟩; obtain ⟨Av, cv, ev⟩ := Kd.R_slice hR6; subst ev; have HZ6 := Aside0.mk (blk_below HZq.out hb6); have HR6 := Aside0.mk hR6; have HB6 := Aside0.mk (HBq.out.trans (hb6.mono HBq.out.size)); have HS6 := Aside0.mk HBq.out.size; have t0 := (blk_cell HZ6.out 0).trans rfl; have t1 := (blk_cell HZ6.out 1).trans rfl; have t2 := (blk_cell HZ6.out 2).trans rfl; have y0 := blk_frozen HZ6.out 0; have y1 := blk_frozen HZ6.out 1; have y2 := blk_frozen HZ6.out 2; clear hR6 hb6)
      have Z2 := blk_put (cs' := #[.slice Av mq.out.length cv, .int .i64 0, .int .i64 0]) HZ6.out 0 (.slice Av mq.out.length cv) rfl
      have Z3 := blk_put (cs' := #[.slice Av mq.out.length cv, .int .i64 (endOf mq), .int .i64 0]) Z2 1 (.int .i64 (endOf mq)) rfl
      have Z4 := blk_put (cs' := #[.slice Av mq.out.length cv, .int .i64 (endOf mq), .int .i64 mq.why]) Z3 2 (.int .i64 mq.why) rfl
      have R4 := R_setcell (R_setcell (R_setcell HR6.out HZ6.out (by decide) 0 (.slice Av mq.out.length cv)) Z2 (by decide) 1 (.int .i64 (endOf mq))) Z3 (by decide) 2 (.int .i64 mq.why)
      refine bodyPost_ret (results_ct (fn := Tryd.f9) rfl _ _ (w.heap.size + 1) 28 #[.slice Av mq.out.length cv, .int .i64 (endOf mq), .int .i64 mq.why] (0, 0) _ rfl Z4 Tryd.underlying28 rfl (by kernel_rfl)) rfl ?_
      exact ⟨_, rfl, Kd.R_lower R4 HS6.out, below_set (below_set (below_set HB6.out (Nat.le_succ _)) (Nat.le_succ _)) (Nat.le_succ _)⟩
    | succ q =>
      have hq := HRq.out
      unfold runF at hq
      have p0 : decide (0 < ((q + 1 : Nat) : Int)) = true := decide_eq_true (by omega)
      by_cases ce : mq.end_ = 0
      · rw [if_pos ce] at hq
        have ce0 : (mq.end_ == 0) = true := beq_iff_eq.mpr ce
        obtain ⟨m1, hs1, hq⟩ := Option.bind_eq_some_iff.1 hq
        have HS1 := Aside0.mk hs1
        have HQ := Aside0.mk hq
        clear hs1 hq ce
        go_wp2_with (go_at_call 22; refine (step_calls (P := P) k HIq.out HTq.out HPq.out m1 HS1.out).mono ?_; rintro e w5 ⟨rfl, hi5, hc5⟩; have HI5 := Aside0.mk hi5; have HC5 := Aside0.mk (HCq.out.trans hc5); clear hi5 hc5)
        go_roundg q
        case measure => omega
        case rel => exact ⟨m1, by have hw := wrap_q q (by have := HKq.out; have := HN.out; omega); first | rfl | (simpa using hw), HQ, HI5, HC5, ⟨by have := HKq.out; omega⟩⟩
      · rw [if_neg ce] at hq
        have ce0 : (mq.end_ == 0) = false := beq_eq_false_iff_ne.mpr ce
        obtain rfl : mq = m' := Option.some.inj hq
        clear hq ce
        go_wp2_with (go_at_call 14; refine (behaviour_calls (P := P) HIq.out HO.out).mono ?_; rintro e w6 ⟨v0, rfl, hR6, hb6⟩; obtain ⟨Av, cv, ev⟩ := Kd.R_slice hR6; subst ev; have HZ6 := Aside0.mk (blk_below HZq.out hb6); have HR6 := Aside0.mk hR6; have HB6 := Aside0.mk (HBq.out.trans (hb6.mono HBq.out.size)); have HS6 := Aside0.mk HBq.out.size; have t0 := (blk_cell HZ6.out 0).trans rfl; have t1 := (blk_cell HZ6.out 1).trans rfl; have t2 := (blk_cell HZ6.out 2).trans rfl; have y0 := blk_frozen HZ6.out 0; have y1 := blk_frozen HZ6.out 1; have y2 := blk_frozen HZ6.out 2; clear hR6 hb6)
        have Z2 := blk_put (cs' := #[.slice Av mq.out.length cv, .int .i64 0, .int .i64 0]) HZ6.out 0 (.slice Av mq.out.length cv) rfl
        have Z3 := blk_put (cs' := #[.slice Av mq.out.length cv, .int .i64 (endOf mq), .int .i64 0]) Z2 1 (.int .i64 (endOf mq)) rfl
        have Z4 := blk_put (cs' := #[.slice Av mq.out.length cv, .int .i64 (endOf mq), .int .i64 mq.why]) Z3 2 (.int .i64 mq.why) rfl
        have R4 := R_setcell (R_setcell (R_setcell HR6.out HZ6.out (by decide) 0 (.slice Av mq.out.length cv)) Z2 (by decide) 1 (.int .i64 (endOf mq))) Z3 (by decide) 2 (.int .i64 mq.why)
        refine bodyPost_ret (results_ct (fn := Tryd.f9) rfl _ _ (w.heap.size + 1) 28 #[.slice Av mq.out.length cv, .int .i64 (endOf mq), .int .i64 mq.why] (0, 0) _ rfl Z4 Tryd.underlying28 rfl (by kernel_rfl)) rfl ?_
        exact ⟨_, rfl, Kd.R_lower R4 HS6.out, below_set (below_set (below_set HB6.out (Nat.le_succ _)) (Nat.le_succ _)) (Nat.le_succ _)⟩
end Go.Proofs.YtekhnkpjeofdpaaDoor.A
