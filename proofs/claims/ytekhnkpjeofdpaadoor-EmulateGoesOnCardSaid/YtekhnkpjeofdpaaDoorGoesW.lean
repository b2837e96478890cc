/- cupellaw23.EmulateGoesOn: the law's walk (where the two tables lie). -/
import Derived.Test.YtekhnkpjeofdpaaDoorGoes2
set_option linter.unusedVariables false
set_option maxRecDepth 100000
namespace Go.Proofs.YtekhnkpjeofdpaaDoor.A
open Go.RowKit Go.Proofs.YtekhnkpjeofdpaaDoorW.PrintWords Go.Proofs.YtekhnkpjeofdpaaDoorW.PrintLast Go.Proofs.YtekhnkpjeofdpaaDoorW.PrintMore
set_option maxHeartbeats 4000000
/-- what the law compares, of an image that is not refused -/
structure Goes (k s t : Nat) (m0 m1 m2 : Mac) : Prop where
  run1 : runF k s m0 = some m1
  run2 : runF k (s + t) m0 = some m2
  out1 : m1.out.length ≤ 2000
  out2 : m2.out.length ≤ 2000
  same : cupelref10_Equal.f 5000 m1.out (endOf m1) m1.why m1.out (endOf m1) m1.why = some true
  agree : cupelref10_Agree.f 5000 m1.out (endOf m1) m1.why m2.out (endOf m2) m2.why = some true
  ended : endOf m1 ≠ 4 → cupelref10_Equal.f 5000 m1.out (endOf m1) m1.why m2.out (endOf m2) m2.why = some true
theorem agree_pre' {xs ys : List Int} (hp : xs <+: ys) (b c d : Int) (hl : xs.length ≤ 2000) : cupelref10_Agree.f 5000 xs 4 b ys c d = some true := by
  have hb := begins_pre hp hl 5000 (by omega)
  have he : ∃ r, cupelref10_Equal.f 5000 xs 4 b ys c d = some r := by
    unfold cupelref10_Equal.f
    rw [hb]
    repeat (first | exact ⟨_, rfl⟩ | split)
  obtain ⟨r, hr⟩ := he
  unfold cupelref10_Agree.f
  rw [hr, Option.bind_some]
  by_cases c : r = true
  · rw [if_pos c]
  · rw [if_neg c, if_pos rfl, hb, Option.bind_some, if_pos rfl]
theorem goes_plain (code data : List Int) (e : Int) (s t : Nat) (hl : code.length ≤ 20000) : ∃ m1 m2, Goes 500 s t (mac0 code data e) m1 m2 := by
  obtain ⟨m1, h1, f1, c1, p1⟩ := run_total 500 (by omega) s (mac0_fine code data e hl)
  obtain ⟨m2, h2, f2, c2, p2⟩ := run_total 500 (by omega) t f1
  refine ⟨m1, m2, h1, by rw [run_add, h1]; exact h2, f1.out, f2.out, equal_refl _ _ _ f1.out 5000 (by omega), ?_, ?_⟩
  · by_cases c : endOf m1 = 4
    · rw [c]; exact agree_pre' p2 _ _ _ f1.out
    · have he : m1.end_ ≠ 0 := fun h0 => c (if_pos h0)
      obtain rfl : m1 = m2 := Option.some.inj ((run_ended 500 t he).symm.trans h2)
      exact agree_refl _ _ _ f1.out 5000 (by omega)
  · intro c
    have he : m1.end_ ≠ 0 := fun h0 => c (if_pos h0)
    obtain rfl : m1 = m2 := Option.some.inj ((run_ended 500 t he).symm.trans h2)
    exact equal_refl _ _ _ f1.out 5000 (by omega)
/-- the law, at an image that is not refused -/
theorem goes_good (A0 : Option Addr) (c0 : Nat) (code : List Int) (A1 : Option Addr) (c1 : Nat) (data : List Int) (entry : Int) (s t : Nat) (m1 m2 : Mac) (w : World) (hT : Tab w) (hC : Kd.C (Kd.int .u64) w A0 code.length code) (hc0 : code.length ≤ c0) (hD : Kd.C (Kd.int .i64) w A1 data.length data) (hc1 : data.length ≤ c1) (hl0 : code.length ≤ 400) (hl1 : data.length ≤ 20000) (hs : s ≤ 1000) (ht : t ≤ 1000) (h : target_Check.f 500 code data entry = some 0) (hg : Goes 500 s t (mac0 code data entry) m1 m2) :
    Calls Tryd.prog 4 #[.agg #[.slice A0 code.length c0, .slice A1 data.length c1, .int .i64 entry], .int .i64 (s : Int), .int .i64 (t : Int)] w fun e w' => e = .returned (.bool true) ∧ Below w.heap.size w w' := by
  have HT := Aside0.mk hT
  have HC := Aside0.mk hC
  have HD := Aside0.mk hD
  have HH := Aside0.mk h
  have HG := Aside0.mk hg
  obtain ⟨W1, eW1⟩ : ∃ W, w.alloc (.cells #[.slice A0 code.length c0, .slice A1 data.length c1, .int .i64 entry] 25) = W := ⟨_, rfl⟩
  have hb1 : Below w.heap.size w W1 := eW1 ▸ below_alloc (Below.refl _ _) _
  have hi : W1.heap[w.heap.size]? = some (.cells #[.slice A0 code.length c0, .slice A1 data.length c1, .int .i64 entry] 25 (0, 0)) := eW1 ▸ blk_new w _
  have HB1 := Aside0.mk hb1
  have HI := Aside0.mk hi
  have b0 : decide (400 < (code.length : Int)) = false := decide_eq_false (by omega)
  have b1 : decide (30000 < (data.length : Int)) = false := decide_eq_false (by omega)
  have b2 : decide ((s : Int) < 0) = false := decide_eq_false (by omega)
  have b3 : decide ((t : Int) < 0) = false := decide_eq_false (by omega)
  have b4 : decide (1000 < (s : Int)) = false := decide_eq_false (by omega)
  have b5 : decide (1000 < (t : Int)) = false := decide_eq_false (by omega)
  obtain ⟨n, hn⟩ : ∃ n : Nat, n = s + t := ⟨_, rfl⟩
  have HW := Aside0.mk (show (s : Int) + (t : Int) = (n : Int) by omega)
  have HR2 := Aside0.mk (show runF 500 n (mac0 code data entry) = some m2 by rw [hn]; exact HG.out.run2)
  have HN := Aside0.mk (show n ≤ 2000 by omega)
  clear hn
  have i0 : W1.cell? ⟨w.heap.size, 0, none⟩ = some (.slice A0 code.length c0) := (blk_cell hi 0).trans rfl
  have i1 : W1.cell? ⟨w.heap.size, 1, none⟩ = some (.slice A1 data.length c1) := (blk_cell hi 1).trans rfl
  have i2 : W1.cell? ⟨w.heap.size, 2, none⟩ = some (.int .i64 entry) := (blk_cell hi 2).trans rfl
  clear hT hC hD h hg hb1 hi
  go_enter Tryd.func4, Tryd.ntmps4
  go_wp2_with (first
    | (go_at_call 9; (with_reducible refine (run_calls 500 A0 c0 code A1 c1 data entry s m1 W1 (Tab.below HT.out HB1.out) (Kd.C_below HC.out HB1.out) hc0 (Kd.C_below HD.out HB1.out) hc1 (by omega) hl1 HH.out (by omega) HG.out.run1 HG.out.out1).mono ?_); rintro e w2 ⟨va, rfl, hra, hb⟩; obtain ⟨Aa, ca, ea⟩ := Kd.R_slice hra; subst ea; have HRA := Aside0.mk hra; have HB2 := Aside0.mk (below_step HB1.out hb); have HI2 := Aside0.mk (blk_below HI.out hb); have j0 := fun o => (blk_cell (blk_alloc HI2.out o) 0).trans rfl; have j1 := fun o => (blk_cell (blk_alloc HI2.out o) 1).trans rfl; have j2 := fun o => (blk_cell (blk_alloc HI2.out o) 2).trans rfl; have XA := Aside0.mk (blk_new w2 (.cells #[.slice Aa m1.out.length ca, .int .i64 (endOf m1), .int .i64 m1.why] 28)); have SA := Aside0.mk (below_alloc (Below.refl w2.heap.size w2) (.cells #[.slice Aa m1.out.length ca, .int .i64 (endOf m1), .int .i64 m1.why] 28)); clear hb hra)
    | (go_at_call 9; rw [HW.out]; refine (run_calls 500 A0 c0 code A1 c1 data entry n m2 _ (Tab.below HT.out (below_alloc HB2.out _)) (Kd.C_below HC.out (below_alloc HB2.out _)) hc0 (Kd.C_below HD.out (below_alloc HB2.out _)) hc1 (by omega) hl1 HH.out (by have := HN.out; omega) HR2.out HG.out.out2).mono ?_; rintro e w3 ⟨vb, rfl, hrb, hb⟩; obtain ⟨Ab, cb, eb⟩ := Kd.R_slice hrb; subst eb; have HRB := Aside0.mk hrb; have HB3 := Aside0.mk (below_step (below_alloc HB2.out _) hb); have HI3 := Aside0.mk (blk_below (blk_alloc HI2.out _) hb); have k0 := fun o => (blk_cell (blk_alloc HI3.out o) 0).trans rfl; have k1 := fun o => (blk_cell (blk_alloc HI3.out o) 1).trans rfl; have k2 := fun o => (blk_cell (blk_alloc HI3.out o) 2).trans rfl; have XA3 := Aside0.mk (blk_below XA.out hb); have SA3 := Aside0.mk (below_step SA.out hb); clear hb hrb)
    | (go_at_call 12; refine (new_ok 500 A0 c0 code A1 c1 data entry _ (Tab.below HT.out (below_alloc HB3.out _)) (Kd.C_below HC.out (below_alloc HB3.out _)) hc0 (Kd.C_below HD.out (below_alloc HB3.out _)) hc1 (by omega) hl1 HH.out).mono ?_; rintro e w4 ⟨g, P, rfl, hI, hP1, hP2, hb⟩; have HM4 := Aside0.mk hI; have HP1 := Aside0.mk (show ∀ k, P k → w3.heap.size + 1 ≤ k from fun k p => by have := hP1 k p; simpa using this); have HP2 := Aside0.mk hP2; have HB4 := Aside0.mk (below_step (below_alloc HB3.out _) hb); have XA4 := Aside0.mk (blk_below (blk_alloc XA3.out _) hb); have XB4 := Aside0.mk (blk_below (blk_new w3 (.cells #[.slice Ab m2.out.length cb, .int .i64 (endOf m2), .int .i64 m2.why] 28)) hb); have SA4 := Aside0.mk (below_step (below_alloc SA3.out _) hb); have SB4 := Aside0.mk (below_step (below_alloc (Below.refl w3.heap.size w3) _) hb); have SZ4 := Aside0.mk (show w3.heap.size + 1 ≤ w4.heap.size by have := hb.size; simpa using this); clear hb hI hP1 hP2))
  clear b0 b1 b2 b3 b4 b5 j0 j1 j2 k0 k1 k2 i0 i1 i2 eW1
  have SZ := Aside0.mk (show w2.heap.size ≤ w3.heap.size from SA3.out.size)
  go_loopg [13, 14] s (fun kq v13 v14 wq => ∃ (mq : Mac) (i : Nat), v13 = .bool (mq.end_ == 0) ∧ v14 = .int .i64 (i : Int) ∧ i + kq = s ∧ Aside0 (runF 500 kq mq = some m1) ∧ Aside0 (IsM 57 P wq g mq) ∧ Aside0 (Chg P w4 wq))
  case atStart => exact ⟨_, 0, rfl, rfl, by omega, ⟨HG.out.run1⟩, HM4, ⟨Chg.refl _ _⟩⟩
  case round =>
    obtain ⟨mq, i, rfl, rfl, hi, HRq, HIq, HCq⟩ := hrel
    have hp1 : ∀ k, k < w3.heap.size + 1 → ¬ P k := fun k hk p => by have := HP1.out k p; omega
    have hwb := Chg.below HCq.out (B := w.heap.size) (by have := HB4.out.size; omega) (fun k hk => hp1 k (by have := HB3.out.size; omega))
    have HBq := Aside0.mk (HB4.out.trans hwb)
    have HTq := Aside0.mk (Tab.below HT.out HBq.out)
    have HPq := Aside0.mk (show ∀ k, wr.heap.size ≤ k → P k from fun k hk => HP2.out k (Nat.le_trans HCq.out.size hk))
    have SAq := Aside0.mk (SA4.out.trans (Chg.below HCq.out (B := w2.heap.size) (by have := SZ4.out; have := SZ.out; omega) (fun k hk => hp1 k (by have := SZ.out; omega))))
    have SBq := Aside0.mk (SB4.out.trans (Chg.below HCq.out (B := w3.heap.size) (by have := SZ4.out; omega) (fun k hk => hp1 k (by omega))))
    have XAq := Aside0.mk (Chg.blk HCq.out XA4.out (hp1 _ (by have := SZ.out; omega)))
    have XBq := Aside0.mk (Chg.blk HCq.out XB4.out (hp1 _ (by omega)))
    clear hp1 hwb
    by_cases cx : mq.end_ = 0 ∧ i < s
    · obtain ⟨ce, ci⟩ := cx
      obtain ⟨q, rfl⟩ : ∃ q, gk = q + 1 := ⟨gk - 1, by omega⟩
      have hq := HRq.out
      unfold runF at hq
      rw [if_pos ce] at hq
      obtain ⟨m', hs1, hq⟩ := Option.bind_eq_some_iff.1 hq
      have d0 : decide ((i : Int) < (s : Int)) = true := decide_eq_true (by omega)
      have d1 : decide (i < s) = true := decide_eq_true ci
      have ce0 : (mq.end_ == 0) = true := beq_iff_eq.mpr ce
      have HS1 := Aside0.mk hs1
      have HQ := Aside0.mk hq
      have HCE := Aside0.mk ce
      have HI' := Aside0.mk hi
      have hwi := Aside0.mk (show wrap64 ((i : Int) + 1) = ((i + 1 : Nat) : Int) by unfold wrap64; omega)
      clear hs1 hq ce hi
      go_wp2_with (go_at_call 13; refine (stepx_calls (P := P) 500 HIq.out HTq.out HPq.out m' HCE.out HS1.out).mono ?_; rintro e w5 ⟨rfl, hi5, hc5⟩; have HI5 := Aside0.mk hi5; have HC5 := Aside0.mk (HCq.out.trans hc5); clear hi5 hc5)
      go_roundg q
      case measure => omega
      case rel => exact ⟨m', i + 1, rfl, by have := hwi.out; first | rfl | (simpa using this), by have := HI'.out; omega, HQ, HI5, HC5⟩
    · have hm : mq = m1 := by
        have hq := HRq.out
        by_cases ce : mq.end_ = 0
        · obtain rfl : gk = 0 := by
            have : ¬ i < s := fun h => cx ⟨ce, h⟩
            omega
          exact Option.some.inj hq
        · rw [run_ended 500 gk ce] at hq
          exact Option.some.inj hq
      have hx : (decide ((i : Int) < (s : Int)) = false ∧ decide (i < s) = false) ∨ (decide ((i : Int) < (s : Int)) = true ∧ decide (i < s) = true ∧ (mq.end_ == 0) = false) := by
        by_cases ci : i < s
        · exact .inr ⟨decide_eq_true (by omega), decide_eq_true ci, beq_eq_false_iff_ne.mpr (fun h => cx ⟨h, ci⟩)⟩
        · exact .inl ⟨decide_eq_false (by omega), decide_eq_false ci⟩
      subst hm
      have he4 : (endOf mq == 4) = true ∨ ((endOf mq == 4) = false ∧ endOf mq ≠ 4) := by
        by_cases c : endOf mq = 4
        · exact .inl (beq_iff_eq.mpr c)
        · exact .inr ⟨beq_eq_false_iff_ne.mpr c, c⟩
      clear cx HRq hi
      rcases hx with ⟨d0, d1⟩ | ⟨d0, d1, ce0⟩ <;> rcases he4 with e4 | ⟨e4, e5⟩
      all_goals
        go_wp2_with (first
          | (go_at_call 14; refine (behaviour_calls (P := P) HIq.out HG.out.out1).mono ?_; rintro e w6 ⟨vc, rfl, hrc, hb⟩; obtain ⟨Ac, cc, ec⟩ := Kd.R_slice hrc; subst ec; have HRC := Aside0.mk hrc; have HB6 := Aside0.mk (below_step HBq.out hb); have XC6 := Aside0.mk (blk_new w6 (.cells #[.slice Ac mq.out.length cc, .int .i64 (endOf mq), .int .i64 mq.why] 28)); have XA6 := Aside0.mk (blk_below XAq.out hb); have XB6 := Aside0.mk (blk_below XBq.out hb); have SA6 := Aside0.mk (below_step SAq.out hb); have SB6 := Aside0.mk (below_step SBq.out hb); have a0 := fun o => (blk_cell (blk_alloc XA6.out o) 0).trans rfl; have a1 := fun o => (blk_cell (blk_alloc XA6.out o) 1).trans rfl; have a2 := fun o => (blk_cell (blk_alloc XA6.out o) 2).trans rfl; have e0 := (blk_cell XC6.out 0).trans rfl; have e1 := (blk_cell XC6.out 1).trans rfl; have e2 := (blk_cell XC6.out 2).trans rfl; clear hb hrc)
          | (go_at_call 11; (with_reducible refine (cupelref10_Equal.calls 5000 Aa ca mq.out (endOf mq) mq.why Ac cc mq.out (endOf mq) mq.why true _ (Kd.C_below (Kd.R_reads' HRA.out).2.2 (below_alloc SA6.out _)) (Kd.R_reads' HRA.out).2.1 (Kd.C_below (Kd.R_reads' HRC.out).2.2 (below_alloc (Below.refl _ _) _)) (Kd.R_reads' HRC.out).2.1 HG.out.same).mono ?_); rintro e w7 ⟨rfl, hb⟩; have HB7 := Aside0.mk (below_step (below_alloc HB6.out _) hb); have XA7 := Aside0.mk (blk_below (blk_alloc XA6.out _) hb); have XB7 := Aside0.mk (blk_below (blk_alloc XB6.out _) hb); have SA7 := Aside0.mk (below_step (below_alloc SA6.out _) hb); have SB7 := Aside0.mk (below_step (below_alloc SB6.out _) hb); have f0 := (blk_cell XA7.out 0).trans rfl; have f1 := (blk_cell XA7.out 1).trans rfl; have f2 := (blk_cell XA7.out 2).trans rfl; have g0 := (blk_cell XB7.out 0).trans rfl; have g1 := (blk_cell XB7.out 1).trans rfl; have g2 := (blk_cell XB7.out 2).trans rfl; clear hb)
          | (go_at_call 15; refine (cupelref10_Agree.calls 5000 Aa ca mq.out (endOf mq) mq.why Ab cb m2.out (endOf m2) m2.why true _ (Kd.C_below (Kd.R_reads' HRA.out).2.2 SA7.out) (Kd.R_reads' HRA.out).2.1 (Kd.C_below (Kd.R_reads' HRB.out).2.2 SB7.out) (Kd.R_reads' HRB.out).2.1 HG.out.agree).mono ?_; rintro e w8 ⟨rfl, hb⟩; have HB8 := Aside0.mk (below_step HB7.out hb); have XA8 := Aside0.mk (blk_below XA7.out hb); have XB8 := Aside0.mk (blk_below XB7.out hb); have SA8 := Aside0.mk (below_step SA7.out hb); have SB8 := Aside0.mk (below_step SB7.out hb); have h0 := (blk_cell XA8.out 0).trans rfl; have h1 := (blk_cell XA8.out 1).trans rfl; have h2 := (blk_cell XA8.out 2).trans rfl; have l0 := (blk_cell XB8.out 0).trans rfl; have l1 := (blk_cell XB8.out 1).trans rfl; have l2 := (blk_cell XB8.out 2).trans rfl; clear hb)
          | (go_at_call 11; refine (cupelref10_Equal.calls 5000 Aa ca mq.out (endOf mq) mq.why Ab cb m2.out (endOf m2) m2.why true _ (Kd.C_below (Kd.R_reads' HRA.out).2.2 SA8.out) (Kd.R_reads' HRA.out).2.1 (Kd.C_below (Kd.R_reads' HRB.out).2.2 SB8.out) (Kd.R_reads' HRB.out).2.1 (HG.out.ended e5)).mono ?_; rintro e w9 ⟨rfl, hb⟩; have HB9 := Aside0.mk (below_step HB8.out hb); clear hb)
          | (go_at_call 8; (first | refine (awake_calls _ (Tab.below HT.out HB9.out)).mono ?_ | refine (awake_calls _ (Tab.below HT.out HB8.out)).mono ?_); rintro e w10 ⟨rfl, hb⟩; (first | have HBx := Aside0.mk (below_step HB9.out hb) | have HBx := Aside0.mk (below_step HB8.out hb)); clear hb))
        go_ret
        exact ⟨rfl, HBx.out⟩
/-- the law, of all inputs -/
theorem law_goes (A0 : Option Addr) (c0 : Nat) (code : List Int) (A1 : Option Addr) (c1 : Nat) (data : List Int) (entry s t : Int) (w : World) (hT : Tab w) (hC : Kd.C (Kd.int .u64) w A0 code.length code) (hc0 : code.length ≤ c0) (hD : Kd.C (Kd.int .i64) w A1 data.length data) (hc1 : data.length ≤ c1) :
    Calls Tryd.prog 4 #[.agg #[.slice A0 code.length c0, .slice A1 data.length c1, .int .i64 entry], .int .i64 s, .int .i64 t] w fun e w' => e = .returned (.bool true) ∧ Below w.heap.size w w' := by
  by_cases h : 400 < (code.length : Int) ∨ 30000 < (data.length : Int) ∨ s < 0 ∨ t < 0 ∨ 1000 < s ∨ 1000 < t
  · exact goes_far A0 c0 code A1 c1 data entry s t w hT h
  · obtain ⟨n, rfl⟩ : ∃ n : Nat, s = n := ⟨s.toNat, by omega⟩
    obtain ⟨m, rfl⟩ : ∃ m : Nat, t = m := ⟨t.toNat, by omega⟩
    obtain ⟨r, hr, h0⟩ := check_total code data entry (by omega) 500 (by omega)
    by_cases c : r = 0
    · subst c
      obtain ⟨m1, m2, hg⟩ := goes_plain code data entry n m (by omega)
      exact goes_good A0 c0 code A1 c1 data entry n m m1 m2 w hT hC hc0 hD hc1 (by omega) (h0 rfl).1 (by omega) (by omega) hr hg
    · exact goes_bad A0 c0 code A1 c1 data entry n m r w hT hC hc0 (by omega) (by omega) (by omega) (by omega) hr c
end Go.Proofs.YtekhnkpjeofdpaaDoor.A
