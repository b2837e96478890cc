/- The reference's machine (cupelref23): Step, a part of its operations: the contract over the same plain machine. -/
import Derived.Test.YtekhnkpjeofdpaaDoorRStep0
import Derived.Test.YtekhnkpjeofdpaaDoorMacStep2
import Derived.Deep.RegionWith
import Derived.StillTailTactics
set_option linter.unusedVariables false
set_option maxRecDepth 100000
namespace Go.Proofs.YtekhnkpjeofdpaaDoor.A
open Go.RowKit Go.Proofs.YtekhnkpjeofdpaaDoorW.PrintWords Go.Proofs.YtekhnkpjeofdpaaDoorW.PrintLast Go.Proofs.YtekhnkpjeofdpaaDoorW.PrintMore
set_option maxHeartbeats 40000000
theorem rstep_X {P : Rg} {w : World} {g : Nat} {m : Mac} (k : Nat) (h : IsM 46 P w g m) (hP : ∀ k, w.heap.size ≤ k → P k) (m' : Mac) (hcl : m.code.length ≤ 20000) (hdep : m.depth = (m.kept.length : Int)) (hset : ∀ t, cupelref20_Decode.f (k + 20) m.code m.at_ = some t → t.2.2.2.2.2.2 = 0 ∧ (t.1 = 1 ∨ t.1 = 2 ∨ t.1 = 3 ∨ t.1 = 4 ∨ t.1 = 5 ∨ t.1 = 6 ∨ t.1 = 7 ∨ t.1 = 8 ∨ t.1 = 9 ∨ t.1 = 10 ∨ t.1 = 12 ∨ t.1 = 13 ∨ t.1 = 14)) (hm : stepF (k + 21) m = some m') :
    Calls Tryd.prog 17 #[.pointer (some ⟨g, 0, none⟩)] w fun e w' => e = .returned (.tuple #[]) ∧ IsM 46 P w' g m' ∧ Chg P w w' := by
  obtain ⟨t, ht, hm⟩ := Option.bind_eq_some_iff.1 hm
  obtain ⟨t', ht', hdc⟩ := decode_total (k + 21) m.code hcl m.at_ (by omega)
  obtain rfl : t = t' := Option.some.inj (ht.symm.trans ht')
  rw [← decode_ref k k m.code hcl m.at_] at ht
  clear ht'
  obtain ⟨d1, d2, d3, d4, d5, d6, d7⟩ := t
  have HPT := Aside0.mk (show d7 = 0 → (1 ≤ d1 ∧ d1 ≤ 14 ∨ 16 ≤ d1 ∧ d1 ≤ 29 ∨ 36 ≤ d1 ∧ d1 ≤ 49) from fun h => (hdc h).1.1)
  clear hdc
  obtain ⟨Ac, cc, bm, vK, vO, h⟩ := h
  replace hm : (if d7 = 0 then step2 (k + 21) { m with steps := wrap64 (m.steps + 1), at_ := d6 } d1 d2 d3 d4 d5 else some (Mac.trap { m with steps := wrap64 (m.steps + 1) } 11)) = some m' := hm
  have HX := Aside0.mk hm
  clear hm
  obtain ⟨W1, eW1⟩ : ∃ W1, w.setCell ⟨g, 14, none⟩ (.int .i64 (wrap64 (m.steps + 1))) = W1 := ⟨_, rfl⟩
  have h1 := h.set14 (wrap64 (m.steps + 1))
  have hC1 := (Chg.refl P w).setCell (a := ⟨g, 14, none⟩) h.pg (.int .i64 (wrap64 (m.steps + 1)))
  rw [eW1] at h1 hC1
  have HH := Aside0.mk h
  have k14 := h.c14
  have f14 := h.fz 14
  have H1 := Aside0.mk h1
  have HC1 := Aside0.mk hC1
  have HD := Aside0.mk ht
  have c0 : W1.cell? ⟨g, 0, none⟩ = some (.slice Ac m.code.length cc) := h1.c0
  have c12 : W1.cell? ⟨g, 12, none⟩ = some (.int .i64 m.at_) := h1.c12
  have hcode := Aside0.mk (show Kd.C (Kd.int .u64) W1 Ac m.code.length m.code from H1.out.code)
  have HP := Aside0.mk hP
  have HDEP := Aside0.mk hdep
  have HSET := Aside0.mk (show d7 = 0 ∧ (d1 = 1 ∨ d1 = 2 ∨ d1 = 3 ∨ d1 = 4 ∨ d1 = 5 ∨ d1 = 6 ∨ d1 = 7 ∨ d1 = 8 ∨ d1 = 9 ∨ d1 = 10 ∨ d1 = 12 ∨ d1 = 13 ∨ d1 = 14) from hset _ ht)
  clear hset
  clear h h1 hC1 ht hP hdep
  go_enter Tryd.func17, Tryd.ntmps17
  go_upto_region 1 with (fail)
  clear eW1 k14 f14
  go_cut [2, 3, 4] (fun v2 v3 v4 wc => ∃ gb : Nat, v2 = .pointer (some ⟨gb, 0, none⟩) ∧ v3 = .int .i64 d6 ∧ v4 = .int .i64 d7 ∧ Aside0 (IsMx 46 P wc g { m with steps := wrap64 (m.steps + 1) } Ac cc bm vK vO) ∧ Aside0 (wc.heap[gb]? = some (.cells #[.int .i64 d1, .int .i64 d2, .int .i64 d3, .int .i64 d4, .int .i64 d5] 67 (0, 0))) ∧ Aside0 (gb ≠ g) ∧ Aside0 (Chg P w wc))
  case first => as_aux_lemma =>
    have c0a := fun o => (H1.out.alloc o).c0
    have c12a := fun o => (H1.out.alloc o).c12
    go_region_with (go_at_call 29; refine (cupelref20_Decode.calls (k + 20) Ac cc m.code m.at_ d1 d2 d3 d4 d5 d6 d7 _ (Kd.C_below hcode.out (by repeat (first | (with_reducible exact Below.refl _ _) | (with_reducible apply below_alloc) | (with_reducible apply pw_below_drewN) | (with_reducible apply below_drew1)))) H1.out.ccap HD.out).mono ?_; rintro e w2 ⟨rfl, hb2⟩; have HB2 := Aside0.mk (below_step (by repeat (first | (with_reducible exact Below.refl _ _) | (with_reducible apply below_alloc) | (with_reducible apply pw_below_drewN) | (with_reducible apply below_drew1))) hb2 : Below W1.heap.size W1 w2); try (have HZ := Aside0.mk (blk_below (w := (W1.alloc (.cells #[.int .i64 0, .int .i64 0, .int .i64 0, .int .i64 0, .int .i64 0] 67)).drew) (g := W1.heap.size) (blk_drew (blk_new W1 (.cells #[.int .i64 0, .int .i64 0, .int .i64 0, .int .i64 0, .int .i64 0] 67))) hb2); have z0 := (blk_cell HZ.out 0).trans rfl; have y0 := blk_frozen HZ.out 0; have z1 := (blk_cell HZ.out 1).trans rfl; have y1 := blk_frozen HZ.out 1; have z2 := (blk_cell HZ.out 2).trans rfl; have y2 := blk_frozen HZ.out 2; have z3 := (blk_cell HZ.out 3).trans rfl; have y3 := blk_frozen HZ.out 3; have z4 := (blk_cell HZ.out 4).trans rfl; have y4 := blk_frozen HZ.out 4); clear hb2)
    all_goals
      try go_wp2
      try simp only [Act.put, List.setIfInBounds_toArray, List.set_cons_zero, List.set_cons_succ, List.getElem_toArray, List.getElem_cons_succ, List.getElem_cons_zero]
      go_meet
      case rel => first | exact ⟨_, rfl, rfl, rfl, ⟨H1.out.below (by repeat (first | (with_reducible exact HB2.out) | (with_reducible apply below_alloc) | (with_reducible apply pw_below_drewN) | (with_reducible apply below_drew1) | refine below_set ?_ (Nat.le_refl _)))⟩, ⟨by (with_reducible repeat (first | refine blk_drewN ?_ _ | refine blk_drew ?_)); exact blk_new _ _⟩, ⟨Nat.ne_of_gt (Nat.lt_of_lt_of_le (show g < W1.heap.size from blk_lt H1.out.blk) HB2.out.size)⟩, ⟨HC1.out.trans (Chg.of_below (by repeat (first | (with_reducible exact HB2.out) | (with_reducible apply below_alloc) | (with_reducible apply pw_below_drewN) | (with_reducible apply below_drew1) | refine below_set ?_ (Nat.le_refl _))))⟩⟩ | exact ⟨_, rfl, rfl, rfl, ⟨H1.out.below (by repeat (first | (with_reducible exact HB2.out) | (with_reducible apply below_alloc) | (with_reducible apply pw_below_drewN) | (with_reducible apply below_drew1) | refine below_set ?_ (Nat.le_refl _)))⟩, ⟨by (with_reducible repeat (first | refine blk_drewN ?_ _ | refine blk_drew ?_ | refine blk_alloc ?_ _)); refine blk_put (cs := #[.int .i64 d1, .int .i64 d2, .int .i64 d3, .int .i64 d4, .int .i64 0]) ?_ 4 _ rfl; (with_reducible repeat (first | refine blk_drewN ?_ _ | refine blk_drew ?_ | refine blk_alloc ?_ _)); refine blk_put (cs := #[.int .i64 d1, .int .i64 d2, .int .i64 d3, .int .i64 0, .int .i64 0]) ?_ 3 _ rfl; (with_reducible repeat (first | refine blk_drewN ?_ _ | refine blk_drew ?_ | refine blk_alloc ?_ _)); refine blk_put (cs := #[.int .i64 d1, .int .i64 d2, .int .i64 0, .int .i64 0, .int .i64 0]) ?_ 2 _ rfl; (with_reducible repeat (first | refine blk_drewN ?_ _ | refine blk_drew ?_ | refine blk_alloc ?_ _)); refine blk_put (cs := #[.int .i64 d1, .int .i64 0, .int .i64 0, .int .i64 0, .int .i64 0]) ?_ 1 _ rfl; (with_reducible repeat (first | refine blk_drewN ?_ _ | refine blk_drew ?_ | refine blk_alloc ?_ _)); refine blk_put (cs := #[.int .i64 0, .int .i64 0, .int .i64 0, .int .i64 0, .int .i64 0]) ?_ 0 _ rfl; (with_reducible repeat (first | refine blk_drewN ?_ _ | refine blk_drew ?_ | refine blk_alloc ?_ _)); exact HZ.out⟩, ⟨Nat.ne_of_gt (blk_lt H1.out.blk)⟩, ⟨HC1.out.trans (Chg.of_below (by repeat (first | (with_reducible exact HB2.out) | (with_reducible apply below_alloc) | (with_reducible apply pw_below_drewN) | (with_reducible apply below_drew1) | refine below_set ?_ (Nat.le_refl _))))⟩⟩
  case rest =>
    clear hcode c0 c12 HD H1 HC1
    obtain ⟨gb, rfl, rfl, rfl, HM, HB, HN, HC⟩ := hcut
    by_cases e7 : d7 = 0
    · subst e7
      have hX := HX.out
      rw [if_pos rfl] at hX
      obtain ⟨m2, em2⟩ : ∃ m2 : Mac, { m with steps := wrap64 (m.steps + 1), at_ := d6 } = m2 := ⟨_, rfl⟩
      rw [em2] at hX
      have HAT := Aside0.mk (show m2.at_ = d6 by rw [← em2])
      have HDEP2 := Aside0.mk (show m2.depth = (m2.kept.length : Int) by rw [← em2]; exact HDEP.out)
      unfold step2 at hX
      by_cases cr : 1 ≤ d1 ∧ 0 ≤ d2 ∧ d2 < 10 ∧ 0 ≤ d3 ∧ d3 < 10 ∧ 0 ≤ d4 ∧ d4 < 10 ∧ m2.out.length ≤ 2000 ∧ m2.kept.length ≤ 64
      · rw [if_pos cr] at hX
        obtain ⟨p1, p2, p3, p4, p5, p6, p7, p8, p9⟩ := cr
        obtain ⟨op, rfl⟩ : ∃ n : Nat, d1 = (n : Int) := ⟨d1.toNat, by omega⟩
        obtain ⟨D, rfl⟩ : ∃ n : Nat, d2 = (n : Int) := ⟨d2.toNat, by omega⟩
        obtain ⟨A, rfl⟩ : ∃ n : Nat, d3 = (n : Int) := ⟨d3.toNat, by omega⟩
        obtain ⟨B, rfl⟩ : ∃ n : Nat, d4 = (n : Int) := ⟨d4.toNat, by omega⟩
        simp only [Int.toNat_natCast] at hX
        obtain ⟨W4, eW4⟩ : ∃ W, wc.setCell ⟨g, 12, none⟩ (.int .i64 d6) = W := ⟨_, rfl⟩
        have h4 : IsMx 46 P W4 g m2 Ac cc bm vK vO := em2 ▸ eW4 ▸ HM.out.set12 d6
        have hB4 := blk_far (p := ⟨g, 12, none⟩) HB.out HN.out (.int .i64 d6)
        have hC4 := HC.out.setCell (a := ⟨g, 12, none⟩) HM.out.pg (.int .i64 d6)
        rw [eW4] at hB4 hC4
        have k12 : wc.cell? ⟨g, 12, none⟩ = some (.int .i64 m.at_) := HM.out.c12
        have f12 := HM.out.fz 12
        have H4 := Aside0.mk h4
        have HB4 := Aside0.mk hB4
        have HC4 := Aside0.mk hC4
        have b0 := (blk_cell hB4 0).trans rfl
        have b2 := (blk_cell hB4 2).trans rfl
        have kA := h4.creg A (by omega)
        have q1 : (0 : Int) ≤ (A : Int) := by omega
        have q2 : (A : Int) < 10 := by omega
        have HX4 := Aside0.mk hX
        have HP1 := Aside0.mk (show (1 ≤ op ∧ op ≤ 14 ∨ 16 ≤ op ∧ op ≤ 29 ∨ 36 ≤ op ∧ op ≤ 49) by have := HPT.out rfl; omega)
        have HA := Aside0.mk (show A < 10 by omega)
        have HD := Aside0.mk (show D < 10 by omega)
        have HBB := Aside0.mk (show B < 10 by omega)
        have HP8 := Aside0.mk p8
        have HP9 := Aside0.mk p9
        clear hX h4 hB4 hC4 HX p1 p2 p3 p4 p5 p6 p7 p8 p9 em2 HDEP
        go_wp2
        clear eW4 k12 f12
        go_quiet (fail)
        obtain ⟨W5, eW5⟩ : ∃ W, W4.drewN nq = W := ⟨_, rfl⟩
        have H5 := Aside0.mk (show IsMx 46 P W5 g m2 Ac cc bm vK vO from eW5 ▸ H4.out.drewN nq)
        have HB5 := Aside0.mk (show W5.heap[gb]? = some (.cells #[.int .i64 (op : Int), .int .i64 (D : Int), .int .i64 (A : Int), .int .i64 (B : Int), .int .i64 d5] 67 (0, 0)) from eW5 ▸ blk_drewN HB4.out nq)
        have HC5 := Aside0.mk (show Chg P w W5 from eW5 ▸ HC4.out.drewN nq)
        rw [eW5]
        clear eW5 b0 b2 kA H4 HB4 HC4
        have b0 := (blk_cell HB5.out 0).trans rfl
        obtain ⟨AK, cK, eK⟩ : ∃ A c, vK = .slice A m2.kept.length c := Kd.R_slice H5.out.kept
        subst eK
        obtain ⟨AO, cO, eO⟩ : ∃ A c, vO = .slice A m2.out.length c := Kd.R_slice H5.out.out
        subst eO
        have b1 := (blk_cell HB5.out 1).trans rfl
        have b3 := (blk_cell HB5.out 3).trans rfl
        have b4 := (blk_cell HB5.out 4).trans rfl
        have hD := HD.out
        have hB := HBB.out
        have kd := H5.out.creg D hD
        have fd := H5.out.fz (2 + D)
        have kb := H5.out.creg B hB
        have q3 : (0 : Int) ≤ (D : Int) := by omega
        have q4 : (D : Int) < 10 := by omega
        have q5 : (0 : Int) ≤ (B : Int) := by omega
        have q6 : (B : Int) < 10 := by omega
        have hX := HX4.out
        have c15 : (op : Int) < 15 := by have := HSET.out.2; omega
        rw [if_pos c15] at hX
        obtain rfl := Option.some.inj hX
        have hop : op = 1 ∨ op = 2 ∨ op = 3 ∨ op = 4 ∨ op = 5 ∨ op = 6 ∨ op = 7 ∨ op = 8 ∨ op = 9 ∨ op = 10 ∨ op = 12 ∨ op = 13 ∨ op = 14 := by have := HSET.out.2; omega
        clear hX HX4 c15 HSET
        rcases hop with rfl | rfl | rfl | rfl | rfl | rfl | rfl | rfl | rfl | rfl | rfl | rfl | rfl
        · go_wp2
          go_region
          have h6 := Aside0.mk ((H5.out.setReg D hD (reg m2 A)).drew)
          have c6 := Aside0.mk ((HC5.out.setCell (a := ⟨g, 2 + D, none⟩) H5.out.pg (.int .i64 (reg m2 A))).drew)
          have k15 := h6.out.c15
          have k13 := h6.out.c13
          have f13 := h6.out.fz 13
          go_wp2
          (first | go_end0 | refine bodyPost_ret (results_none rfl _ _ _) rfl ?_)
          exact ⟨rfl, ⟨_, _, _, _, _, h6.out.set13 _⟩, c6.out.setCell (a := ⟨g, 13, none⟩) H5.out.pg _⟩
        · go_wp2
          go_region
          have h6 := Aside0.mk ((H5.out.setReg D hD d5).drew)
          have c6 := Aside0.mk ((HC5.out.setCell (a := ⟨g, 2 + D, none⟩) H5.out.pg (.int .i64 d5)).drew)
          have k15 := h6.out.c15
          have k13 := h6.out.c13
          have f13 := h6.out.fz 13
          go_wp2
          (first | go_end0 | refine bodyPost_ret (results_none rfl _ _ _) rfl ?_)
          exact ⟨rfl, ⟨_, _, _, _, _, h6.out.set13 _⟩, c6.out.setCell (a := ⟨g, 13, none⟩) H5.out.pg _⟩
        · go_wp2
          go_region
          have h6 := Aside0.mk ((H5.out.setReg D hD d5).drew)
          have c6 := Aside0.mk ((HC5.out.setCell (a := ⟨g, 2 + D, none⟩) H5.out.pg (.int .i64 d5)).drew)
          have k15 := h6.out.c15
          have k13 := h6.out.c13
          have f13 := h6.out.fz 13
          go_wp2
          (first | go_end0 | refine bodyPost_ret (results_none rfl _ _ _) rfl ?_)
          exact ⟨rfl, ⟨_, _, _, _, _, h6.out.set13 _⟩, c6.out.setCell (a := ⟨g, 13, none⟩) H5.out.pg _⟩
        · by_cases cz : 0 ≤ wrap64 (reg m2 A + d5) ∧ wrap64 (reg m2 A + d5) < 20000
          · have ex : execF m2 4 D A B d5 = { m2 with regs := m2.regs.set D (m2.mem.getD (wrap64 (reg m2 A + d5)).toNat 0) } := if_pos cz
            obtain ⟨v, hv⟩ : ∃ v : Nat, wrap64 (reg m2 A + d5) = (v : Int) := ⟨(wrap64 (reg m2 A + d5)).toNat, by omega⟩
            rw [hv] at ex cz
            rw [Int.toNat_natCast] at ex
            obtain ⟨y, hy⟩ : ∃ y, m2.mem.getD v 0 = y := ⟨_, rfl⟩
            rw [hy] at ex
            have HY := Aside0.mk hy
            clear hy
            have HV := Aside0.mk (show v < 20000 by omega)
            have v1 : (0 : Int) ≤ (v : Int) := by omega
            have v2 : (v : Int) < 20000 := by omega
            clear cz
            have b2 := (blk_cell HB5.out 2).trans rfl
            go_wp2_with (go_at_call 31; refine (place_in ⟨_, _, _, _, _, H5.out⟩ _ _ _ _ A HA.out v hv HV.out).mono ?_; rintro e w6 ⟨rfl, hb⟩; have H6 := Aside0.mk (H5.out.below hb); have HB6 := Aside0.mk (blk_below HB5.out hb); have HC6 := Aside0.mk (HC5.out.trans (Chg.of_below hb)); have n1 := (blk_cell HB6.out 1).trans rfl; have n2 := H6.out.c1; have n3 := H6.out.cm v HV.out; rw [HY.out] at n3; have n4 := H6.out.creg D hD; have n5 := H6.out.fz (2 + D); clear hb)
            go_region
            have h6 := Aside0.mk ((H6.out.setReg D hD y).drew)
            have c6 := Aside0.mk ((HC6.out.setCell (a := ⟨g, 2 + D, none⟩) H5.out.pg (.int .i64 y)).drew)
            have k15 := h6.out.c15
            have k13 := h6.out.c13
            have f13 := h6.out.fz 13
            go_wp2
            (first | go_end0 | refine bodyPost_ret (results_none rfl _ _ _) rfl ?_)
            exact ⟨rfl, by first | exact ⟨_, _, _, _, _, h6.out.set13 _⟩ | (rw [ex]; exact ⟨_, _, _, _, _, h6.out.set13 _⟩), c6.out.setCell (a := ⟨g, 13, none⟩) H5.out.pg _⟩
          · have ex : execF m2 4 D A B d5 = m2.trap 10 := if_neg cz
            have HV := Aside0.mk (word_cases _ cz)
            clear cz
            have b2 := (blk_cell HB5.out 2).trans rfl
            go_wp2_with (go_at_call 31; refine (place_out ⟨_, _, _, _, _, H5.out⟩ _ _ _ _ A HA.out HV.out).mono ?_; rintro e w6 ⟨rfl, hi, hc⟩; have c6 := Aside0.mk (HC5.out.trans hc); obtain ⟨Ac2, cc2, bm2, vK2, vO2, h7⟩ := hi; obtain ⟨AK2, cK2, eK2⟩ := Kd.R_slice h7.kept; subst eK2; have h6 := Aside0.mk h7; have k15 := h7.c15; have k13 := h7.c13; have f13 := h7.fz 13; clear h7 hc)
            (first | go_end0 | refine bodyPost_ret (results_none rfl _ _ _) rfl ?_)
            exact ⟨rfl, by first | exact ⟨_, _, _, _, _, h6.out.set13 _⟩ | (rw [ex]; exact ⟨_, _, _, _, _, h6.out.set13 _⟩), c6.out.setCell (a := ⟨g, 13, none⟩) H5.out.pg _⟩
        · by_cases cz : 0 ≤ wrap64 (reg m2 A + d5) ∧ wrap64 (reg m2 A + d5) < 20000
          · have ex : execF m2 5 D A B d5 = { m2 with mem := m2.mem.set (wrap64 (reg m2 A + d5)).toNat (reg m2 B) } := if_pos cz
            obtain ⟨v, hv⟩ : ∃ v : Nat, wrap64 (reg m2 A + d5) = (v : Int) := ⟨(wrap64 (reg m2 A + d5)).toNat, by omega⟩
            rw [hv] at ex cz
            rw [Int.toNat_natCast] at ex
            have HV := Aside0.mk (show v < 20000 by omega)
            have v1 : (0 : Int) ≤ (v : Int) := by omega
            have v2 : (v : Int) < 20000 := by omega
            clear cz
            have b2 := (blk_cell HB5.out 2).trans rfl
            go_wp2_with (go_at_call 31; refine (place_in ⟨_, _, _, _, _, H5.out⟩ _ _ _ _ A HA.out v hv HV.out).mono ?_; rintro e w6 ⟨rfl, hb⟩; have H6 := Aside0.mk (H5.out.below hb); have HB6 := Aside0.mk (blk_below HB5.out hb); have HC6 := Aside0.mk (HC5.out.trans (Chg.of_below hb)); have n1 := (blk_cell HB6.out 3).trans rfl; have n2 := H6.out.c1; have n3 := H6.out.cm v HV.out; have n4 := H6.out.creg B hB; have n5 := H6.out.fm v; clear hb)
            go_region
            have h6 := Aside0.mk ((H6.out.setMem v (reg m2 B)).drew)
            have c6 := Aside0.mk ((HC6.out.setCell (a := ⟨bm, v, none⟩) H5.out.pb (.int .i64 (reg m2 B))).drew)
            have k15 := h6.out.c15
            have k13 := h6.out.c13
            have f13 := h6.out.fz 13
            go_wp2
            (first | go_end0 | refine bodyPost_ret (results_none rfl _ _ _) rfl ?_)
            exact ⟨rfl, by first | exact ⟨_, _, _, _, _, h6.out.set13 _⟩ | (rw [ex]; exact ⟨_, _, _, _, _, h6.out.set13 _⟩), c6.out.setCell (a := ⟨g, 13, none⟩) H5.out.pg _⟩
          · have ex : execF m2 5 D A B d5 = m2.trap 10 := if_neg cz
            have HV := Aside0.mk (word_cases _ cz)
            clear cz
            have b2 := (blk_cell HB5.out 2).trans rfl
            go_wp2_with (go_at_call 31; refine (place_out ⟨_, _, _, _, _, H5.out⟩ _ _ _ _ A HA.out HV.out).mono ?_; rintro e w6 ⟨rfl, hi, hc⟩; have c6 := Aside0.mk (HC5.out.trans hc); obtain ⟨Ac2, cc2, bm2, vK2, vO2, h7⟩ := hi; obtain ⟨AK2, cK2, eK2⟩ := Kd.R_slice h7.kept; subst eK2; have h6 := Aside0.mk h7; have k15 := h7.c15; have k13 := h7.c13; have f13 := h7.fz 13; clear h7 hc)
            (first | go_end0 | refine bodyPost_ret (results_none rfl _ _ _) rfl ?_)
            exact ⟨rfl, by first | exact ⟨_, _, _, _, _, h6.out.set13 _⟩ | (rw [ex]; exact ⟨_, _, _, _, _, h6.out.set13 _⟩), c6.out.setCell (a := ⟨g, 13, none⟩) H5.out.pg _⟩
        · have k12 := H5.out.c12
          have f12 := H5.out.fz 12
          have h6 := Aside0.mk (H5.out.set12 d5)
          have c6 := Aside0.mk (HC5.out.setCell (a := ⟨g, 12, none⟩) H5.out.pg (.int .i64 d5))
          have k15 := h6.out.c15
          have k13 := h6.out.c13
          have f13 := h6.out.fz 13
          go_wp2
          (first | go_end0 | refine bodyPost_ret (results_none rfl _ _ _) rfl ?_)
          exact ⟨rfl, ⟨_, _, _, _, _, h6.out.set13 _⟩, c6.out.setCell (a := ⟨g, 13, none⟩) H5.out.pg _⟩
        · by_cases cz : reg m2 A = 0
          · have e0 : (reg m2 A == 0) = true := beq_iff_eq.mpr cz
            have ex : execF m2 7 D A B d5 = { m2 with at_ := d5 } := if_pos cz
            clear cz
            have k12 := H5.out.c12
            have f12 := H5.out.fz 12
            have h6 := Aside0.mk (H5.out.set12 d5)
            have c6 := Aside0.mk (HC5.out.setCell (a := ⟨g, 12, none⟩) H5.out.pg (.int .i64 d5))
            have k15 := h6.out.c15
            have k13 := h6.out.c13
            have f13 := h6.out.fz 13
            go_wp2
            (first | go_end0 | refine bodyPost_ret (results_none rfl _ _ _) rfl ?_)
            exact ⟨rfl, by first | exact ⟨_, _, _, _, _, h6.out.set13 _⟩ | (rw [ex]; exact ⟨_, _, _, _, _, h6.out.set13 _⟩), c6.out.setCell (a := ⟨g, 13, none⟩) H5.out.pg _⟩
          · have e0 : (reg m2 A == 0) = false := beq_eq_false_iff_ne.mpr cz
            have ex : execF m2 7 D A B d5 = m2 := if_neg cz
            clear cz
            have h6 := Aside0.mk (H5.out)
            have c6 := Aside0.mk (HC5.out)
            have k15 := h6.out.c15
            have k13 := h6.out.c13
            have f13 := h6.out.fz 13
            go_wp2
            (first | go_end0 | refine bodyPost_ret (results_none rfl _ _ _) rfl ?_)
            exact ⟨rfl, by first | exact ⟨_, _, _, _, _, h6.out.set13 _⟩ | (rw [ex]; exact ⟨_, _, _, _, _, h6.out.set13 _⟩), c6.out.setCell (a := ⟨g, 13, none⟩) H5.out.pg _⟩
        · obtain ⟨m6, em6⟩ : ∃ m6, (if reg m2 A < 0 then m2.trap 2 else if reg m2 A ≥ reg m2 B then m2.trap 2 else m2) = m6 := ⟨_, rfl⟩
          have ex : execF m2 8 D A B d5 = m6 := em6
          have hwn := Aside0.mk (fun (W : World) (h : IsM 46 P W g m2) => em6 ▸ within_calls h (reg m2 A) (reg m2 B))
          clear em6
          go_wp2
          go_region_with (go_at_call 32; refine (hwn.out _ ⟨_, _, _, _, _, H5.out.drew⟩).mono ?_; rintro e w6 ⟨rfl, hi, hc⟩; have c6 := Aside0.mk (HC5.out.drew.trans hc); obtain ⟨Ac2, cc2, bm2, vK2, vO2, h7⟩ := hi; obtain ⟨AK2, cK2, eK2⟩ := Kd.R_slice h7.kept; subst eK2; have h6 := Aside0.mk h7; have k15 := h7.c15; have k13 := h7.c13; have f13 := h7.fz 13; clear h7 hc)
          all_goals
            go_wp2
            (first | go_end0 | refine bodyPost_ret (results_none rfl _ _ _) rfl ?_)
            exact ⟨rfl, by first | exact ⟨_, _, _, _, _, h6.out.set13 _⟩ | (rw [ex]; exact ⟨_, _, _, _, _, h6.out.set13 _⟩), c6.out.setCell (a := ⟨g, 13, none⟩) H5.out.pg _⟩
        · obtain ⟨m6, em6⟩ : ∃ m6, (if reg m2 A < 0 then m2.trap 2 else if reg m2 A ≥ d5 then m2.trap 2 else m2) = m6 := ⟨_, rfl⟩
          have ex : execF m2 9 D A B d5 = m6 := em6
          have hwn := Aside0.mk (fun (W : World) (h : IsM 46 P W g m2) => em6 ▸ within_calls h (reg m2 A) d5)
          clear em6
          go_wp2_with (go_at_call 32; refine (hwn.out _ ⟨_, _, _, _, _, H5.out⟩).mono ?_; rintro e w6 ⟨rfl, hi, hc⟩; have c6 := Aside0.mk (HC5.out.trans hc); obtain ⟨Ac2, cc2, bm2, vK2, vO2, h7⟩ := hi; obtain ⟨AK2, cK2, eK2⟩ := Kd.R_slice h7.kept; subst eK2; have h6 := Aside0.mk h7; have k15 := h7.c15; have k13 := h7.c13; have f13 := h7.fz 13; clear h7 hc)
          (first | go_end0 | refine bodyPost_ret (results_none rfl _ _ _) rfl ?_)
          exact ⟨rfl, by first | exact ⟨_, _, _, _, _, h6.out.set13 _⟩ | (rw [ex]; exact ⟨_, _, _, _, _, h6.out.set13 _⟩), c6.out.setCell (a := ⟨g, 13, none⟩) H5.out.pg _⟩
        · by_cases c : m2.out.length = 2000
          · have ex : execF m2 10 D A B d5 = { m2 with end_ := 4 } := if_pos c
            have c1 : ((m2.out.length : Int) == 2000) = true := beq_iff_eq.mpr (by omega)
            have k16 := H5.out.c16
            have k17 := H5.out.c17
            have f17 := H5.out.fz 17
            have h6 := Aside0.mk (H5.out.set17 4)
            have c6 := Aside0.mk (HC5.out.setCell (a := ⟨g, 17, none⟩) H5.out.pg (.int .i64 4))
            clear c
            go_wp2
            (first | go_end0 | refine bodyPost_ret (results_none rfl _ _ _) rfl ?_)
            exact ⟨rfl, by rw [withDepth_id _ (by first | exact HDEP2.out | (rw [ex]; exact HDEP2.out))]; first | exact ⟨_, _, _, _, _, h6.out⟩ | (rw [ex]; exact ⟨_, _, _, _, _, h6.out⟩), c6.out⟩
          · have ex : execF m2 10 D A B d5 = { m2 with out := m2.out ++ [reg m2 A] } := if_neg c
            have c1 : ((m2.out.length : Int) == 2000) = false := beq_eq_false_iff_ne.mpr (by omega)
            have k16 := H5.out.c16
            have f16 := H5.out.fz 16
            clear c
            go_wp2_with ((with_reducible refine gate_builtin (b := .append) (xs := #[.tmp 198, .tmp 200]) rfl ?_); at_builtin; refine Kd.R_append (Kd.int .i64) (w0 := W5) 0 rfl (.tmp 198) (.tmp 200) 23 2 (.int .i64 0) 8 rfl Tryd.underlying23 info2 rfl (by decide) (by omega) _ m2.out (reg m2 A) [.int .i64 (reg m2 A)] (fun k => P k ∧ k ≠ g ∧ k ≠ bm) (fun _ => False) rfl rfl rfl (fun _ hk => hk.elim) (fun k hk => ⟨HP.out k (Nat.le_trans HC5.out.size hk), Nat.ne_of_gt (Nat.lt_of_lt_of_le (blk_lt H5.out.blk) hk), Nat.ne_of_gt (Nat.lt_of_lt_of_le (blk_lt H5.out.mblk) hk)⟩) H5.out.out (Below.refl _ _) (Nat.zero_le _) (by have := HP8.out; omega) ?_; intro v1 w2 ho hb hg hat; obtain ⟨A1, dd, e1⟩ := Kd.R_slice ho; subst e1; have k16b := (blk_cell (blk_grown H5.out.blk hg H5.out.rowO.1) 16).trans (mc_at _ _ _ _ _ H5.out.regs).2.2.2.2.2.2.1; have f16b := blk_frozen (blk_grown H5.out.blk hg H5.out.rowO.1) 16; have h6 := Aside0.mk (H5.out.putOut hg _ _ ho); have c6 := Aside0.mk ((HC5.out.grown hg (fun k hk => (H5.out.out.1 k hk).1)).setCell (a := ⟨g, 16, none⟩) H5.out.pg (.slice A1 (m2.out ++ [reg m2 A]).length dd)); rw [show (m2.out ++ [reg m2 A]).length = m2.out.length + 1 by simp] at h6 c6; have k15 := h6.out.c15; have k13 := h6.out.c13; have f13 := h6.out.fz 13; clear ho hb hg hat)
            (first | go_end0 | refine bodyPost_ret (results_none rfl _ _ _) rfl ?_)
            exact ⟨rfl, by first | exact ⟨_, _, _, _, _, h6.out.set13 _⟩ | (rw [ex]; exact ⟨_, _, _, _, _, h6.out.set13 _⟩), c6.out.setCell (a := ⟨g, 13, none⟩) H5.out.pg _⟩
        · by_cases c : m2.kept = []
          · have ex : execF m2 12 D A B d5 = m2.trap 12 := if_pos c
            have c1 : ((m2.kept.length : Int) == 0) = true := beq_iff_eq.mpr (by rw [c]; rfl)
            have k15 := H5.out.c15
            clear c
            go_wp2_with (go_at_call 30; refine (rtrap_calls ⟨_, _, _, _, _, H5.out⟩ 12).mono ?_; rintro e w6 ⟨rfl, hi, hc⟩; have c6 := Aside0.mk (HC5.out.trans hc); obtain ⟨Ac2, cc2, bm2, vK2, vO2, h7⟩ := hi; have h6 := Aside0.mk h7; clear h7 hc)
            (first | go_end0 | refine bodyPost_ret (results_none rfl _ _ _) rfl ?_)
            exact ⟨rfl, by rw [withDepth_id _ (by first | exact HDEP2.out | (rw [ex]; exact HDEP2.out))]; first | exact ⟨_, _, _, _, _, h6.out⟩ | (rw [ex]; exact ⟨_, _, _, _, _, h6.out⟩), c6.out⟩
          · obtain ⟨l, y, hl⟩ : ∃ l y, m2.kept = l ++ [y] := ⟨m2.kept.dropLast, m2.kept.getLast c, (List.dropLast_concat_getLast c).symm⟩
            have ex : execF m2 12 D A B d5 = { m2 with at_ := y, kept := l } := by
              show (if m2.kept = [] then m2.trap 12 else { m2 with at_ := m2.kept.getLastD 0, kept := m2.kept.dropLast }) = _
              rw [if_neg c, hl]
              simp
            have hlen : m2.kept.length = l.length + 1 := by rw [hl]; simp
            have cl : l.length ≤ 63 := by have := HP9.out; omega
            have hcap := (Kd.R_reads' H5.out.kept).2.1
            rw [hlen] at hcap
            have hrd := (Kd.R_reads' H5.out.kept).2.2
            obtain ⟨ad, eA, hat⟩ := Kd.at_int hrd (l.length : Int) (by omega) (by rw [hlen]; omega)
            simp only [Int.toNat_natCast] at hat
            have hrv : rd m2.kept (l.length : Int) = y := by rw [hl]; simp [rd]
            rw [hrv] at hat
            subst eA
            clear hrd hrv c
            have q7 : (0 : Int) ≤ (l.length : Int) := by omega
            have q8 : (l.length : Int) ≤ (cK : Int) := by omega
            have q9 : (l.length : Int) < (l.length : Int) + 1 := by omega
            have qa : ((l.length : Int) + 1 == 0) = false := beq_eq_false_iff_ne.mpr (by omega)
            have u1 : IntKind.i64.wrap ((l.length : Int) + 1 - 1) = (l.length : Int) := sub1 _ (by omega)
            have u2 : IntKind.i64.wrap (l.length : Int) = (l.length : Int) := wr1 _ (by clear u1; omega)
            have k15 := H5.out.c15
            rw [hlen] at k15
            have f15 := H5.out.fz 15
            have k12 := H5.out.c12
            have f12 := H5.out.fz 12
            have HL := Aside0.mk hl
            have HLN := Aside0.mk hlen
            clear hcap hl hlen
            go_wp2
            go_region
            have h5 := Aside0.mk ((H5.out.set12 y).drew)
            have c5 := Aside0.mk ((HC5.out.setCell (a := ⟨g, 12, none⟩) H5.out.pg (.int .i64 y)).drew)
            have k15b := h5.out.c15
            rw [show ({ m2 with at_ := y } : Mac).kept.length = l.length + 1 from HLN.out] at k15b
            have f15b := h5.out.fz 15
            go_wp2
            go_region
            have h6 := Aside0.mk (((H5.out.set12 y).set15 (.slice (some ad) l.length cK) l (R_pop (y := y) (HL.out ▸ (H5.out.set12 y).kept))).drew.drew)
            have c6 := Aside0.mk (((HC5.out.setCell (a := ⟨g, 12, none⟩) H5.out.pg (.int .i64 y)).setCell (a := ⟨g, 15, none⟩) H5.out.pg (.slice (some ad) l.length cK)).drew.drew)
            have k15c := h6.out.c15
            have k13 := h6.out.c13
            have f13 := h6.out.fz 13
            go_wp2
            (first | go_end0 | refine bodyPost_ret (results_none rfl _ _ _) rfl ?_)
            exact ⟨rfl, by first | exact ⟨_, _, _, _, _, h6.out.set13 _⟩ | (rw [ex]; exact ⟨_, _, _, _, _, h6.out.set13 _⟩), c6.out.setCell (a := ⟨g, 13, none⟩) H5.out.pg _⟩
        · go_wp2_with (go_at_call 30; refine (rtrap_calls ⟨_, _, _, _, _, H5.out⟩ 3).mono ?_; rintro e w6 ⟨rfl, hi, hc⟩; have c6 := Aside0.mk (HC5.out.trans hc); obtain ⟨Ac2, cc2, bm2, vK2, vO2, h7⟩ := hi; obtain ⟨AK2, cK2, eK2⟩ := Kd.R_slice h7.kept; subst eK2; have h6 := Aside0.mk h7; have k15 := h7.c15; have k13 := h7.c13; have f13 := h7.fz 13; clear h7 hc)
          (first | go_end0 | refine bodyPost_ret (results_none rfl _ _ _) rfl ?_)
          exact ⟨rfl, ⟨_, _, _, _, _, h6.out.set13 _⟩, c6.out.setCell (a := ⟨g, 13, none⟩) H5.out.pg _⟩
        · have k17 := H5.out.c17
          have f17 := H5.out.fz 17
          have h6 := Aside0.mk (H5.out.set17 1)
          have c6 := Aside0.mk (HC5.out.setCell (a := ⟨g, 17, none⟩) H5.out.pg (.int .i64 1))
          have k15 := h6.out.c15
          have k13 := h6.out.c13
          have f13 := h6.out.fz 13
          go_wp2
          (first | go_end0 | refine bodyPost_ret (results_none rfl _ _ _) rfl ?_)
          exact ⟨rfl, ⟨_, _, _, _, _, h6.out.set13 _⟩, c6.out.setCell (a := ⟨g, 13, none⟩) H5.out.pg _⟩
      · rw [if_neg cr] at hX
        exact absurd hX (by simp)
    · exact absurd HSET.out.1 e7
end Go.Proofs.YtekhnkpjeofdpaaDoor.A
