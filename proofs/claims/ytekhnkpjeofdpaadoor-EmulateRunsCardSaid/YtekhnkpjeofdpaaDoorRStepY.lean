/- The reference's machine (cupelref23): Step, a part of its operations: the contract over the same plain machine. -/
import Derived.Test.YtekhnkpjeofdpaaDoorRStep0
import Derived.Test.YtekhnkpjeofdpaaDoorMacStep2
import Derived.Deep.RegionWith
import Derived.StillTailTactics
set_option linter.unusedVariables false
set_option maxRecDepth 100000
namespace Go.Proofs.YtekhnkpjeofdpaaDoor.A
open Go.RowKit Go.Proofs.YtekhnkpjeofdpaaDoorW.PrintWords Go.Proofs.YtekhnkpjeofdpaaDoorW.PrintLast Go.Proofs.YtekhnkpjeofdpaaDoorW.PrintMore
set_option maxHeartbeats 40000000
theorem rstep_Y {P : Rg} {w : World} {g : Nat} {m : Mac} (k : Nat) (h : IsM 46 P w g m) (hP : ∀ k, w.heap.size ≤ k → P k) (m' : Mac) (hcl : m.code.length ≤ 20000) (hdep : m.depth = (m.kept.length : Int)) (hset : ∀ t, cupelref20_Decode.f (k + 20) m.code m.at_ = some t → t.2.2.2.2.2.2 = 0 → (t.1 = 11 ∨ 15 ≤ t.1)) (hm : stepF (k + 21) m = some m') :
    Calls Tryd.prog 17 #[.pointer (some ⟨g, 0, none⟩)] w fun e w' => e = .returned (.tuple #[]) ∧ IsM 46 P w' g m' ∧ Chg P w w' := by
  obtain ⟨t, ht, hm⟩ := Option.bind_eq_some_iff.1 hm
  obtain ⟨t', ht', hdc⟩ := decode_total (k + 21) m.code hcl m.at_ (by omega)
  obtain rfl : t = t' := Option.some.inj (ht.symm.trans ht')
  rw [← decode_ref k k m.code hcl m.at_] at ht
  clear ht'
  obtain ⟨d1, d2, d3, d4, d5, d6, d7⟩ := t
  have HPT := Aside0.mk (show d7 = 0 → (1 ≤ d1 ∧ d1 ≤ 14 ∨ 16 ≤ d1 ∧ d1 ≤ 29 ∨ 36 ≤ d1 ∧ d1 ≤ 49) from fun h => (hdc h).1.1)
  clear hdc
  obtain ⟨Ac, cc, bm, vK, vO, h⟩ := h
  replace hm : (if d7 = 0 then step2 (k + 21) { m with steps := wrap64 (m.steps + 1), at_ := d6 } d1 d2 d3 d4 d5 else some (Mac.trap { m with steps := wrap64 (m.steps + 1) } 11)) = some m' := hm
  have HX := Aside0.mk hm
  clear hm
  obtain ⟨W1, eW1⟩ : ∃ W1, w.setCell ⟨g, 14, none⟩ (.int .i64 (wrap64 (m.steps + 1))) = W1 := ⟨_, rfl⟩
  have h1 := h.set14 (wrap64 (m.steps + 1))
  have hC1 := (Chg.refl P w).setCell (a := ⟨g, 14, none⟩) h.pg (.int .i64 (wrap64 (m.steps + 1)))
  rw [eW1] at h1 hC1
  have HH := Aside0.mk h
  have k14 := h.c14
  have f14 := h.fz 14
  have H1 := Aside0.mk h1
  have HC1 := Aside0.mk hC1
  have HD := Aside0.mk ht
  have c0 : W1.cell? ⟨g, 0, none⟩ = some (.slice Ac m.code.length cc) := h1.c0
  have c12 : W1.cell? ⟨g, 12, none⟩ = some (.int .i64 m.at_) := h1.c12
  have hcode := Aside0.mk (show Kd.C (Kd.int .u64) W1 Ac m.code.length m.code from H1.out.code)
  have HP := Aside0.mk hP
  have HDEP := Aside0.mk hdep
  have HSET := Aside0.mk (show d7 = 0 → (d1 = 11 ∨ 15 ≤ d1) from hset _ ht)
  clear hset
  clear h h1 hC1 ht hP hdep
  go_enter Tryd.func17, Tryd.ntmps17
  go_upto_region 1 with (fail)
  clear eW1 k14 f14
  go_cut [2, 3, 4] (fun v2 v3 v4 wc => ∃ gb : Nat, v2 = .pointer (some ⟨gb, 0, none⟩) ∧ v3 = .int .i64 d6 ∧ v4 = .int .i64 d7 ∧ Aside0 (IsMx 46 P wc g { m with steps := wrap64 (m.steps + 1) } Ac cc bm vK vO) ∧ Aside0 (wc.heap[gb]? = some (.cells #[.int .i64 d1, .int .i64 d2, .int .i64 d3, .int .i64 d4, .int .i64 d5] 67 (0, 0))) ∧ Aside0 (gb ≠ g) ∧ Aside0 (Chg P w wc))
  case first => as_aux_lemma =>
    have c0a := fun o => (H1.out.alloc o).c0
    have c12a := fun o => (H1.out.alloc o).c12
    go_region_with (go_at_call 29; refine (cupelref20_Decode.calls (k + 20) Ac cc m.code m.at_ d1 d2 d3 d4 d5 d6 d7 _ (Kd.C_below hcode.out (by repeat (first | (with_reducible exact Below.refl _ _) | (with_reducible apply below_alloc) | (with_reducible apply pw_below_drewN) | (with_reducible apply below_drew1)))) H1.out.ccap HD.out).mono ?_; rintro e w2 ⟨rfl, hb2⟩; have HB2 := Aside0.mk (below_step (by repeat (first | (with_reducible exact Below.refl _ _) | (with_reducible apply below_alloc) | (with_reducible apply pw_below_drewN) | (with_reducible apply below_drew1))) hb2 : Below W1.heap.size W1 w2); try (have HZ := Aside0.mk (blk_below (w := (W1.alloc (.cells #[.int .i64 0, .int .i64 0, .int .i64 0, .int .i64 0, .int .i64 0] 67)).drew) (g := W1.heap.size) (blk_drew (blk_new W1 (.cells #[.int .i64 0, .int .i64 0, .int .i64 0, .int .i64 0, .int .i64 0] 67))) hb2); have z0 := (blk_cell HZ.out 0).trans rfl; have y0 := blk_frozen HZ.out 0; have z1 := (blk_cell HZ.out 1).trans rfl; have y1 := blk_frozen HZ.out 1; have z2 := (blk_cell HZ.out 2).trans rfl; have y2 := blk_frozen HZ.out 2; have z3 := (blk_cell HZ.out 3).trans rfl; have y3 := blk_frozen HZ.out 3; have z4 := (blk_cell HZ.out 4).trans rfl; have y4 := blk_frozen HZ.out 4); clear hb2)
    all_goals
      try go_wp2
      try simp only [Act.put, List.setIfInBounds_toArray, List.set_cons_zero, List.set_cons_succ, List.getElem_toArray, List.getElem_cons_succ, List.getElem_cons_zero]
      go_meet
      case rel => first | exact ⟨_, rfl, rfl, rfl, ⟨H1.out.below (by repeat (first | (with_reducible exact HB2.out) | (with_reducible apply below_alloc) | (with_reducible apply pw_below_drewN) | (with_reducible apply below_drew1) | refine below_set ?_ (Nat.le_refl _)))⟩, ⟨by (with_reducible repeat (first | refine blk_drewN ?_ _ | refine blk_drew ?_)); exact blk_new _ _⟩, ⟨Nat.ne_of_gt (Nat.lt_of_lt_of_le (show g < W1.heap.size from blk_lt H1.out.blk) HB2.out.size)⟩, ⟨HC1.out.trans (Chg.of_below (by repeat (first | (with_reducible exact HB2.out) | (with_reducible apply below_alloc) | (with_reducible apply pw_below_drewN) | (with_reducible apply below_drew1) | refine below_set ?_ (Nat.le_refl _))))⟩⟩ | exact ⟨_, rfl, rfl, rfl, ⟨H1.out.below (by repeat (first | (with_reducible exact HB2.out) | (with_reducible apply below_alloc) | (with_reducible apply pw_below_drewN) | (with_reducible apply below_drew1) | refine below_set ?_ (Nat.le_refl _)))⟩, ⟨by (with_reducible repeat (first | refine blk_drewN ?_ _ | refine blk_drew ?_ | refine blk_alloc ?_ _)); refine blk_put (cs := #[.int .i64 d1, .int .i64 d2, .int .i64 d3, .int .i64 d4, .int .i64 0]) ?_ 4 _ rfl; (with_reducible repeat (first | refine blk_drewN ?_ _ | refine blk_drew ?_ | refine blk_alloc ?_ _)); refine blk_put (cs := #[.int .i64 d1, .int .i64 d2, .int .i64 d3, .int .i64 0, .int .i64 0]) ?_ 3 _ rfl; (with_reducible repeat (first | refine blk_drewN ?_ _ | refine blk_drew ?_ | refine blk_alloc ?_ _)); refine blk_put (cs := #[.int .i64 d1, .int .i64 d2, .int .i64 0, .int .i64 0, .int .i64 0]) ?_ 2 _ rfl; (with_reducible repeat (first | refine blk_drewN ?_ _ | refine blk_drew ?_ | refine blk_alloc ?_ _)); refine blk_put (cs := #[.int .i64 d1, .int .i64 0, .int .i64 0, .int .i64 0, .int .i64 0]) ?_ 1 _ rfl; (with_reducible repeat (first | refine blk_drewN ?_ _ | refine blk_drew ?_ | refine blk_alloc ?_ _)); refine blk_put (cs := #[.int .i64 0, .int .i64 0, .int .i64 0, .int .i64 0, .int .i64 0]) ?_ 0 _ rfl; (with_reducible repeat (first | refine blk_drewN ?_ _ | refine blk_drew ?_ | refine blk_alloc ?_ _)); exact HZ.out⟩, ⟨Nat.ne_of_gt (blk_lt H1.out.blk)⟩, ⟨HC1.out.trans (Chg.of_below (by repeat (first | (with_reducible exact HB2.out) | (with_reducible apply below_alloc) | (with_reducible apply pw_below_drewN) | (with_reducible apply below_drew1) | refine below_set ?_ (Nat.le_refl _))))⟩⟩
  case rest =>
    clear hcode c0 c12 HD H1 HC1
    obtain ⟨gb, rfl, rfl, rfl, HM, HB, HN, HC⟩ := hcut
    by_cases e7 : d7 = 0
    · subst e7
      have HSET := Aside0.mk (show (0 : Int) = 0 ∧ (d1 = 11 ∨ 15 ≤ d1) from ⟨rfl, HSET.out rfl⟩)
      have hX := HX.out
      rw [if_pos rfl] at hX
      obtain ⟨m2, em2⟩ : ∃ m2 : Mac, { m with steps := wrap64 (m.steps + 1), at_ := d6 } = m2 := ⟨_, rfl⟩
      rw [em2] at hX
      have HAT := Aside0.mk (show m2.at_ = d6 by rw [← em2])
      have HDEP2 := Aside0.mk (show m2.depth = (m2.kept.length : Int) by rw [← em2]; exact HDEP.out)
      unfold step2 at hX
      by_cases cr : 1 ≤ d1 ∧ 0 ≤ d2 ∧ d2 < 10 ∧ 0 ≤ d3 ∧ d3 < 10 ∧ 0 ≤ d4 ∧ d4 < 10 ∧ m2.out.length ≤ 2000 ∧ m2.kept.length ≤ 64
      · rw [if_pos cr] at hX
        obtain ⟨p1, p2, p3, p4, p5, p6, p7, p8, p9⟩ := cr
        obtain ⟨op, rfl⟩ : ∃ n : Nat, d1 = (n : Int) := ⟨d1.toNat, by omega⟩
        obtain ⟨D, rfl⟩ : ∃ n : Nat, d2 = (n : Int) := ⟨d2.toNat, by omega⟩
        obtain ⟨A, rfl⟩ : ∃ n : Nat, d3 = (n : Int) := ⟨d3.toNat, by omega⟩
        obtain ⟨B, rfl⟩ : ∃ n : Nat, d4 = (n : Int) := ⟨d4.toNat, by omega⟩
        simp only [Int.toNat_natCast] at hX
        obtain ⟨W4, eW4⟩ : ∃ W, wc.setCell ⟨g, 12, none⟩ (.int .i64 d6) = W := ⟨_, rfl⟩
        have h4 : IsMx 46 P W4 g m2 Ac cc bm vK vO := em2 ▸ eW4 ▸ HM.out.set12 d6
        have hB4 := blk_far (p := ⟨g, 12, none⟩) HB.out HN.out (.int .i64 d6)
        have hC4 := HC.out.setCell (a := ⟨g, 12, none⟩) HM.out.pg (.int .i64 d6)
        rw [eW4] at hB4 hC4
        have k12 : wc.cell? ⟨g, 12, none⟩ = some (.int .i64 m.at_) := HM.out.c12
        have f12 := HM.out.fz 12
        have H4 := Aside0.mk h4
        have HB4 := Aside0.mk hB4
        have HC4 := Aside0.mk hC4
        have b0 := (blk_cell hB4 0).trans rfl
        have b2 := (blk_cell hB4 2).trans rfl
        have kA := h4.creg A (by omega)
        have q1 : (0 : Int) ≤ (A : Int) := by omega
        have q2 : (A : Int) < 10 := by omega
        have HX4 := Aside0.mk hX
        have HP1 := Aside0.mk (show (1 ≤ op ∧ op ≤ 14 ∨ 16 ≤ op ∧ op ≤ 29 ∨ 36 ≤ op ∧ op ≤ 49) by have := HPT.out rfl; omega)
        have HA := Aside0.mk (show A < 10 by omega)
        have HD := Aside0.mk (show D < 10 by omega)
        have HBB := Aside0.mk (show B < 10 by omega)
        have HP8 := Aside0.mk p8
        have HP9 := Aside0.mk p9
        clear hX h4 hB4 hC4 HX p1 p2 p3 p4 p5 p6 p7 p8 p9 em2 HDEP
        go_wp2
        clear eW4 k12 f12
        go_quiet (fail)
        obtain ⟨W5, eW5⟩ : ∃ W, W4.drewN nq = W := ⟨_, rfl⟩
        have H5 := Aside0.mk (show IsMx 46 P W5 g m2 Ac cc bm vK vO from eW5 ▸ H4.out.drewN nq)
        have HB5 := Aside0.mk (show W5.heap[gb]? = some (.cells #[.int .i64 (op : Int), .int .i64 (D : Int), .int .i64 (A : Int), .int .i64 (B : Int), .int .i64 d5] 67 (0, 0)) from eW5 ▸ blk_drewN HB4.out nq)
        have HC5 := Aside0.mk (show Chg P w W5 from eW5 ▸ HC4.out.drewN nq)
        rw [eW5]
        clear eW5 b0 b2 kA H4 HB4 HC4
        have b0 := (blk_cell HB5.out 0).trans rfl
        obtain ⟨AK, cK, eK⟩ : ∃ A c, vK = .slice A m2.kept.length c := Kd.R_slice H5.out.kept
        subst eK
        obtain ⟨AO, cO, eO⟩ : ∃ A c, vO = .slice A m2.out.length c := Kd.R_slice H5.out.out
        subst eO
        have b1 := (blk_cell HB5.out 1).trans rfl
        have b3 := (blk_cell HB5.out 3).trans rfl
        have b4 := (blk_cell HB5.out 4).trans rfl
        have hD := HD.out
        have hB := HBB.out
        have kd := H5.out.creg D hD
        have fd := H5.out.fz (2 + D)
        have kb := H5.out.creg B hB
        have q3 : (0 : Int) ≤ (D : Int) := by omega
        have q4 : (D : Int) < 10 := by omega
        have q5 : (0 : Int) ≤ (B : Int) := by omega
        have q6 : (B : Int) < 10 := by omega
        have hX := HX4.out
        by_cases c15 : (op : Int) < 15
        · rw [if_pos c15] at hX
          obtain rfl := Option.some.inj hX
          have hop : op = 11 := by have := HSET.out.2; omega
          clear hX HX4 c15 HSET
          subst hop
          by_cases c : m2.kept.length = 64
          · have ex : execF m2 11 D A B d5 = m2.trap 12 := if_pos c
            have c1 : ((m2.kept.length : Int) == 64) = true := beq_iff_eq.mpr (by omega)
            have k15 := H5.out.c15
            clear c
            go_wp2_with (go_at_call 30; refine (rtrap_calls ⟨_, _, _, _, _, H5.out⟩ 12).mono ?_; rintro e w6 ⟨rfl, hi, hc⟩; have c6 := Aside0.mk (HC5.out.trans hc); obtain ⟨Ac2, cc2, bm2, vK2, vO2, h7⟩ := hi; have h6 := Aside0.mk h7; clear h7 hc)
            (first | go_end0 | refine bodyPost_ret (results_none rfl _ _ _) rfl ?_)
            exact ⟨rfl, by rw [withDepth_id _ (by first | exact HDEP2.out | (rw [ex]; exact HDEP2.out))]; first | exact ⟨_, _, _, _, _, h6.out⟩ | (rw [ex]; exact ⟨_, _, _, _, _, h6.out⟩), c6.out⟩
          · have ex11 := Aside0.mk (show execF m2 11 D A B d5 = { m2 with kept := m2.kept ++ [m2.at_], at_ := d5 } from if_neg c)
            have c1 : ((m2.kept.length : Int) == 64) = false := beq_eq_false_iff_ne.mpr (by omega)
            have k15 := H5.out.c15
            have f15 := H5.out.fz 15
            clear c
            have HFR := Aside0.mk (show ∀ k, W5.heap.size ≤ k → P k ∧ k ≠ g ∧ k ≠ bm from (fun k hk => ⟨HP.out k (Nat.le_trans HC5.out.size hk), Nat.ne_of_gt (Nat.lt_of_lt_of_le (blk_lt H5.out.blk) hk), Nat.ne_of_gt (Nat.lt_of_lt_of_le (blk_lt H5.out.mblk) hk)⟩))
            have HGK := Aside0.mk (show some gb ≠ Value.ownBlock (.slice AK m2.kept.length cK) from fun e => by
              obtain ⟨cells, hc⟩ := R_block H5.out.kept e.symm
              rw [HB5.out] at hc
              injection hc with hc
              injection hc with _ hc
              exact absurd hc (by decide))
            have b4a := fun o => (blk_cell (blk_alloc HB5.out o) 4).trans rfl
            have k15a := fun o => (H5.out.alloc o).c15
            go_wp2
            go_region_law (refine Kd.R_append_rows_step (Kd.int .i64) 0 rfl (.tmp 219) (.tmp 221) 41 3 (.int .i64 0) 8 rfl Tryd.underlying41 info3 rfl (by decide) (by omega) _ m2.kept [d6] _ 1 1 (fun k => P k ∧ k ≠ g ∧ k ≠ bm) (fun _ => False) rfl rfl (IsMx.kept (by repeat (first | (with_reducible exact H5.out) | (with_reducible apply IsMx.alloc) | (with_reducible apply IsMx.drewN) | (with_reducible apply IsMx.drew) | exact H5.out))) (one_reads _ _ _ d6 _ _ _ (by (with_reducible repeat (first | refine blk_drewN ?_ _ | refine blk_drew ?_)); exact blk_new _ _)) (fun _ _ hx => hx) (fun _ h => h.elim) (fun k hk => by simp at hk; exact HFR.out k (by omega)) (Below.refl _ _) (Nat.zero_le _) (by have := HP9.out; omega) ?_; intro v1 w2 ho hb hg hat; obtain ⟨A1, dd, e1⟩ := Kd.R_slice ho; subst e1; have HI := Aside0.mk (IsMx.putKept (by repeat (first | (with_reducible exact H5.out) | (with_reducible apply IsMx.alloc) | (with_reducible apply IsMx.drewN) | (with_reducible apply IsMx.drew) | exact H5.out)) hg _ _ ho); have k15b := (blk_cell (blk_grown (IsMx.blk (by repeat (first | (with_reducible exact H5.out) | (with_reducible apply IsMx.alloc) | (with_reducible apply IsMx.drewN) | (with_reducible apply IsMx.drew) | exact H5.out))) hg (IsMx.rowK H5.out).1) 15).trans (mc_at _ _ _ _ _ H5.out.regs).2.2.2.2.2.1; have f15b := blk_frozen (blk_grown (IsMx.blk (by repeat (first | (with_reducible exact H5.out) | (with_reducible apply IsMx.alloc) | (with_reducible apply IsMx.drewN) | (with_reducible apply IsMx.drew) | exact H5.out))) hg (IsMx.rowK H5.out).1) 15; have CHI := Aside0.mk ((Chg.grown (by repeat (first | (with_reducible exact HC5.out) | (with_reducible apply Chg.alloc) | (with_reducible apply Chg.drewN) | (with_reducible apply Chg.drew) | exact HC5.out)) hg (fun k hk => (H5.out.kept.1 k hk).1)).setCell (a := ⟨g, 15, none⟩) H5.out.pg (.slice A1 (m2.kept ++ [d6]).length dd)); have HX2 := Aside0.mk (show w2.heap[gb]? = some (.cells #[.int .i64 ((11 : Nat) : Int), .int .i64 (D : Int), .int .i64 (A : Int), .int .i64 (B : Int), .int .i64 d5] 67 (0, 0)) from blk_grown (by (with_reducible repeat (first | refine blk_drewN ?_ _ | refine blk_drew ?_ | refine blk_alloc ?_ _)); exact HB5.out) hg HGK.out); have HX3 := Aside0.mk (blk_far (p := ⟨g, 15, none⟩) HX2.out HN.out (.slice A1 (m2.kept ++ [d6]).length dd)); rw [show (m2.kept ++ [d6]).length = m2.kept.length + 1 by simp] at HI CHI HX3; have k12b := HI.out.c12; have f12b := HI.out.fz 12; have kx4 := (blk_cell HX3.out 4).trans rfl; have ky4 := (blk_cell HX2.out 4).trans rfl; clear ho hb hg hat)
            all_goals
              have h6 := Aside0.mk (HI.out.set12 d5)
              have c6 := Aside0.mk (CHI.out.setCell (a := ⟨g, 12, none⟩) H5.out.pg (.int .i64 d5))
              have k15 := h6.out.c15
              have k13 := h6.out.c13
              have f13 := h6.out.fz 13
              go_wp2
              (first | go_end0 | refine bodyPost_ret (results_none rfl _ _ _) rfl ?_)
              exact ⟨rfl, by
                have e9 : withDepth (execF m2 11 D A B d5) = { m2 with kept := m2.kept ++ [d6], at_ := d5, depth := ((m2.kept.length + 1 : Nat) : Int) } := by
                  rw [show execF m2 11 D A B d5 = _ from ex11.out, HAT.out]
                  unfold withDepth
                  simp
                rw [e9]
                exact ⟨_, _, _, _, _, h6.out.set13 _⟩, c6.out.setCell (a := ⟨g, 13, none⟩) H5.out.pg _⟩
        · rw [if_neg c15] at hX
          obtain ⟨r, hr, hX⟩ := Option.bind_eq_some_iff.1 hX
          obtain ⟨v, tt, e0⟩ := r
          have hkind : binKind (op : Int) = (if op > 35 then (op : Int) - 35 else (op : Int) - 15) ∧ 1 ≤ binKind (op : Int) ∧ binKind (op : Int) ≤ 14 := by
            have := HP1.out
            unfold binKind
            split
            · rw [wrap_id (by omega) (by omega), if_pos (by omega)]; omega
            · rw [wrap_id (by omega) (by omega), if_neg (by omega)]; omega
          rw [show k + 21 = (k + 18) + 3 from rfl, ← bin_eq (k + 18) _ _ _ hkind.2.1 hkind.2.2] at hr
          simp only [Int.toNat_natCast] at hr hX
          have n1 : ((op : Int) == 1) = false := beq_eq_false_iff_ne.mpr (by omega)
          have n2 : ((op : Int) == 2) = false := beq_eq_false_iff_ne.mpr (by omega)
          have n3 : ((op : Int) == 3) = false := beq_eq_false_iff_ne.mpr (by omega)
          have n4 : ((op : Int) == 4) = false := beq_eq_false_iff_ne.mpr (by omega)
          have n5 : ((op : Int) == 5) = false := beq_eq_false_iff_ne.mpr (by omega)
          have n6 : ((op : Int) == 6) = false := beq_eq_false_iff_ne.mpr (by omega)
          have n7 : ((op : Int) == 7) = false := beq_eq_false_iff_ne.mpr (by omega)
          have n8 : ((op : Int) == 8) = false := beq_eq_false_iff_ne.mpr (by omega)
          have n9 : ((op : Int) == 9) = false := beq_eq_false_iff_ne.mpr (by omega)
          have na : ((op : Int) == 10) = false := beq_eq_false_iff_ne.mpr (by omega)
          have nb : ((op : Int) == 11) = false := beq_eq_false_iff_ne.mpr (by omega)
          have nc : ((op : Int) == 12) = false := beq_eq_false_iff_ne.mpr (by omega)
          have nd : ((op : Int) == 13) = false := beq_eq_false_iff_ne.mpr (by omega)
          have ne : ((op : Int) == 14) = false := beq_eq_false_iff_ne.mpr (by omega)
          have HR := Aside0.mk hr
          have HKD := Aside0.mk hkind.1
          have hm6 : (if tt = true then m2.trap 1 else { m2 with regs := m2.regs.set D v }) = m' := by
            cases tt
            · exact Option.some.inj hX
            · exact Option.some.inj hX
          have HDM := Aside0.mk (show m'.depth = (m'.kept.length : Int) by
            rw [← hm6]
            cases tt
            · exact HDEP2.out
            · exact HDEP2.out)
          have b2 := (blk_cell HB5.out 2).trans rfl
          clear hX HX4 hr hkind
          by_cases c35 : op > 35
          · have g0 : decide ((35 : Int) < (op : Int)) = true := decide_eq_true (by omega)
            have g1 : decide (35 < op) = true := decide_eq_true c35
            have HR1 := Aside0.mk (show cupelref10_Bin.f (wrap64 ((op : Int) - 35)) (reg m2 A) d5 = some (v, tt, e0) by
              have h := HR.out
              have c : (op : Int) > 35 := by omega
              rw [if_pos c, show binKind (op : Int) = wrap64 ((op : Int) - 35) from if_pos c] at h
              exact h)
            go_wp2_with (go_at_call 33; refine (rbin_calls ⟨_, _, _, _, _, H5.out⟩ _ _ _ D A hD HA.out _ _ v tt e0 HR1.out).mono ?_; rintro e w6 ⟨rfl, hi, hc⟩; have c6 := Aside0.mk (HC5.out.trans hc); rw [hm6] at hi; obtain ⟨Ac2, cc2, bm2, vK2, vO2, h7⟩ := hi; obtain ⟨AK2, cK2, eK2⟩ := Kd.R_slice h7.kept; subst eK2; have h6 := Aside0.mk h7; have k15 := h7.c15; have k13 := h7.c13; have f13 := h7.fz 13; clear h7 hc)
            (first | go_end0 | refine bodyPost_ret (results_none rfl _ _ _) rfl ?_)
            exact ⟨rfl, by rw [← withDepth_id m' HDM.out]; exact ⟨_, _, _, _, _, h6.out.set13 _⟩, c6.out.setCell (a := ⟨g, 13, none⟩) H5.out.pg _⟩
          · have g0 : decide ((35 : Int) < (op : Int)) = false := decide_eq_false (by omega)
            have g1 : decide (35 < op) = false := decide_eq_false c35
            have HR1 := Aside0.mk (show cupelref10_Bin.f (wrap64 ((op : Int) - 15)) (reg m2 A) (reg m2 B) = some (v, tt, e0) by
              have h := HR.out
              have c : ¬ (op : Int) > 35 := by omega
              rw [if_neg c, show binKind (op : Int) = wrap64 ((op : Int) - 15) from if_neg c] at h
              exact h)
            have hw15 : wrap64 ((op : Int) - 15) = (op : Int) - 15 := wrap_id (by omega) (by have := HP1.out; omega)
            have HR2 := Aside0.mk (show cupelref10_Bin.f ((op : Int) - 15) (reg m2 A) (reg m2 B) = some (v, tt, e0) by rw [← hw15]; exact HR1.out)
            clear hw15
            go_wp2
            go_still_tail 13, (by kernel_rfl)
            change wpList _ _ _ _ _ W5.drew
            obtain ⟨W6, eW6⟩ : ∃ W, W5.drew = W := ⟨_, rfl⟩
            have H6 := Aside0.mk (show IsMx 46 P W6 g m2 Ac cc bm (.slice AK m2.kept.length cK) (.slice AO m2.out.length cO) from eW6 ▸ H5.out.drew)
            have HB6 := Aside0.mk (show W6.heap[gb]? = some (.cells #[.int .i64 (op : Int), .int .i64 (D : Int), .int .i64 (A : Int), .int .i64 (B : Int), .int .i64 d5] 67 (0, 0)) from eW6 ▸ blk_drew HB5.out)
            have HC6 := Aside0.mk (show Chg P w W6 from eW6 ▸ HC5.out.drew)
            rw [eW6]
            clear eW6 b0 b1 b2 b3 b4 kd fd kb
            have b0 := (blk_cell HB6.out 0).trans rfl
            have b1 := (blk_cell HB6.out 1).trans rfl
            have b2 := (blk_cell HB6.out 2).trans rfl
            have b3 := (blk_cell HB6.out 3).trans rfl
            have b4 := (blk_cell HB6.out 4).trans rfl
            have kb := H6.out.creg B hB
            go_wp2_with (go_at_call 33; refine (rbin_calls ⟨_, _, _, _, _, H6.out⟩ _ _ _ D A hD HA.out ((op : Int) - 15) (reg m2 B) v tt e0 HR2.out).mono ?_; rintro e w6 ⟨rfl, hi, hc⟩; have c6 := Aside0.mk (HC6.out.trans hc); rw [hm6] at hi; obtain ⟨Ac2, cc2, bm2, vK2, vO2, h7⟩ := hi; obtain ⟨AK2, cK2, eK2⟩ := Kd.R_slice h7.kept; subst eK2; have h6 := Aside0.mk h7; have k15 := h7.c15; have k13 := h7.c13; have f13 := h7.fz 13; clear h7 hc)
            (first | go_end0 | refine bodyPost_ret (results_none rfl _ _ _) rfl ?_)
            exact ⟨rfl, by rw [← withDepth_id m' HDM.out]; exact ⟨_, _, _, _, _, h6.out.set13 _⟩, c6.out.setCell (a := ⟨g, 13, none⟩) H5.out.pg _⟩
      · rw [if_neg cr] at hX
        exact absurd hX (by simp)
    · have hX := HX.out
      rw [if_neg e7] at hX
      obtain rfl := Option.some.inj hX
      have e7' : (d7 != 0) = true := bne_iff_ne.mpr e7
      clear hX HX e7
      go_wp2_with (go_at_call 30; refine (rtrap_calls ⟨_, _, _, _, _, HM.out⟩ 11).mono ?_; rintro e w3 ⟨rfl, hi, hc⟩)
      (first | go_end0 | refine bodyPost_ret (results_none rfl _ _ _) rfl ?_)
      exact ⟨rfl, hi, HC.out.trans hc⟩
end Go.Proofs.YtekhnkpjeofdpaaDoor.A
