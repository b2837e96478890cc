/- emulate's machine: one step: the plain step and the contract of the call (where the two tables lie). -/
import Derived.Test.YtekhnkpjeofdpaaDoorMacStep
set_option linter.unusedVariables false
set_option maxRecDepth 100000
namespace Go.Proofs.YtekhnkpjeofdpaaDoor.A
open Go.RowKit Go.Proofs.YtekhnkpjeofdpaaDoorW.PrintWords Go.Proofs.YtekhnkpjeofdpaaDoorW.PrintLast Go.Proofs.YtekhnkpjeofdpaaDoorW.PrintMore
set_option maxHeartbeats 8000000
def binKind (op : Int) : Int := if op > 35 then wrap64 (op - 35) else wrap64 (op - 15)
def binF (k : Nat) (m : Mac) (op d a b imm : Int) : Option Mac := (irsem_Bin.f k (binKind op) (reg m a.toNat) (if op > 35 then imm else reg m b.toNat)).bind fun r => if r.2.1 = true then some (m.trap 1) else some { m with regs := m.regs.set d.toNat r.1 }
def withDepth (m : Mac) : Mac := { m with depth := (m.kept.length : Int) }
def step2 (k : Nat) (m : Mac) (op d a b imm : Int) : Option Mac :=
  if 1 ≤ op ∧ 0 ≤ d ∧ d < 10 ∧ 0 ≤ a ∧ a < 10 ∧ 0 ≤ b ∧ b < 10 ∧ m.out.length ≤ 2000 ∧ m.kept.length ≤ 64 then
    if op < 15 then some (withDepth (execF m op.toNat d.toNat a.toNat b.toNat imm)) else binF k m op d a b imm
  else none
/-- one step -/
def stepF (k : Nat) (m : Mac) : Option Mac :=
  (target_Decode.f k m.code m.at_).bind fun t => if t.2.2.2.2.2.2 = 0 then step2 k { m with steps := wrap64 (m.steps + 1), at_ := t.2.2.2.2.2.1 } t.1 t.2.1 t.2.2.1 t.2.2.2.1 t.2.2.2.2.1 else some (Mac.trap { m with steps := wrap64 (m.steps + 1) } 11)
theorem Chg.mono_tab {P : Rg} {w : World} {g : Nat} {v : Value} {j : Nat} (hT : Tab w) (h0 : g ≠ 0) (h1 : g ≠ 1) : Tab (w.setCell ⟨g, j, none⟩ v) := by
  obtain ⟨⟨a, ha⟩, b, hb⟩ := hT
  exact ⟨⟨a, (Below.heap_setCell w ⟨g, j, none⟩ v 0 h0.symm).trans ha⟩, b, (Below.heap_setCell w ⟨g, j, none⟩ v 1 h1.symm).trans hb⟩
theorem tab_ne {T : Nat} {P : Rg} {w : World} {g : Nat} {m : Mac} {Ac : Option Addr} {cc bm : Nat} {vK vO : Value} (h : IsMx T P w g m Ac cc bm vK vO) (hT : Tab w) (t1 : T ≠ 124) (t2 : T ≠ 116) : g ≠ 0 ∧ g ≠ 1 := by
  obtain ⟨⟨a, ha⟩, b, hb⟩ := hT
  refine ⟨fun e => ?_, fun e => ?_⟩
  · subst e; have := h.blk.symm.trans ha; injection this with e2; injection e2 with _ e3; exact t1 e3
  · subst e; have := h.blk.symm.trans hb; injection this with e2; injection e2 with _ e3; exact t2 e3
theorem step_calls {P : Rg} {w : World} {g : Nat} {m : Mac} (k : Nat) (h : IsM 57 P w g m) (hT : Tab w) (hP : ∀ k, w.heap.size ≤ k → P k) (m' : Mac) (hm : stepF k m = some m') :
    Calls Tryd.prog 22 #[.pointer (some ⟨g, 0, none⟩)] w fun e w' => e = .returned (.tuple #[]) ∧ IsM 57 P w' g m' ∧ Chg P w w' := by
  obtain ⟨t, ht, hm⟩ := Option.bind_eq_some_iff.1 hm
  obtain ⟨d1, d2, d3, d4, d5, d6, d7⟩ := t
  obtain ⟨Ac, cc, bm, vK, vO, h⟩ := h
  replace hm : (if d7 = 0 then step2 k { m with steps := wrap64 (m.steps + 1), at_ := d6 } d1 d2 d3 d4 d5 else some (Mac.trap { m with steps := wrap64 (m.steps + 1) } 11)) = some m' := hm
  have HX := Aside0.mk hm
  clear hm
  obtain ⟨W1, eW1⟩ : ∃ W1, w.setCell ⟨g, 14, none⟩ (.int .i64 (wrap64 (m.steps + 1))) = W1 := ⟨_, rfl⟩
  have h1 := h.set14 (wrap64 (m.steps + 1))
  have hC1 := (Chg.refl P w).setCell (a := ⟨g, 14, none⟩) h.pg (.int .i64 (wrap64 (m.steps + 1)))
  have hT1 : Tab W1 := eW1 ▸ Chg.mono_tab (P := P) hT (tab_ne h hT (by decide) (by decide)).1 (tab_ne h hT (by decide) (by decide)).2
  rw [eW1] at h1 hC1
  have HH := Aside0.mk h
  have k14 := h.c14
  have f14 := h.fz 14
  have H1 := Aside0.mk h1
  have HC1 := Aside0.mk hC1
  have HT1 := Aside0.mk hT1
  have HD := Aside0.mk ht
  have c0 : W1.cell? ⟨g, 0, none⟩ = some (.slice Ac m.code.length cc) := h1.c0
  have c12 : W1.cell? ⟨g, 12, none⟩ = some (.int .i64 m.at_) := h1.c12
  have hcode := Aside0.mk (show Kd.C (Kd.int .u64) W1 Ac m.code.length m.code from H1.out.code)
  have HP := Aside0.mk hP
  clear h h1 hC1 hT hT1 ht hP
  go_enter Tryd.func22, Tryd.ntmps22
  go_upto_region 1 with (fail)
  clear eW1 k14 f14
  go_cut [2, 3, 4] (fun v2 v3 v4 wc => ∃ gb : Nat, v2 = .pointer (some ⟨gb, 0, none⟩) ∧ v3 = .int .i64 d6 ∧ v4 = .int .i64 d7 ∧ Aside0 (IsMx 57 P wc g { m with steps := wrap64 (m.steps + 1) } Ac cc bm vK vO) ∧ Aside0 (wc.heap[gb]? = some (.cells #[.int .i64 d1, .int .i64 d2, .int .i64 d3, .int .i64 d4, .int .i64 d5] 67 (0, 0))) ∧ Aside0 (gb ≠ g) ∧ Aside0 (Chg P w wc))
  case first =>
    have c0a := fun o => (H1.out.alloc o).c0
    have c12a := fun o => (H1.out.alloc o).c12
    go_region_with (go_at_call 35; refine (target_Decode.calls k Ac cc m.code m.at_ d1 d2 d3 d4 d5 d6 d7 _ (Tab.below HT1.out (by repeat (first | (with_reducible exact Below.refl _ _) | (with_reducible apply below_alloc) | (with_reducible apply pw_below_drewN) | (with_reducible apply below_drew1)))) (Kd.C_below hcode.out (by repeat (first | (with_reducible exact Below.refl _ _) | (with_reducible apply below_alloc) | (with_reducible apply pw_below_drewN) | (with_reducible apply below_drew1)))) H1.out.ccap HD.out).mono ?_; rintro e w2 ⟨rfl, hb2⟩; have HB2 := Aside0.mk (below_step (by repeat (first | (with_reducible exact Below.refl _ _) | (with_reducible apply below_alloc) | (with_reducible apply pw_below_drewN) | (with_reducible apply below_drew1))) hb2 : Below W1.heap.size W1 w2); try (have HZ := Aside0.mk (blk_below (w := (W1.alloc (.cells #[.int .i64 0, .int .i64 0, .int .i64 0, .int .i64 0, .int .i64 0] 67)).drew) (g := W1.heap.size) (blk_drew (blk_new W1 (.cells #[.int .i64 0, .int .i64 0, .int .i64 0, .int .i64 0, .int .i64 0] 67))) hb2); have z0 := (blk_cell HZ.out 0).trans rfl; have y0 := blk_frozen HZ.out 0; have z1 := (blk_cell HZ.out 1).trans rfl; have y1 := blk_frozen HZ.out 1; have z2 := (blk_cell HZ.out 2).trans rfl; have y2 := blk_frozen HZ.out 2; have z3 := (blk_cell HZ.out 3).trans rfl; have y3 := blk_frozen HZ.out 3; have z4 := (blk_cell HZ.out 4).trans rfl; have y4 := blk_frozen HZ.out 4); clear hb2)
    all_goals
      try go_wp2
      try simp only [Act.put, List.setIfInBounds_toArray, List.set_cons_zero, List.set_cons_succ, List.getElem_toArray, List.getElem_cons_succ, List.getElem_cons_zero]
      go_meet
      case rel => first | exact ⟨_, rfl, rfl, rfl, ⟨H1.out.below (by repeat (first | (with_reducible exact HB2.out) | (with_reducible apply below_alloc) | (with_reducible apply pw_below_drewN) | (with_reducible apply below_drew1) | refine below_set ?_ (Nat.le_refl _)))⟩, ⟨by (with_reducible repeat (first | refine blk_drewN ?_ _ | refine blk_drew ?_)); exact blk_new _ _⟩, ⟨Nat.ne_of_gt (Nat.lt_of_lt_of_le (show g < W1.heap.size from blk_lt H1.out.blk) HB2.out.size)⟩, ⟨HC1.out.trans (Chg.of_below (by repeat (first | (with_reducible exact HB2.out) | (with_reducible apply below_alloc) | (with_reducible apply pw_below_drewN) | (with_reducible apply below_drew1) | refine below_set ?_ (Nat.le_refl _))))⟩⟩ | exact ⟨_, rfl, rfl, rfl, ⟨H1.out.below (by repeat (first | (with_reducible exact HB2.out) | (with_reducible apply below_alloc) | (with_reducible apply pw_below_drewN) | (with_reducible apply below_drew1) | refine below_set ?_ (Nat.le_refl _)))⟩, ⟨by (with_reducible repeat (first | refine blk_drewN ?_ _ | refine blk_drew ?_ | refine blk_alloc ?_ _)); refine blk_put (cs := #[.int .i64 d1, .int .i64 d2, .int .i64 d3, .int .i64 d4, .int .i64 0]) ?_ 4 _ rfl; (with_reducible repeat (first | refine blk_drewN ?_ _ | refine blk_drew ?_ | refine blk_alloc ?_ _)); refine blk_put (cs := #[.int .i64 d1, .int .i64 d2, .int .i64 d3, .int .i64 0, .int .i64 0]) ?_ 3 _ rfl; (with_reducible repeat (first | refine blk_drewN ?_ _ | refine blk_drew ?_ | refine blk_alloc ?_ _)); refine blk_put (cs := #[.int .i64 d1, .int .i64 d2, .int .i64 0, .int .i64 0, .int .i64 0]) ?_ 2 _ rfl; (with_reducible repeat (first | refine blk_drewN ?_ _ | refine blk_drew ?_ | refine blk_alloc ?_ _)); refine blk_put (cs := #[.int .i64 d1, .int .i64 0, .int .i64 0, .int .i64 0, .int .i64 0]) ?_ 1 _ rfl; (with_reducible repeat (first | refine blk_drewN ?_ _ | refine blk_drew ?_ | refine blk_alloc ?_ _)); refine blk_put (cs := #[.int .i64 0, .int .i64 0, .int .i64 0, .int .i64 0, .int .i64 0]) ?_ 0 _ rfl; (with_reducible repeat (first | refine blk_drewN ?_ _ | refine blk_drew ?_ | refine blk_alloc ?_ _)); exact HZ.out⟩, ⟨Nat.ne_of_gt (blk_lt H1.out.blk)⟩, ⟨HC1.out.trans (Chg.of_below (by repeat (first | (with_reducible exact HB2.out) | (with_reducible apply below_alloc) | (with_reducible apply pw_below_drewN) | (with_reducible apply below_drew1) | refine below_set ?_ (Nat.le_refl _))))⟩⟩
  case rest =>
    clear hcode c0 c12 HD H1 HC1 HT1
    obtain ⟨gb, rfl, rfl, rfl, HM, HB, HN, HC⟩ := hcut
    by_cases e7 : d7 = 0
    · subst e7
      have hX := HX.out
      rw [if_pos rfl] at hX
      obtain ⟨m2, em2⟩ : ∃ m2 : Mac, { m with steps := wrap64 (m.steps + 1), at_ := d6 } = m2 := ⟨_, rfl⟩
      rw [em2] at hX
      unfold step2 at hX
      by_cases cr : 1 ≤ d1 ∧ 0 ≤ d2 ∧ d2 < 10 ∧ 0 ≤ d3 ∧ d3 < 10 ∧ 0 ≤ d4 ∧ d4 < 10 ∧ m2.out.length ≤ 2000 ∧ m2.kept.length ≤ 64
      · rw [if_pos cr] at hX
        obtain ⟨p1, p2, p3, p4, p5, p6, p7, p8, p9⟩ := cr
        obtain ⟨op, rfl⟩ : ∃ n : Nat, d1 = (n : Int) := ⟨d1.toNat, by omega⟩
        obtain ⟨D, rfl⟩ : ∃ n : Nat, d2 = (n : Int) := ⟨d2.toNat, by omega⟩
        obtain ⟨A, rfl⟩ : ∃ n : Nat, d3 = (n : Int) := ⟨d3.toNat, by omega⟩
        obtain ⟨B, rfl⟩ : ∃ n : Nat, d4 = (n : Int) := ⟨d4.toNat, by omega⟩
        simp only [Int.toNat_natCast] at hX
        obtain ⟨W4, eW4⟩ : ∃ W, wc.setCell ⟨g, 12, none⟩ (.int .i64 d6) = W := ⟨_, rfl⟩
        have h4 : IsMx 57 P W4 g m2 Ac cc bm vK vO := em2 ▸ eW4 ▸ HM.out.set12 d6
        have hB4 := blk_far (p := ⟨g, 12, none⟩) HB.out HN.out (.int .i64 d6)
        have hC4 := HC.out.setCell (a := ⟨g, 12, none⟩) HM.out.pg (.int .i64 d6)
        rw [eW4] at hB4 hC4
        have k12 : wc.cell? ⟨g, 12, none⟩ = some (.int .i64 m.at_) := HM.out.c12
        have f12 := HM.out.fz 12
        have H4 := Aside0.mk h4
        have HB4 := Aside0.mk hB4
        have HC4 := Aside0.mk hC4
        have b0 := (blk_cell hB4 0).trans rfl
        have b1 := (blk_cell hB4 1).trans rfl
        have b2 := (blk_cell hB4 2).trans rfl
        have b3 := (blk_cell hB4 3).trans rfl
        have b4 := (blk_cell hB4 4).trans rfl
        have kA := h4.creg A (by omega)
        have q1 : (0 : Int) ≤ (A : Int) := by omega
        have q2 : (A : Int) < 10 := by omega
        have q3 : (0 : Int) ≤ (D : Int) := by omega
        have q4 : (D : Int) < 10 := by omega
        have hA : A < 10 := by omega
        have hD : D < 10 := by omega
        have hBB : B < 10 := by omega
        have HX4 := Aside0.mk hX
        clear hX h4 hB4 hC4 HX p2 p3 p4 p5 em2
        go_wp2
        clear eW4 k12 f12
        go_quiet (fail)
        obtain ⟨W5, eW5⟩ : ∃ W, W4.drewN nq = W := ⟨_, rfl⟩
        have h5 := H4.out.drewN nq
        have hB5 := blk_drewN HB4.out nq
        have hC5 := HC4.out.drewN nq
        rw [eW5] at h5 hB5 hC5 ⊢
        have H5 := Aside0.mk h5
        have HB5 := Aside0.mk hB5
        have HC5 := Aside0.mk hC5
        clear eW5 h5 hB5 hC5 b0 b1 b2 b3 b4 kA
        go_upto_region 7 with (first | (go_at_call 37; refine (makes_calls _).mono ?_; rintro e w6 ⟨rfl, hb⟩; have H6 := Aside0.mk (H5.out.below hb); have HB6 := Aside0.mk (blk_below HB5.out hb); have HC6 := Aside0.mk (HC5.out.trans (Chg.of_below hb)); clear hb) | (refine wpList_store_new rfl 78 _ _ rfl #[.nilFunc, .nilFunc, .nilFunc, .nilFunc, .nilFunc, .nilFunc, .nilFunc, .nilFunc, .nilFunc, .nilFunc, .nilFunc, .nilFunc, .nilFunc, .nilFunc, .nilFunc] makesCells rfl rfl 78 info78m rfl (by kernel_rfl) ?_))
        obtain ⟨W7, eW7⟩ : ∃ W, w6.alloc (.cells makesCells 78) = W := ⟨_, rfl⟩
        have h7 := H6.out.alloc (.cells makesCells 78)
        have hB7 := blk_alloc HB6.out (.cells makesCells 78)
        have hC7 := HC6.out.alloc (.cells makesCells 78)
        have hM7 := blk_new w6 (.cells makesCells 78)
        rw [eW7] at h7 hB7 hC7 hM7 ⊢
        have b0 := (blk_cell hB7 0).trans rfl
        have b1 := (blk_cell hB7 1).trans rfl
        have b2 := (blk_cell hB7 2).trans rfl
        have b3 := (blk_cell hB7 3).trans rfl
        have b4 := (blk_cell hB7 4).trans rfl
        have H7 := Aside0.mk h7
        have HC7 := Aside0.mk hC7
        have HM7 := Aside0.mk hM7
        have HB7 := Aside0.mk hB7
        have hX := HX4.out
        clear eW7 h7 hB7 hC7 hM7 H5 HB5 HC5 H4 HB4 HC4 H6 HB6 HC6
        by_cases p15 : (op : Int) < 15
        · rw [if_pos p15] at hX
          obtain rfl := Option.some.inj hX
          have p15b : decide ((op : Int) < 15) = true := decide_eq_true p15
          have hop1 : 1 ≤ op := by omega
          have hop2 : op ≤ 14 := by omega
          have HS7 := Aside0.mk (show ∀ k, W7.heap.size ≤ k → P k from fun k hk => HP.out k (Nat.le_trans HC7.out.size hk))
          have P8 := Aside0.mk p8
          have P9 := Aside0.mk p9
          clear p8 p9 hX HX4 p1 p6 p7 p15
          go_wp2
          rcases (show op = 1 ∨ op = 2 ∨ op = 3 ∨ op = 4 ∨ op = 5 ∨ op = 6 ∨ op = 7 ∨ op = 8 ∨ op = 9 ∨ op = 10 ∨ op = 11 ∨ op = 12 ∨ op = 13 ∨ op = 14 by omega) with rfl | rfl | rfl | rfl | rfl | rfl | rfl | rfl | rfl | rfl | rfl | rfl | rfl | rfl
          · have km : W7.cell? ⟨w6.heap.size, 1, none⟩ = some (.func (.func 47) #[] #[]) := (blk_cell HM7.out 1).trans rfl
            go_region_with (go_at_call 47; refine (ops_calls (P := P) (w := W7.drew) (g := g) (m := m2) ⟨_, _, _, _, _, H7.out.drew⟩ HS7.out P8.out P9.out 1 (by decide) (by decide) D A B hD hA hBB d5).mono ?_; rintro e w8 ⟨rfl, ⟨Ac2, cc2, bm2, vK2, vO2, h8⟩, hc8⟩; obtain ⟨AK, cK, eK⟩ := Kd.R_slice h8.kept; subst eK; have k15 := h8.c15; have k13 := h8.c13; have f13 := h8.fz 13; have H8 := Aside0.mk h8; have HC8 := Aside0.mk ((HC7.out.drew).trans hc8); clear h8 hc8)
            all_goals
              go_wp2
              (first | go_end0 | refine bodyPost_ret (results_none rfl _ _ _) rfl ?_)
              exact ⟨rfl, ⟨_, _, _, _, _, H8.out.set13 _⟩, HC8.out.setCell (a := ⟨g, 13, none⟩) H8.out.pg _⟩
          · have km : W7.cell? ⟨w6.heap.size, 2, none⟩ = some (.func (.func 48) #[] #[]) := (blk_cell HM7.out 2).trans rfl
            go_region_with (go_at_call 48; refine (ops_calls (P := P) (w := W7.drew) (g := g) (m := m2) ⟨_, _, _, _, _, H7.out.drew⟩ HS7.out P8.out P9.out 2 (by decide) (by decide) D A B hD hA hBB d5).mono ?_; rintro e w8 ⟨rfl, ⟨Ac2, cc2, bm2, vK2, vO2, h8⟩, hc8⟩; obtain ⟨AK, cK, eK⟩ := Kd.R_slice h8.kept; subst eK; have k15 := h8.c15; have k13 := h8.c13; have f13 := h8.fz 13; have H8 := Aside0.mk h8; have HC8 := Aside0.mk ((HC7.out.drew).trans hc8); clear h8 hc8)
            all_goals
              go_wp2
              (first | go_end0 | refine bodyPost_ret (results_none rfl _ _ _) rfl ?_)
              exact ⟨rfl, ⟨_, _, _, _, _, H8.out.set13 _⟩, HC8.out.setCell (a := ⟨g, 13, none⟩) H8.out.pg _⟩
          · have km : W7.cell? ⟨w6.heap.size, 3, none⟩ = some (.func (.func 49) #[] #[]) := (blk_cell HM7.out 3).trans rfl
            go_region_with (go_at_call 49; refine (ops_calls (P := P) (w := W7.drew) (g := g) (m := m2) ⟨_, _, _, _, _, H7.out.drew⟩ HS7.out P8.out P9.out 3 (by decide) (by decide) D A B hD hA hBB d5).mono ?_; rintro e w8 ⟨rfl, ⟨Ac2, cc2, bm2, vK2, vO2, h8⟩, hc8⟩; obtain ⟨AK, cK, eK⟩ := Kd.R_slice h8.kept; subst eK; have k15 := h8.c15; have k13 := h8.c13; have f13 := h8.fz 13; have H8 := Aside0.mk h8; have HC8 := Aside0.mk ((HC7.out.drew).trans hc8); clear h8 hc8)
            all_goals
              go_wp2
              (first | go_end0 | refine bodyPost_ret (results_none rfl _ _ _) rfl ?_)
              exact ⟨rfl, ⟨_, _, _, _, _, H8.out.set13 _⟩, HC8.out.setCell (a := ⟨g, 13, none⟩) H8.out.pg _⟩
          · have km : W7.cell? ⟨w6.heap.size, 4, none⟩ = some (.func (.func 50) #[] #[]) := (blk_cell HM7.out 4).trans rfl
            go_region_with (go_at_call 50; refine (ops_calls (P := P) (w := W7.drew) (g := g) (m := m2) ⟨_, _, _, _, _, H7.out.drew⟩ HS7.out P8.out P9.out 4 (by decide) (by decide) D A B hD hA hBB d5).mono ?_; rintro e w8 ⟨rfl, ⟨Ac2, cc2, bm2, vK2, vO2, h8⟩, hc8⟩; obtain ⟨AK, cK, eK⟩ := Kd.R_slice h8.kept; subst eK; have k15 := h8.c15; have k13 := h8.c13; have f13 := h8.fz 13; have H8 := Aside0.mk h8; have HC8 := Aside0.mk ((HC7.out.drew).trans hc8); clear h8 hc8)
            all_goals
              go_wp2
              (first | go_end0 | refine bodyPost_ret (results_none rfl _ _ _) rfl ?_)
              exact ⟨rfl, ⟨_, _, _, _, _, H8.out.set13 _⟩, HC8.out.setCell (a := ⟨g, 13, none⟩) H8.out.pg _⟩
          · have km : W7.cell? ⟨w6.heap.size, 5, none⟩ = some (.func (.func 52) #[] #[]) := (blk_cell HM7.out 5).trans rfl
            go_region_with (go_at_call 52; refine (ops_calls (P := P) (w := W7.drew) (g := g) (m := m2) ⟨_, _, _, _, _, H7.out.drew⟩ HS7.out P8.out P9.out 5 (by decide) (by decide) D A B hD hA hBB d5).mono ?_; rintro e w8 ⟨rfl, ⟨Ac2, cc2, bm2, vK2, vO2, h8⟩, hc8⟩; obtain ⟨AK, cK, eK⟩ := Kd.R_slice h8.kept; subst eK; have k15 := h8.c15; have k13 := h8.c13; have f13 := h8.fz 13; have H8 := Aside0.mk h8; have HC8 := Aside0.mk ((HC7.out.drew).trans hc8); clear h8 hc8)
            all_goals
              go_wp2
              (first | go_end0 | refine bodyPost_ret (results_none rfl _ _ _) rfl ?_)
              exact ⟨rfl, ⟨_, _, _, _, _, H8.out.set13 _⟩, HC8.out.setCell (a := ⟨g, 13, none⟩) H8.out.pg _⟩
          · have km : W7.cell? ⟨w6.heap.size, 6, none⟩ = some (.func (.func 53) #[] #[]) := (blk_cell HM7.out 6).trans rfl
            go_region_with (go_at_call 53; refine (ops_calls (P := P) (w := W7.drew) (g := g) (m := m2) ⟨_, _, _, _, _, H7.out.drew⟩ HS7.out P8.out P9.out 6 (by decide) (by decide) D A B hD hA hBB d5).mono ?_; rintro e w8 ⟨rfl, ⟨Ac2, cc2, bm2, vK2, vO2, h8⟩, hc8⟩; obtain ⟨AK, cK, eK⟩ := Kd.R_slice h8.kept; subst eK; have k15 := h8.c15; have k13 := h8.c13; have f13 := h8.fz 13; have H8 := Aside0.mk h8; have HC8 := Aside0.mk ((HC7.out.drew).trans hc8); clear h8 hc8)
            all_goals
              go_wp2
              (first | go_end0 | refine bodyPost_ret (results_none rfl _ _ _) rfl ?_)
              exact ⟨rfl, ⟨_, _, _, _, _, H8.out.set13 _⟩, HC8.out.setCell (a := ⟨g, 13, none⟩) H8.out.pg _⟩
          · have km : W7.cell? ⟨w6.heap.size, 7, none⟩ = some (.func (.func 54) #[] #[]) := (blk_cell HM7.out 7).trans rfl
            go_region_with (go_at_call 54; refine (ops_calls (P := P) (w := W7.drew) (g := g) (m := m2) ⟨_, _, _, _, _, H7.out.drew⟩ HS7.out P8.out P9.out 7 (by decide) (by decide) D A B hD hA hBB d5).mono ?_; rintro e w8 ⟨rfl, ⟨Ac2, cc2, bm2, vK2, vO2, h8⟩, hc8⟩; obtain ⟨AK, cK, eK⟩ := Kd.R_slice h8.kept; subst eK; have k15 := h8.c15; have k13 := h8.c13; have f13 := h8.fz 13; have H8 := Aside0.mk h8; have HC8 := Aside0.mk ((HC7.out.drew).trans hc8); clear h8 hc8)
            all_goals
              go_wp2
              (first | go_end0 | refine bodyPost_ret (results_none rfl _ _ _) rfl ?_)
              exact ⟨rfl, ⟨_, _, _, _, _, H8.out.set13 _⟩, HC8.out.setCell (a := ⟨g, 13, none⟩) H8.out.pg _⟩
          · have km : W7.cell? ⟨w6.heap.size, 8, none⟩ = some (.func (.func 55) #[] #[]) := (blk_cell HM7.out 8).trans rfl
            go_region_with (go_at_call 55; refine (ops_calls (P := P) (w := W7.drew) (g := g) (m := m2) ⟨_, _, _, _, _, H7.out.drew⟩ HS7.out P8.out P9.out 8 (by decide) (by decide) D A B hD hA hBB d5).mono ?_; rintro e w8 ⟨rfl, ⟨Ac2, cc2, bm2, vK2, vO2, h8⟩, hc8⟩; obtain ⟨AK, cK, eK⟩ := Kd.R_slice h8.kept; subst eK; have k15 := h8.c15; have k13 := h8.c13; have f13 := h8.fz 13; have H8 := Aside0.mk h8; have HC8 := Aside0.mk ((HC7.out.drew).trans hc8); clear h8 hc8)
            all_goals
              go_wp2
              (first | go_end0 | refine bodyPost_ret (results_none rfl _ _ _) rfl ?_)
              exact ⟨rfl, ⟨_, _, _, _, _, H8.out.set13 _⟩, HC8.out.setCell (a := ⟨g, 13, none⟩) H8.out.pg _⟩
          · have km : W7.cell? ⟨w6.heap.size, 9, none⟩ = some (.func (.func 56) #[] #[]) := (blk_cell HM7.out 9).trans rfl
            go_region_with (go_at_call 56; refine (ops_calls (P := P) (w := W7.drew) (g := g) (m := m2) ⟨_, _, _, _, _, H7.out.drew⟩ HS7.out P8.out P9.out 9 (by decide) (by decide) D A B hD hA hBB d5).mono ?_; rintro e w8 ⟨rfl, ⟨Ac2, cc2, bm2, vK2, vO2, h8⟩, hc8⟩; obtain ⟨AK, cK, eK⟩ := Kd.R_slice h8.kept; subst eK; have k15 := h8.c15; have k13 := h8.c13; have f13 := h8.fz 13; have H8 := Aside0.mk h8; have HC8 := Aside0.mk ((HC7.out.drew).trans hc8); clear h8 hc8)
            all_goals
              go_wp2
              (first | go_end0 | refine bodyPost_ret (results_none rfl _ _ _) rfl ?_)
              exact ⟨rfl, ⟨_, _, _, _, _, H8.out.set13 _⟩, HC8.out.setCell (a := ⟨g, 13, none⟩) H8.out.pg _⟩
          · have km : W7.cell? ⟨w6.heap.size, 10, none⟩ = some (.func (.func 57) #[] #[]) := (blk_cell HM7.out 10).trans rfl
            go_region_with (go_at_call 57; refine (ops_calls (P := P) (w := W7.drew) (g := g) (m := m2) ⟨_, _, _, _, _, H7.out.drew⟩ HS7.out P8.out P9.out 10 (by decide) (by decide) D A B hD hA hBB d5).mono ?_; rintro e w8 ⟨rfl, ⟨Ac2, cc2, bm2, vK2, vO2, h8⟩, hc8⟩; obtain ⟨AK, cK, eK⟩ := Kd.R_slice h8.kept; subst eK; have k15 := h8.c15; have k13 := h8.c13; have f13 := h8.fz 13; have H8 := Aside0.mk h8; have HC8 := Aside0.mk ((HC7.out.drew).trans hc8); clear h8 hc8)
            all_goals
              go_wp2
              (first | go_end0 | refine bodyPost_ret (results_none rfl _ _ _) rfl ?_)
              exact ⟨rfl, ⟨_, _, _, _, _, H8.out.set13 _⟩, HC8.out.setCell (a := ⟨g, 13, none⟩) H8.out.pg _⟩
          · have km : W7.cell? ⟨w6.heap.size, 11, none⟩ = some (.func (.func 58) #[] #[]) := (blk_cell HM7.out 11).trans rfl
            go_region_with (go_at_call 58; refine (ops_calls (P := P) (w := W7.drew) (g := g) (m := m2) ⟨_, _, _, _, _, H7.out.drew⟩ HS7.out P8.out P9.out 11 (by decide) (by decide) D A B hD hA hBB d5).mono ?_; rintro e w8 ⟨rfl, ⟨Ac2, cc2, bm2, vK2, vO2, h8⟩, hc8⟩; obtain ⟨AK, cK, eK⟩ := Kd.R_slice h8.kept; subst eK; have k15 := h8.c15; have k13 := h8.c13; have f13 := h8.fz 13; have H8 := Aside0.mk h8; have HC8 := Aside0.mk ((HC7.out.drew).trans hc8); clear h8 hc8)
            all_goals
              go_wp2
              (first | go_end0 | refine bodyPost_ret (results_none rfl _ _ _) rfl ?_)
              exact ⟨rfl, ⟨_, _, _, _, _, H8.out.set13 _⟩, HC8.out.setCell (a := ⟨g, 13, none⟩) H8.out.pg _⟩
          · have km : W7.cell? ⟨w6.heap.size, 12, none⟩ = some (.func (.func 59) #[] #[]) := (blk_cell HM7.out 12).trans rfl
            go_region_with (go_at_call 59; refine (ops_calls (P := P) (w := W7.drew) (g := g) (m := m2) ⟨_, _, _, _, _, H7.out.drew⟩ HS7.out P8.out P9.out 12 (by decide) (by decide) D A B hD hA hBB d5).mono ?_; rintro e w8 ⟨rfl, ⟨Ac2, cc2, bm2, vK2, vO2, h8⟩, hc8⟩; obtain ⟨AK, cK, eK⟩ := Kd.R_slice h8.kept; subst eK; have k15 := h8.c15; have k13 := h8.c13; have f13 := h8.fz 13; have H8 := Aside0.mk h8; have HC8 := Aside0.mk ((HC7.out.drew).trans hc8); clear h8 hc8)
            all_goals
              go_wp2
              (first | go_end0 | refine bodyPost_ret (results_none rfl _ _ _) rfl ?_)
              exact ⟨rfl, ⟨_, _, _, _, _, H8.out.set13 _⟩, HC8.out.setCell (a := ⟨g, 13, none⟩) H8.out.pg _⟩
          · have km : W7.cell? ⟨w6.heap.size, 13, none⟩ = some (.func (.func 60) #[] #[]) := (blk_cell HM7.out 13).trans rfl
            go_region_with (go_at_call 60; refine (ops_calls (P := P) (w := W7.drew) (g := g) (m := m2) ⟨_, _, _, _, _, H7.out.drew⟩ HS7.out P8.out P9.out 13 (by decide) (by decide) D A B hD hA hBB d5).mono ?_; rintro e w8 ⟨rfl, ⟨Ac2, cc2, bm2, vK2, vO2, h8⟩, hc8⟩; obtain ⟨AK, cK, eK⟩ := Kd.R_slice h8.kept; subst eK; have k15 := h8.c15; have k13 := h8.c13; have f13 := h8.fz 13; have H8 := Aside0.mk h8; have HC8 := Aside0.mk ((HC7.out.drew).trans hc8); clear h8 hc8)
            all_goals
              go_wp2
              (first | go_end0 | refine bodyPost_ret (results_none rfl _ _ _) rfl ?_)
              exact ⟨rfl, ⟨_, _, _, _, _, H8.out.set13 _⟩, HC8.out.setCell (a := ⟨g, 13, none⟩) H8.out.pg _⟩
          · have km : W7.cell? ⟨w6.heap.size, 14, none⟩ = some (.func (.func 61) #[] #[]) := (blk_cell HM7.out 14).trans rfl
            go_region_with (go_at_call 61; refine (ops_calls (P := P) (w := W7.drew) (g := g) (m := m2) ⟨_, _, _, _, _, H7.out.drew⟩ HS7.out P8.out P9.out 14 (by decide) (by decide) D A B hD hA hBB d5).mono ?_; rintro e w8 ⟨rfl, ⟨Ac2, cc2, bm2, vK2, vO2, h8⟩, hc8⟩; obtain ⟨AK, cK, eK⟩ := Kd.R_slice h8.kept; subst eK; have k15 := h8.c15; have k13 := h8.c13; have f13 := h8.fz 13; have H8 := Aside0.mk h8; have HC8 := Aside0.mk ((HC7.out.drew).trans hc8); clear h8 hc8)
            all_goals
              go_wp2
              (first | go_end0 | refine bodyPost_ret (results_none rfl _ _ _) rfl ?_)
              exact ⟨rfl, ⟨_, _, _, _, _, H8.out.set13 _⟩, HC8.out.setCell (a := ⟨g, 13, none⟩) H8.out.pg _⟩
        · rw [if_neg p15] at hX
          have p15b : decide ((op : Int) < 15) = false := decide_eq_false p15
          have kB := H7.out.creg B hBB
          have q5 : (0 : Int) ≤ (B : Int) := by omega
          have q6 : (B : Int) < 10 := by omega
          obtain ⟨z15, u1⟩ : ∃ z, wrap64 ((op : Int) - 15) = z := ⟨_, rfl⟩
          have u2 : IntKind.i64.wrap ((op : Int) - 15) = z15 := (i64_w _).trans u1
          obtain ⟨z35, u3⟩ : ∃ z, wrap64 ((op : Int) - 35) = z := ⟨_, rfl⟩
          have u4 : IntKind.i64.wrap ((op : Int) - 35) = z35 := (i64_w _).trans u3
          unfold binF binKind at hX
          simp only [Int.toNat_natCast, u1, u3] at hX
          clear HX4 p1 p6 p7 p8 p9 p15
          have kd := H7.out.creg D hD
          have fd := H7.out.fz (2 + D)
          by_cases c35 : (op : Int) > 35
          · rw [if_pos c35, if_pos c35] at hX
            have c35b : decide (35 < (op : Int)) = true := decide_eq_true c35
            obtain ⟨⟨r1, r2, r3⟩, hbin, hX⟩ := Option.bind_eq_some_iff.1 hX
            have HBn := Aside0.mk hbin
            clear hbin c35
            simp only at hX
            rcases r2 with _ | _
            · obtain rfl := Option.some.inj hX
              clear hX
              go_wp2
              repeat (go_quiet (fail); try go_wp2_with (first | (go_at_call 38; refine (irsem_Bin.calls k z35 (reg m2 A) d5 r1 false r3 _ HBn.out).mono ?_; rintro e w9 ⟨rfl, ⟨nd, rfl⟩⟩)))
              (first | go_end0 | refine bodyPost_ret (results_none rfl _ _ _) rfl ?_)
              exact ⟨rfl, ⟨_, _, _, _, _, IsMx.setReg (by repeat (first | (with_reducible exact H7.out) | (with_reducible apply IsMx.drewN) | (with_reducible apply IsMx.drew))) D hD r1⟩, Chg.setCell (a := ⟨g, 2 + D, none⟩) (by repeat (first | (with_reducible exact HC7.out) | (with_reducible apply Chg.drewN) | (with_reducible apply Chg.drew))) H7.out.pg _⟩
            · obtain rfl := Option.some.inj hX
              clear hX
              go_wp2
              repeat (go_quiet (fail); try go_wp2_with (first | (go_at_call 38; refine (irsem_Bin.calls k z35 (reg m2 A) d5 r1 true r3 _ HBn.out).mono ?_; rintro e w9 ⟨rfl, ⟨nd, rfl⟩⟩) | (go_at_call 36; refine (trap_calls (P := P) (g := g) (m := m2) ⟨_, _, _, _, _, (by repeat (first | (with_reducible exact H7.out) | (with_reducible apply IsMx.drewN) | (with_reducible apply IsMx.drew)))⟩ 1).mono ?_; rintro e w9 ⟨rfl, hi, hc⟩)))
              refine bodyPost_ret (results_none rfl _ _ _) rfl ?_
              exact ⟨rfl, hi, Chg.trans (by repeat (first | (with_reducible exact HC7.out) | (with_reducible apply Chg.drewN) | (with_reducible apply Chg.drew))) hc⟩
          · rw [if_neg c35, if_neg c35] at hX
            have c35b : decide (35 < (op : Int)) = false := decide_eq_false c35
            obtain ⟨⟨r1, r2, r3⟩, hbin, hX⟩ := Option.bind_eq_some_iff.1 hX
            have HBn := Aside0.mk hbin
            clear hbin c35
            simp only at hX
            rcases r2 with _ | _
            · obtain rfl := Option.some.inj hX
              clear hX
              go_wp2
              repeat (go_quiet (fail); try go_wp2_with (first | (go_at_call 38; refine (irsem_Bin.calls k z15 (reg m2 A) (reg m2 B) r1 false r3 _ HBn.out).mono ?_; rintro e w9 ⟨rfl, ⟨nd, rfl⟩⟩)))
              (first | go_end0 | refine bodyPost_ret (results_none rfl _ _ _) rfl ?_)
              exact ⟨rfl, ⟨_, _, _, _, _, IsMx.setReg (by repeat (first | (with_reducible exact H7.out) | (with_reducible apply IsMx.drewN) | (with_reducible apply IsMx.drew))) D hD r1⟩, Chg.setCell (a := ⟨g, 2 + D, none⟩) (by repeat (first | (with_reducible exact HC7.out) | (with_reducible apply Chg.drewN) | (with_reducible apply Chg.drew))) H7.out.pg _⟩
            · obtain rfl := Option.some.inj hX
              clear hX
              go_wp2
              repeat (go_quiet (fail); try go_wp2_with (first | (go_at_call 38; refine (irsem_Bin.calls k z15 (reg m2 A) (reg m2 B) r1 true r3 _ HBn.out).mono ?_; rintro e w9 ⟨rfl, ⟨nd, rfl⟩⟩) | (go_at_call 36; refine (trap_calls (P := P) (g := g) (m := m2) ⟨_, _, _, _, _, (by repeat (first | (with_reducible exact H7.out) | (with_reducible apply IsMx.drewN) | (with_reducible apply IsMx.drew)))⟩ 1).mono ?_; rintro e w9 ⟨rfl, hi, hc⟩)))
              refine bodyPost_ret (results_none rfl _ _ _) rfl ?_
              exact ⟨rfl, hi, Chg.trans (by repeat (first | (with_reducible exact HC7.out) | (with_reducible apply Chg.drewN) | (with_reducible apply Chg.drew))) hc⟩
      · rw [if_neg cr] at hX
        exact absurd hX (by simp)
    · have hX := HX.out
      rw [if_neg e7] at hX
      obtain rfl := Option.some.inj hX
      have e7a : (d7 != 0) = true := bne_iff_ne.mpr e7
      clear hX e7
      go_wp2_with (go_at_call 36; refine (trap_calls ⟨_, _, _, _, _, HM.out⟩ 11).mono ?_; rintro e w2 ⟨rfl, hi, hc⟩)
      refine bodyPost_ret (results_none rfl _ _ _) rfl ?_
      exact ⟨rfl, hi, HC.out.trans hc⟩
end Go.Proofs.YtekhnkpjeofdpaaDoor.A
