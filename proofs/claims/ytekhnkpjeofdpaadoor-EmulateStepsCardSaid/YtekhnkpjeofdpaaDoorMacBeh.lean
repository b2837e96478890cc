/- emulate's machine: Behaviour, Run: contracts (where the two tables lie). -/
import Derived.Test.YtekhnkpjeofdpaaDoorMacNew
import Derived.Deep.RegionHeld3
set_option linter.unusedVariables false
set_option maxRecDepth 100000
namespace Go.Proofs.YtekhnkpjeofdpaaDoor.A
open Go.RowKit Go.Proofs.YtekhnkpjeofdpaaDoorW.PrintWords Go.Proofs.YtekhnkpjeofdpaaDoorW.PrintLast Go.Proofs.YtekhnkpjeofdpaaDoorW.PrintMore
set_option maxHeartbeats 4000000
def endOf (m : Mac) : Int := if m.end_ = 0 then 4 else m.end_
theorem R_setcell {e base : Nat} {w : World} {v : Value} {xs : List Int} {g t : Nat} {cells : Array Value} (h : Kd.R (Kd.int .i64) e w base (fun _ => True) v xs) (hb : w.heap[g]? = some (.cells cells t (0, 0))) (ht : e ≠ t) (j : Nat) (u : Value) : Kd.R (Kd.int .i64) e (w.setCell ⟨g, j, none⟩ u) base (fun _ => True) v xs :=
  Kd.R_mono (Kd.R_step (Kd.R_types h hb (fun q hq => by
    have hq2 : q = e := by simpa [Kd.int, Kd.scalar] using hq
    rw [hq2]; exact ht)) (fun k hk _ => Below.heap_setCell w ⟨g, j, none⟩ u k hk.2)) (fun _ _ => trivial)
theorem behaviour_calls {P : Rg} {w : World} {g : Nat} {m : Mac} (h : IsM 57 P w g m) (hl : m.out.length ≤ 2000) :
    Calls Tryd.prog 14 #[.pointer (some ⟨g, 0, none⟩)] w fun e w' => ∃ v0, e = .returned (.tuple #[.agg #[v0, .int .i64 (endOf m), .int .i64 m.why], .int .i64 0]) ∧ Kd.R (Kd.int .i64) 2 w' w.heap.size (fun _ => True) v0 m.out ∧ Below w.heap.size w w' := by
  obtain ⟨Ac, cc, bm, vK, vO, h⟩ := h
  obtain ⟨AO, cO, eO⟩ : ∃ A c, vO = .slice A m.out.length c := Kd.R_slice h.out
  subst eO
  have hcl := Aside0.mk (show slices_Clone_int64_int64.f m.out = some m.out by simp only [slices_Clone_int64_int64.f, Option.bind_some, List.nil_append, List.length_nil]; rw [if_pos (by omega)])
  have hcap := (Kd.R_reads' h.out).2.1
  have HC := Aside0.mk (Kd.R_reads' h.out).2.2
  have HH := Aside0.mk h
  obtain ⟨W1, eW1⟩ : ∃ W, w.alloc (.cells #[.slice none 0 0, .int .i64 0, .int .i64 0] 28) = W := ⟨_, rfl⟩
  have h1 := h.alloc (.cells #[.slice none 0 0, .int .i64 0, .int .i64 0] 28)
  have hb1 := below_alloc (Below.refl w.heap.size w) (.cells #[.slice none 0 0, .int .i64 0, .int .i64 0] 28)
  have hz := blk_new w (.cells #[.slice none 0 0, .int .i64 0, .int .i64 0] 28)
  rw [eW1] at h1 hb1 hz
  have H1 := Aside0.mk h1
  have HB1 := Aside0.mk hb1
  have HZ := Aside0.mk hz
  clear h h1 hb1 hz
  go_enter Tryd.func14, Tryd.ntmps14
  go_upto_region 3 with (go_at_call 26; refine (none_calls (P := P) (g := g) (m := m) ⟨_, _, _, _, _, H1.out⟩).mono ?_; rintro e w2 ⟨rfl, hw⟩; obtain rfl : W1 = w2 := hw.symm)
  try rw [eW1]
  have c16 := H1.out.c16
  have c17 := H1.out.c17
  have c18 := H1.out.c18
  have c16a := fun o => (H1.out.alloc o).c16
  have c17a := fun o => (H1.out.alloc o).c17
  have c18a := fun o => (H1.out.alloc o).c18
  clear eW1
  go_cut [4] (fun v4 wc => ∃ (gb : Nat) (v0 : Value), v4 = .pointer (some ⟨gb, 0, none⟩) ∧ Aside0 (wc.heap[gb]? = some (.cells #[v0, .int .i64 m.end_, .int .i64 m.why] 28 (0, 0))) ∧ Aside0 (Kd.R (Kd.int .i64) 2 wc W1.heap.size (fun _ => True) v0 m.out) ∧ Aside0 (W1.heap.size ≤ gb) ∧ Aside0 (Below W1.heap.size W1 wc))
  case first =>
    go_region_held3 (fun w' => w'.cell? ⟨g, 16, none⟩ = some (.slice AO m.out.length cO) ∧ w'.cell? ⟨g, 17, none⟩ = some (.int .i64 m.end_) ∧ w'.cell? ⟨g, 18, none⟩ = some (.int .i64 m.why)) (first | exact ⟨(H1.out).c16, (H1.out).c17, (H1.out).c18⟩ | exact ⟨(H1.out.drew).c16, (H1.out.drew).c17, (H1.out.drew).c18⟩ | exact ⟨(H1.out.alloc _).c16, (H1.out.alloc _).c17, (H1.out.alloc _).c18⟩ | exact ⟨((H1.out.alloc _).drew).c16, ((H1.out.alloc _).drew).c17, ((H1.out.alloc _).drew).c18⟩ | exact ⟨(H3.out).c16, (H3.out).c17, (H3.out).c18⟩ | exact ⟨(H3.out.alloc _).c16, (H3.out.alloc _).c17, (H3.out.alloc _).c18⟩ | exact ⟨(H1.out.below (by repeat (first | (with_reducible exact HB3.out) | (with_reducible apply below_alloc) | (with_reducible apply pw_below_drewN) | (with_reducible apply below_drew1) | refine below_set ?_ (Nat.le_refl _)))).c16, (H1.out.below (by repeat (first | (with_reducible exact HB3.out) | (with_reducible apply below_alloc) | (with_reducible apply pw_below_drewN) | (with_reducible apply below_drew1) | refine below_set ?_ (Nat.le_refl _)))).c17, (H1.out.below (by repeat (first | (with_reducible exact HB3.out) | (with_reducible apply below_alloc) | (with_reducible apply pw_below_drewN) | (with_reducible apply below_drew1) | refine below_set ?_ (Nat.le_refl _)))).c18⟩) (first | (go_at_call 27; refine (slices_Clone_int64_int64.calls AO cO m.out m.out _ (Kd.C_below HC.out (by repeat (first | (with_reducible exact HB1.out) | (with_reducible apply below_alloc) | (with_reducible apply pw_below_drewN) | (with_reducible apply below_drew1)))) hcap hcl.out).mono ?_; rintro e w3 ⟨v0, rfl, hr, hb⟩; obtain ⟨Av, cv, ev⟩ := Kd.R_slice hr; subst ev; have HB3 := Aside0.mk (below_step (by repeat (first | (with_reducible exact Below.refl _ _) | (with_reducible apply below_alloc) | (with_reducible apply pw_below_drewN) | (with_reducible apply below_drew1))) hb : Below W1.heap.size W1 w3); have HR := Aside0.mk (Kd.R_lower (base' := W1.heap.size) hr (Below.size (B := W1.heap.size) (w := W1) (by repeat (first | (with_reducible exact Below.refl _ _) | (with_reducible apply below_alloc) | (with_reducible apply pw_below_drewN) | (with_reducible apply below_drew1))))); have H3 := Aside0.mk (H1.out.below HB3.out); have d17 := H3.out.c17; have d18 := H3.out.c18; have d17a := fun o => (H3.out.alloc o).c17; have d18a := fun o => (H3.out.alloc o).c18; try (have HMz := Aside0.mk (blk_below (w := (W1.alloc (.cells #[.slice none 0 0, .int .i64 0, .int .i64 0] 28)).drew) (g := W1.heap.size) (blk_drew (blk_new W1 (.cells #[.slice none 0 0, .int .i64 0, .int .i64 0] 28))) hb); have z0 := (blk_cell HMz.out 0).trans rfl; have z1 := (blk_cell HMz.out 1).trans rfl; have z2 := (blk_cell HMz.out 2).trans rfl; have y0 := blk_frozen HMz.out 0; have y1 := blk_frozen HMz.out 1; have y2 := blk_frozen HMz.out 2); clear hr hb))
    all_goals
      try go_wp2
      try simp only [Act.put, List.setIfInBounds_toArray, List.set_cons_zero, List.set_cons_succ, List.getElem_toArray, List.getElem_cons_succ, List.getElem_cons_zero]
      go_meet
      case rel => first
        | exact ⟨w3.heap.size, _, rfl, ⟨by (with_reducible repeat (first | refine blk_drewN ?_ _ | refine blk_drew ?_)); exact blk_new _ _⟩, ⟨by (with_reducible repeat (first | apply Kd.R_drewN | apply Kd.R_drew | apply Kd.R_alloc)); exact HR.out⟩, ⟨HB3.out.size⟩, ⟨(by repeat (first | (with_reducible exact HB3.out) | (with_reducible apply below_alloc) | (with_reducible apply pw_below_drewN) | (with_reducible apply below_drew1) | refine below_set ?_ (Nat.le_refl _)))⟩⟩
        | exact ⟨W1.heap.size, _, rfl, ⟨by (with_reducible repeat (first | refine blk_drewN ?_ _ | refine blk_drew ?_)); exact (blk_put (cs' := #[.slice Av m.out.length cv, .int .i64 m.end_, .int .i64 m.why]) (blk_put (cs' := #[.slice Av m.out.length cv, .int .i64 m.end_, .int .i64 0]) (blk_put (cs' := #[.slice Av m.out.length cv, .int .i64 0, .int .i64 0]) HMz.out 0 (.slice Av m.out.length cv) rfl) 1 (.int .i64 m.end_) rfl) 2 (.int .i64 m.why) rfl)⟩, ⟨by (with_reducible repeat (first | apply Kd.R_drewN | apply Kd.R_drew | apply Kd.R_alloc)); exact R_setcell (R_setcell (R_setcell HR.out HMz.out (by decide) 0 (.slice Av m.out.length cv)) (blk_put (cs' := #[.slice Av m.out.length cv, .int .i64 0, .int .i64 0]) HMz.out 0 (.slice Av m.out.length cv) rfl) (by decide) 1 (.int .i64 m.end_)) (blk_put (cs' := #[.slice Av m.out.length cv, .int .i64 m.end_, .int .i64 0]) (blk_put (cs' := #[.slice Av m.out.length cv, .int .i64 0, .int .i64 0]) HMz.out 0 (.slice Av m.out.length cv) rfl) 1 (.int .i64 m.end_) rfl) (by decide) 2 (.int .i64 m.why)⟩, ⟨Nat.le_refl _⟩, ⟨(by repeat (first | (with_reducible exact HB3.out) | (with_reducible apply below_alloc) | (with_reducible apply pw_below_drewN) | (with_reducible apply below_drew1) | refine below_set ?_ (Nat.le_refl _)))⟩⟩
  case rest =>
    obtain ⟨gb, v0, rfl, HGB, HR, HGE, HBW⟩ := hcut
    obtain ⟨Av, cv, ev⟩ := Kd.R_slice HR.out
    subst ev
    have HM := Aside0.mk (H1.out.below HBW.out)
    have hzw := blk_below HZ.out HBW.out
    have HZW := Aside0.mk hzw
    have hne : gb ≠ w.heap.size := Nat.ne_of_gt (Nat.lt_of_lt_of_le (blk_lt HZ.out) HGE.out)
    have c17' := HM.out.c17
    have g0 : wc.cell? ⟨gb, 0, none⟩ = some (.slice Av m.out.length cv) := (blk_cell HGB.out 0).trans rfl
    have g1 : wc.cell? ⟨gb, 1, none⟩ = some (.int .i64 m.end_) := (blk_cell HGB.out 1).trans rfl
    have g2 : wc.cell? ⟨gb, 2, none⟩ = some (.int .i64 m.why) := (blk_cell HGB.out 2).trans rfl
    have r0 : wc.cell? ⟨w.heap.size, 0, none⟩ = some (.slice none 0 0) := (blk_cell hzw 0).trans rfl
    have r1 : wc.cell? ⟨w.heap.size, 1, none⟩ = some (.int .i64 0) := (blk_cell hzw 1).trans rfl
    have r2 : wc.cell? ⟨w.heap.size, 2, none⟩ = some (.int .i64 0) := (blk_cell hzw 2).trans rfl
    have y0 := blk_frozen hzw 0
    have y1 := blk_frozen hzw 1
    have y2 := blk_frozen hzw 2
    have x1 := blk_frozen HGB.out 1
    have HNE := Aside0.mk hne
    have hsz := HB1.out.size
    clear hzw c16 c17 c18 c16a c17a c18a
    by_cases ce : m.end_ = 0
    · have ce0 : (m.end_ == 0) = true := beq_iff_eq.mpr ce
      have HE := Aside0.mk (show endOf m = 4 from if_pos ce)
      have HGB2 := Aside0.mk (blk_put (cs' := #[.slice Av m.out.length cv, .int .i64 4, .int .i64 m.why]) HGB.out 1 (.int .i64 4) rfl)
      clear ce
      go_wp2
      have Z1 := blk_far (p := ⟨gb, 1, none⟩) HZW.out HNE.out.symm (.int .i64 4)
      have Z2 := blk_put (cs' := #[.slice Av m.out.length cv, .int .i64 0, .int .i64 0]) Z1 0 (.slice Av m.out.length cv) rfl
      have Z3 := blk_put (cs' := #[.slice Av m.out.length cv, .int .i64 4, .int .i64 0]) Z2 1 (.int .i64 4) rfl
      have Z4 := blk_put (cs' := #[.slice Av m.out.length cv, .int .i64 4, .int .i64 m.why]) Z3 2 (.int .i64 m.why) rfl
      have R4 := R_setcell (R_setcell (R_setcell (R_setcell HR.out HGB.out (by decide) 1 (.int .i64 4)) Z1 (by decide) 0 (.slice Av m.out.length cv)) Z2 (by decide) 1 (.int .i64 4)) Z3 (by decide) 2 (.int .i64 m.why)
      refine bodyPost_ret (results_ct (fn := Tryd.f14) rfl _ _ w.heap.size 28 #[.slice Av m.out.length cv, .int .i64 4, .int .i64 m.why] (0, 0) _ rfl Z4 Tryd.underlying28 rfl (by kernel_rfl)) rfl ?_
      refine ⟨_, by rw [HE.out]; rfl, Kd.R_lower R4 hsz, below_set (below_set (below_set (below_set (HB1.out.trans (HBW.out.mono HB1.out.size)) (Nat.le_trans hsz HGE.out)) (Nat.le_refl _)) (Nat.le_refl _)) (Nat.le_refl _)⟩
    · have ce0 : (m.end_ == 0) = false := beq_eq_false_iff_ne.mpr ce
      have HE := Aside0.mk (show endOf m = m.end_ from if_neg ce)
      clear ce
      go_wp2
      have Z2 := blk_put (cs' := #[.slice Av m.out.length cv, .int .i64 0, .int .i64 0]) HZW.out 0 (.slice Av m.out.length cv) rfl
      have Z3 := blk_put (cs' := #[.slice Av m.out.length cv, .int .i64 m.end_, .int .i64 0]) Z2 1 (.int .i64 m.end_) rfl
      have Z4 := blk_put (cs' := #[.slice Av m.out.length cv, .int .i64 m.end_, .int .i64 m.why]) Z3 2 (.int .i64 m.why) rfl
      have R4 := R_setcell (R_setcell (R_setcell HR.out HZW.out (by decide) 0 (.slice Av m.out.length cv)) Z2 (by decide) 1 (.int .i64 m.end_)) Z3 (by decide) 2 (.int .i64 m.why)
      refine bodyPost_ret (results_ct (fn := Tryd.f14) rfl _ _ w.heap.size 28 #[.slice Av m.out.length cv, .int .i64 m.end_, .int .i64 m.why] (0, 0) _ rfl Z4 Tryd.underlying28 rfl (by kernel_rfl)) rfl ?_
      refine ⟨_, by rw [HE.out]; rfl, Kd.R_lower R4 hsz, below_set (below_set (below_set (HB1.out.trans (HBW.out.mono HB1.out.size)) (Nat.le_refl _)) (Nat.le_refl _)) (Nat.le_refl _)⟩
end Go.Proofs.YtekhnkpjeofdpaaDoor.A
