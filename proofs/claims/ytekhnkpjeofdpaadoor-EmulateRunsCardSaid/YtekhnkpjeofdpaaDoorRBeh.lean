/- The reference's machine (cupelref23): Behaviour: contract. -/
import Derived.Test.YtekhnkpjeofdpaaDoorRMac
import Derived.Test.YtekhnkpjeofdpaaDoorMacBeh
set_option linter.unusedVariables false
set_option maxRecDepth 100000
namespace Go.Proofs.YtekhnkpjeofdpaaDoor.A
open Go.RowKit Go.Proofs.YtekhnkpjeofdpaaDoorW.PrintWords Go.Proofs.YtekhnkpjeofdpaaDoorW.PrintLast Go.Proofs.YtekhnkpjeofdpaaDoorW.PrintMore
set_option maxHeartbeats 4000000
theorem R_lit0 {k : IntKind} {e base b : Nat} {W : World} (hb : W.heap[b]? = some (.cells #[] e (0, 0))) (hB : base ≤ b) : Kd.R (Kd.int k) e W base (fun _ => True) (.slice (some ⟨b, 0, none⟩) 0 0) [] := by
  refine ⟨fun _ _ => trivial, [], ⟨rfl, .inr ⟨b, 0, #[], rfl, hB, hb, Nat.le_refl _, by decide, rfl, rfl⟩⟩, ?_⟩
  exact Reps.none _ _
theorem rbeh_calls {P : Rg} {w : World} {g : Nat} {m : Mac} (h : IsM 46 P w g m) (hl : m.out.length ≤ 2000) (hwy : m.end_ = 0 → m.why = 0) :
    Calls Tryd.prog 19 #[.pointer (some ⟨g, 0, none⟩)] w fun e w' => ∃ v0, e = .returned (.agg #[v0, .int .i64 (endOf m), .int .i64 m.why]) ∧ Kd.R (Kd.int .i64) 2 w' w.heap.size (fun _ => True) v0 m.out ∧ Below w.heap.size w w' := by
  obtain ⟨Ac, cc, bm, vK, vO, h⟩ := h
  obtain ⟨AO, cO, eO⟩ : ∃ A c, vO = .slice A m.out.length c := Kd.R_slice h.out
  subst eO
  have HC := Aside0.mk (Kd.R_reads' h.out).2.2
  have HH := Aside0.mk h
  obtain ⟨W1, eW1⟩ : ∃ W, w.alloc (.cells #[.slice none 0 0, .int .i64 0, .int .i64 0] 28) = W := ⟨_, rfl⟩
  have H1 := Aside0.mk (show IsMx 46 P W1 g m Ac cc bm vK (.slice AO m.out.length cO) from eW1 ▸ h.alloc _)
  have HB1 := Aside0.mk (show Below w.heap.size w W1 from eW1 ▸ below_alloc (Below.refl w.heap.size w) _)
  have HZ := Aside0.mk (show W1.heap[w.heap.size]? = some (.cells #[.slice none 0 0, .int .i64 0, .int .i64 0] 28 (0, 0)) from eW1 ▸ blk_new w _)
  have HS := Aside0.mk (show W1.heap.size = w.heap.size + 1 from eW1 ▸ World.size_alloc _ _)
  have c16 := H1.out.c16
  have c16a := fun o => (H1.out.alloc o).c16
  have HWY := Aside0.mk hwy
  have hcase : (m.end_ == 0) = true ∧ m.end_ = 0 ∨ (m.end_ == 0) = false ∧ m.end_ ≠ 0 := by
    by_cases c : m.end_ = 0
    · exact .inl ⟨beq_iff_eq.mpr c, c⟩
    · exact .inr ⟨beq_eq_false_iff_ne.mpr c, c⟩
  clear h hwy
  rcases hcase with ⟨ce0, ce⟩ | ⟨ce0, ce⟩
  all_goals
    have HE := Aside0.mk ce
    clear ce
    go_enter Tryd.func19, Tryd.ntmps19
    go_wp2_with ((with_reducible refine gate_builtin (b := .append) (xs := #[.tmp 4, .tmp 8]) rfl ?_); at_builtin; refine Kd.R_append_rows (Kd.int .i64) (w0 := w) w.heap.size rfl (.tmp 4) (.tmp 8) 23 2 (.int .i64 0) 8 rfl Tryd.underlying23 info2 rfl (by decide) (by omega) _ [] m.out AO m.out.length cO (fun _ => True) (fun _ => False) rfl rfl (R_lit0 (blk_new W1 _) (by rw [HS.out]; exact Nat.le_succ _)) (Kd.C_below HC.out (below_alloc HB1.out _)) (fun _ _ h => h) (fun _ h => h.elim) (fun _ _ => trivial) (below_alloc HB1.out _) (Below.size (B := w.heap.size) (w := w) (below_alloc HB1.out _)) (by simp only [List.length_nil, Nat.zero_add]; omega) ?_; intro v1 w2 ho hb hg hat; obtain ⟨A1, dd, e1⟩ := Kd.R_slice ho; subst e1; have HR := Aside0.mk ho; have HB2 := Aside0.mk hb; have H2 := Aside0.mk (HH.out.below hb); have HZ2 := Aside0.mk (show w2.heap[w.heap.size]? = some (.cells #[.slice none 0 0, .int .i64 0, .int .i64 0] 28 (0, 0)) from blk_grown (blk_alloc HZ.out _) hg (fun e2 => absurd (Option.some.inj e2) (Nat.ne_of_lt (by rw [HS.out]; exact Nat.lt_succ_self _)))); have k17 := H2.out.c17; have k18 := H2.out.c18; have z0 := (blk_cell HZ2.out 0).trans rfl; have z1 := (blk_cell HZ2.out 1).trans rfl; have z2 := (blk_cell HZ2.out 2).trans rfl; have y0 := blk_frozen HZ2.out 0; have y1 := blk_frozen HZ2.out 1; have y2 := blk_frozen HZ2.out 2; clear ho hb hg hat)
  · have HEE := Aside0.mk (show endOf m = 4 from if_pos HE.out)
    have Z2 := blk_put (cs' := #[.slice A1 m.out.length dd, .int .i64 0, .int .i64 0]) HZ2.out 0 (.slice A1 m.out.length dd) rfl
    have Z3 := blk_put (cs' := #[.slice A1 m.out.length dd, .int .i64 4, .int .i64 0]) Z2 1 (.int .i64 4) rfl
    have Z4 := blk_put (cs' := #[.slice A1 m.out.length dd, .int .i64 4, .int .i64 0]) Z3 2 (.int .i64 0) rfl
    have R4 := R_setcell (R_setcell (R_setcell HR.out HZ2.out (by decide) 0 (.slice A1 m.out.length dd)) Z2 (by decide) 1 (.int .i64 4)) Z3 (by decide) 2 (.int .i64 0)
    refine bodyPost_ret (results_cell_row (fn := Tryd.f19) rfl _ _ w.heap.size 28 #[.slice A1 m.out.length dd, .int .i64 4, .int .i64 0] (0, 0) _ rfl Z4 Tryd.underlying28 rfl (by kernel_rfl)) rfl ?_
    exact ⟨_, by rw [HEE.out, HWY.out HE.out]; rfl, R4, below_set (below_set (below_set HB2.out (Nat.le_refl _)) (Nat.le_refl _)) (Nat.le_refl _)⟩
  · have HEE := Aside0.mk (show endOf m = m.end_ from if_neg HE.out)
    have Z2 := blk_put (cs' := #[.slice A1 m.out.length dd, .int .i64 0, .int .i64 0]) HZ2.out 0 (.slice A1 m.out.length dd) rfl
    have Z3 := blk_put (cs' := #[.slice A1 m.out.length dd, .int .i64 m.end_, .int .i64 0]) Z2 1 (.int .i64 m.end_) rfl
    have Z4 := blk_put (cs' := #[.slice A1 m.out.length dd, .int .i64 m.end_, .int .i64 m.why]) Z3 2 (.int .i64 m.why) rfl
    have R4 := R_setcell (R_setcell (R_setcell HR.out HZ2.out (by decide) 0 (.slice A1 m.out.length dd)) Z2 (by decide) 1 (.int .i64 m.end_)) Z3 (by decide) 2 (.int .i64 m.why)
    go_region
    go_wp2
    refine bodyPost_ret (results_cell_row (fn := Tryd.f19) rfl _ _ w.heap.size 28 #[.slice A1 m.out.length dd, .int .i64 m.end_, .int .i64 m.why] (0, 0) _ rfl (blk_drew Z4) Tryd.underlying28 rfl (by kernel_rfl)) rfl ?_
    exact ⟨_, by rw [HEE.out]; rfl, Kd.R_drew R4, below_drew1 (below_set (below_set (below_set HB2.out (Nat.le_refl _)) (Nat.le_refl _)) (Nat.le_refl _))⟩
end Go.Proofs.YtekhnkpjeofdpaaDoor.A
