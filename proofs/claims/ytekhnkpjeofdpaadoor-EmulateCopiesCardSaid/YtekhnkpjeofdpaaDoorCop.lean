/- cupellaw23.EmulateCopies: the law's walk (where the two tables lie). -/
import Derived.Test.YtekhnkpjeofdpaaDoorSt
import Derived.Deep.RegionHeld3
set_option linter.unusedVariables false
set_option maxRecDepth 100000
namespace Go.Proofs.YtekhnkpjeofdpaaDoor.A
open Go.RowKit Go.Proofs.YtekhnkpjeofdpaaDoorW.PrintWords Go.Proofs.YtekhnkpjeofdpaaDoorW.PrintLast Go.Proofs.YtekhnkpjeofdpaaDoorW.PrintMore
set_option maxHeartbeats 4000000
/-- an empty literal's row -/
theorem R_empty {k : IntKind} {e base b : Nat} {W : World} (hb : W.heap[b]? = some (.cells #[] e (0, 0))) (hB : base ≤ b) : Kd.R (Kd.int k) e W base (fun _ => True) (.slice (some ⟨b, 0, none⟩) 0 0) [] := by
  refine ⟨fun _ _ => trivial, [], ⟨rfl, .inr ⟨b, 0, #[], rfl, hB, hb, Nat.le_refl _, by decide, rfl, rfl⟩⟩, ?_⟩
  exact Reps.none _ _
theorem R_grown2 {k : IntKind} {e e' base b : Nat} {W w1 : World} {v : Value} {xs : List Int} (h : Kd.R (Kd.int k) e W base (fun _ => True) v xs) (hl : W.heap[b]? = some (.cells #[] e' (0, 0))) (ht : e ≠ e') (hg : W.grownBy w1 (some b)) : Kd.R (Kd.int k) e w1 base (fun _ => True) v xs :=
  Kd.R_over' (v := .slice (some ⟨b, 0, none⟩) 0 0) h (fun q hq => by
    have : b = q := by simpa [Value.ownBlock] using hq
    subst this
    exact ⟨_, hl⟩) (fun q hq => by
    have hq2 : q = e := by simpa [Kd.int, Kd.scalar] using hq
    rw [hq2]; exact ht) hg
theorem blk_ne' {w : World} {g g' : Nat} {t t' : TypeId} {cs cs' : Array Value} (h : w.heap[g]? = some (.cells cs t (0, 0))) (h' : w.heap[g']? = some (.cells cs' t' (0, 0))) (hne : t ≠ t') : g ≠ g' := by
  rintro rfl
  rw [h] at h'
  injection h' with h'
  injection h' with _ h'
  exact hne h'
/-- a row is appended to an empty literal -/
theorem step_append_lit {P : Program} {ops : Array Oper} {o : Oper} {a : Act} {Q : Exit → Act → World → Prop} {Kc : Act → World → Prop} {k : IntKind} {w0 W : World} (base : Nat) (hw : Region.wanted o (yielded ops a.tmps) = true) (s x : Operand) (t e : TypeId) (bytes : Nat)
    (ho : o.op = .call { callee := .builtin .append, args := #[s, x], argTypes := #[t, t] })
    (ht : P.underlying t = some (.slice e)) (hinfo : (P.info? e).map (fun i => (i.zero, i.size, i.bytes)) = some (some (.int k 0), 1, bytes)) (hb0 : 0 < bytes) (hb8 : bytes ≤ 8)
    (b : Nat) (ys : List Int) (A : Option Addr) (c : Nat) (hs : a.eval s = .slice (some ⟨b, 0, none⟩) 0 0) (hx : a.eval x = .slice A ys.length c)
    (hlit : W.heap[b]? = some (.cells #[] e (0, 0))) (hbb : base ≤ b) (HR : Kd.C (Kd.int k) W A ys.length ys) (HB : Below base w0 W) (hbase : base ≤ W.heap.size) (hl : ys.length ≤ 100000)
    (h : ∀ v1 w1, Kd.R (Kd.int k) e w1 base (fun _ => True) v1 ys → Below base w0 w1 → (∀ (g t : Nat) (cs : Array Value), t ≠ e → W.heap[g]? = some (.cells cs t (0, 0)) → w1.heap[g]? = some (.cells cs t (0, 0))) → (∀ (k' : IntKind) (e' : Nat) (v : Value) (xs : List Int), e' ≠ e → Kd.R (Kd.int k') e' W base (fun _ => True) v xs → Kd.R (Kd.int k') e' w1 base (fun _ => True) v xs) → Kc (a.put o.dst v1) w1) :
    if Region.wanted o (yielded ops a.tmps) = true then Oper.wp P o a W Kc Q else Kc (a.put o.dst undef) W := by
  refine Kd.R_append_rows_step (Kd.int k) base hw s x t e (.int k 0) bytes ho ht hinfo rfl (by simp [Kd.int, Kd.scalar]) hb0 _ [] ys A ys.length c (fun _ => True) (fun _ => False) hs hx (R_empty hlit hbb) HR (fun _ _ h => h) (fun _ h => h.elim) (fun _ _ => trivial) HB hbase (by simp only [List.length_nil, Nat.zero_add]; calc ys.length * bytes ≤ 100000 * 8 := Nat.mul_le_mul hl hb8
        _ ≤ 140737488355328 := by decide) ?_
  intro v1 w1 h1 h2 h3 _
  exact h v1 w1 h1 h2 (fun g t cs ht hg => blk_grown hg h3 (fun e2 => blk_ne' hg hlit ht (Option.some.inj e2))) (fun k' e' v xs he hr => R_grown2 hr hlit he h3)
theorem blk_at {w : World} {o : Obj} {i : Nat} (h : i = w.heap.size) : (w.alloc o).heap[i]? = some o := by subst h; exact blk_new w o
theorem R_setc {k : IntKind} {e base : Nat} {w : World} {v : Value} {xs : List Int} {g t : Nat} {cells : Array Value} (h : Kd.R (Kd.int k) e w base (fun _ => True) v xs) (hb : w.heap[g]? = some (.cells cells t (0, 0))) (ht : e ≠ t) (j : Nat) (u : Value) : Kd.R (Kd.int k) e (w.setCell ⟨g, j, none⟩ u) base (fun _ => True) v xs :=
  Kd.R_mono (Kd.R_step (Kd.R_types h hb (fun q hq => by
    have hq2 : q = e := by simpa [Kd.int, Kd.scalar] using hq
    rw [hq2]; exact ht)) (fun k hk _ => Below.heap_setCell w ⟨g, j, none⟩ u k hk.2)) (fun _ _ => trivial)
/-- three stores into a block of an image's -/
theorem put3 {w : World} {g t : Nat} {x y z a b c : Value} (h : w.heap[g]? = some (.cells #[x, y, z] t (0, 0))) :
    (((w.setCell ⟨g, 0, none⟩ a).setCell ⟨g, 1, none⟩ b).setCell ⟨g, 2, none⟩ c).heap[g]? = some (.cells #[a, b, c] t (0, 0)) :=
  blk_put (cs' := #[a, b, c]) (blk_put (cs' := #[a, b, z]) (blk_put (cs' := #[a, y, z]) h 0 a rfl) 1 b rfl) 2 c rfl
theorem R_put3 {k : IntKind} {e base : Nat} {w : World} {v : Value} {xs : List Int} {g t : Nat} {x y z a b c : Value} (h : Kd.R (Kd.int k) e w base (fun _ => True) v xs) (hb : w.heap[g]? = some (.cells #[x, y, z] t (0, 0))) (ht : e ≠ t) :
    Kd.R (Kd.int k) e (((w.setCell ⟨g, 0, none⟩ a).setCell ⟨g, 1, none⟩ b).setCell ⟨g, 2, none⟩ c) base (fun _ => True) v xs :=
  R_setc (R_setc (R_setc h hb ht 0 a) (blk_put (cs' := #[a, y, z]) hb 0 a rfl) ht 1 b) (blk_put (cs' := #[a, b, z]) (blk_put (cs' := #[a, y, z]) hb 0 a rfl) 1 b rfl) ht 2 c

/-- a row of an own slice: where it lies -/
theorem row_of_R {k : IntKind} {e base : Nat} {w : World} {v : Value} {xs : List Int} (h : Kd.R (Kd.int k) e w base (fun _ => True) v xs) (hn : 0 < xs.length) : ∃ (b c : Nat) (cells : Array Value), v = .slice (some ⟨b, 0, none⟩) xs.length c ∧ base ≤ b ∧ w.heap[b]? = some (.cells cells e (0, 0)) ∧ xs.length ≤ cells.size := by
  obtain ⟨inner, _, ⟨_, h0⟩ | ⟨g, cap, cur, hv, hb, hc, h1, _, h2, _⟩⟩ := Kd.R_own h
  · omega
  · refine ⟨g, cap, cur, hv, hb, hc, ?_⟩
    have : (Kd.int k).sz = 1 := rfl
    rw [this] at h2
    omega
theorem IsMB.keep {B T : Nat} {P : Nat → Prop} {w w' : World} {g : Nat} {m : Mac} (h : IsMB B T P w g m) (hP : ∀ k, P k → B ≤ k) (hk : ∀ k, B ≤ k → k < w.heap.size → w'.heap[k]? = w.heap[k]?) : IsMB B T P w' g m := by
  obtain ⟨Ac, cc, bm, vK, vO, h, hB⟩ := h
  refine ⟨Ac, cc, bm, vK, vO, { h with blk := (hk g (hP _ h.pg) (blk_lt h.blk)).trans h.blk, mblk := (hk bm (hP _ h.pb) (blk_lt h.mblk)).trans h.mblk, kept := R_int_step h.kept (fun k q hl => hk k (hP k q.1) hl), out := R_int_step h.out (fun k q hl => hk k (hP k q.1) hl), code := C_keep h.code (fun _ ad e hl => hk _ (hB ad e) hl) }, hB⟩
theorem state_calls' {P : Nat → Prop} {w : World} {g : Nat} {m : Mac} (h : IsM 57 P w g m) (cs : Array Value) (hcs : stv m = cs) :
    Calls Tryd.prog 18 #[.pointer (some ⟨g, 0, none⟩)] w fun e w' => e = .returned (.tuple #[.agg cs, .int .i64 0]) ∧ Below w.heap.size w w' := hcs ▸ state_calls h
theorem own_place {k : IntKind} {e base g t : Nat} {w w4 : World} {v : Value} {xs : List Int} {cs : Array Value} (h : Kd.R (Kd.int k) e w base (fun _ => True) v xs) (hb : Below w.heap.size w w4) (hg : w.heap[g]? = some (.cells cs t (0, 0))) (ht : e ≠ t) (hB : base ≤ w.heap.size) :
    ∃ b, base ≤ b ∧ b ≠ g ∧ (b < w.heap.size ∨ w4.heap.size ≤ b) ∧ (0 < xs.length → ∃ (c : Nat) (cells : Array Value), v = .slice (some ⟨b, 0, none⟩) xs.length c ∧ w4.heap[b]? = some (.cells cells e (0, 0)) ∧ xs.length ≤ cells.size) ∧ (¬ 0 < xs.length → b = w4.heap.size) := by
  by_cases h0 : 0 < xs.length
  · obtain ⟨b, c, cells, hv, h1, h2, h3⟩ := row_of_R h h0
    exact ⟨b, h1, blk_ne' h2 hg ht, .inl (blk_lt h2), fun _ => ⟨c, cells, hv, blk_below h2 hb, h3⟩, fun h => absurd h0 h⟩
  · exact ⟨w4.heap.size, Nat.le_trans hB hb.size, fun e2 => by have := blk_lt hg; have := hb.size; omega, .inr (Nat.le_refl _), fun h => absurd h h0, fun _ => rfl⟩
theorem IsM.below' {T : Nat} {P : Nat → Prop} {w w' : World} {g : Nat} {m : Mac} (h : IsM T P w g m) (hb : Below w.heap.size w w') : IsM T P w' g m := by
  obtain ⟨a, b, c, d, e, h⟩ := h
  exact ⟨a, b, c, d, e, h.below hb⟩
/-- the law, where its bounds are passed: it asks awake -/
theorem copies_far (A0 : Option Addr) (c0 : Nat) (code : List Int) (A1 : Option Addr) (c1 : Nat) (data : List Int) (entry s : Int) (w : World) (hT : Tab w) (h : 400 < (code.length : Int) ∨ 30000 < (data.length : Int) ∨ s < 0 ∨ 200 < s) :
    Calls Tryd.prog 6 #[.agg #[.slice A0 code.length c0, .slice A1 data.length c1, .int .i64 entry], .int .i64 s] w fun e w' => e = .returned (.bool true) ∧ Below w.heap.size w w' := by
  have HT := Aside0.mk hT
  obtain ⟨W1, eW1⟩ : ∃ W, w.alloc (.cells #[.slice A0 code.length c0, .slice A1 data.length c1, .int .i64 entry] 25) = W := ⟨_, rfl⟩
  have hb1 : Below w.heap.size w W1 := eW1 ▸ below_alloc (Below.refl _ _) _
  have hi : W1.heap[w.heap.size]? = some (.cells #[.slice A0 code.length c0, .slice A1 data.length c1, .int .i64 entry] 25 (0, 0)) := eW1 ▸ blk_new w _
  have i0 : W1.cell? ⟨w.heap.size, 0, none⟩ = some (.slice A0 code.length c0) := (blk_cell hi 0).trans rfl
  have i1 : W1.cell? ⟨w.heap.size, 1, none⟩ = some (.slice A1 data.length c1) := (blk_cell hi 1).trans rfl
  have HB1 := Aside0.mk hb1
  clear hT hb1 hi
  have hh : decide (400 < (code.length : Int)) = true ∨ (decide (400 < (code.length : Int)) = false ∧ decide (30000 < (data.length : Int)) = true) ∨ (decide (400 < (code.length : Int)) = false ∧ decide (30000 < (data.length : Int)) = false ∧ decide (s < 0) = true) ∨ (decide (400 < (code.length : Int)) = false ∧ decide (30000 < (data.length : Int)) = false ∧ decide (s < 0) = false ∧ decide (200 < s) = true) := by
    simp only [decide_eq_true_eq, decide_eq_false_iff_not]
    omega
  clear h
  rcases hh with b0 | ⟨b0, b1⟩ | ⟨b0, b1, b2⟩ | ⟨b0, b1, b2, b3⟩
  all_goals
    go_enter Tryd.func6, Tryd.ntmps6
    go_wp2_with (go_at_call 8; refine (awake_calls _ (Tab.below HT.out HB1.out)).mono ?_; rintro e w2 ⟨rfl, hb⟩; have HB2 := Aside0.mk (below_step HB1.out hb); clear hb)
    go_ret
    exact ⟨rfl, HB2.out⟩
theorem copies_in (A0 : Option Addr) (c0 : Nat) (code : List Int) (A1 : Option Addr) (c1 : Nat) (data : List Int) (entry : Int) (s : Nat) (r : Int) (w : World) (hT : Tab w) (hC : Kd.C (Kd.int .u64) w A0 code.length code) (hc0 : code.length ≤ c0) (hD : Kd.C (Kd.int .i64) w A1 data.length data) (hc1 : data.length ≤ c1) (hl0 : code.length ≤ 400) (hl1 : data.length ≤ 30000) (hs : s ≤ 200) (h : target_Check.f 500 code data entry = some r) (hg : r = 0 → ∃ m1, data.length ≤ 20000 ∧ runF 500 s (mac0 code data entry) = some m1 ∧ m1.out.length ≤ 2000 ∧ cupelref10_Equal.f 5000 m1.out (endOf m1) m1.why m1.out (endOf m1) m1.why = some true) :
    Calls Tryd.prog 6 #[.agg #[.slice A0 code.length c0, .slice A1 data.length c1, .int .i64 entry], .int .i64 (s : Int)] w fun e w' => e = .returned (.bool true) ∧ Below w.heap.size w w' := by
  have HT := Aside0.mk hT
  have HC := Aside0.mk hC
  have HD := Aside0.mk hD
  have HH := Aside0.mk h
  have HGO := Aside0.mk hg
  obtain ⟨W1, eW1⟩ : ∃ W, w.alloc (.cells #[.slice A0 code.length c0, .slice A1 data.length c1, .int .i64 entry] 25) = W := ⟨_, rfl⟩
  have hb1 : Below w.heap.size w W1 := eW1 ▸ below_alloc (Below.refl _ _) _
  have hi : W1.heap[w.heap.size]? = some (.cells #[.slice A0 code.length c0, .slice A1 data.length c1, .int .i64 entry] 25 (0, 0)) := eW1 ▸ blk_new w _
  have HB1 := Aside0.mk hb1
  have HI := Aside0.mk hi
  have b0 : decide (400 < (code.length : Int)) = false := decide_eq_false (by omega)
  have b1 : decide (30000 < (data.length : Int)) = false := decide_eq_false (by omega)
  have b2 : decide ((s : Int) < 0) = false := decide_eq_false (by omega)
  have b4 : decide (200 < (s : Int)) = false := decide_eq_false (by omega)
  have i0 : W1.cell? ⟨w.heap.size, 0, none⟩ = some (.slice A0 code.length c0) := (blk_cell hi 0).trans rfl
  have i1 : W1.cell? ⟨w.heap.size, 1, none⟩ = some (.slice A1 data.length c1) := (blk_cell hi 1).trans rfl
  have i2 : W1.cell? ⟨w.heap.size, 2, none⟩ = some (.int .i64 entry) := (blk_cell hi 2).trans rfl
  have HK := Aside0.mk (show ∀ w', Below W1.heap.size W1 w' → w'.cell? ⟨w.heap.size, 0, none⟩ = some (.slice A0 code.length c0) ∧ w'.cell? ⟨w.heap.size, 1, none⟩ = some (.slice A1 data.length c1) ∧ w'.cell? ⟨w.heap.size, 2, none⟩ = some (.int .i64 entry) from fun w' hb => ⟨(blk_cell (blk_below HI.out hb) 0).trans rfl, (blk_cell (blk_below HI.out hb) 1).trans rfl, (blk_cell (blk_below HI.out hb) 2).trans rfl⟩)
  clear hT hC hD h hb1 hi hg
  go_enter Tryd.func6, Tryd.ntmps6
  go_upto_region 3 with fail
  go_cut [5] (fun v5 wc => ∃ (g5 : Nat) (vo vd : Value), v5 = .pointer (some ⟨g5, 0, none⟩) ∧ Aside0 (wc.heap[g5]? = some (.cells #[vo, vd, .int .i64 entry] 25 (0, 0))) ∧ Aside0 (Kd.R (Kd.int .u64) 55 wc W1.heap.size (fun _ => True) vo code) ∧ Aside0 (Kd.R (Kd.int .i64) 2 wc W1.heap.size (fun _ => True) vd data) ∧ Aside0 (W1.heap.size ≤ g5) ∧ Aside0 (Below W1.heap.size W1 wc))
  case first =>
    clear HT HH
    go_region_held3 (fun w' => w'.cell? ⟨w.heap.size, 0, none⟩ = some (.slice A0 code.length c0) ∧ w'.cell? ⟨w.heap.size, 1, none⟩ = some (.slice A1 data.length c1) ∧ w'.cell? ⟨w.heap.size, 2, none⟩ = some (.int .i64 entry)) (exact HK.out _ (by first | ((repeat (first | (with_reducible exact HBb.out) | (with_reducible exact HBa.out) | (with_reducible exact Below.refl _ _) | (with_reducible apply below_alloc) | (with_reducible apply pw_below_drewN) | (with_reducible apply below_drew1) | (with_reducible refine below_set ?_ (by first | exact Nat.le_refl _ | exact HBa.out.size | exact HBb.out.size | exact Nat.le_succ _ | exact Nat.le_add_right _ _ | exact Nat.le_trans HBa.out.size (Nat.le_succ _) | exact Nat.le_trans HBb.out.size (Nat.le_succ _) | (have := HBa.out.size; have := HBb.out.size; (try simp only [World.size_alloc, World.size_drew]); omega) | (have := HBa.out.size; (try simp only [World.size_alloc, World.size_drew]); omega) | (simp only [World.size_alloc, World.size_drew]; omega) | (simp; done) | omega)))); done) | fail)) (first | (refine step_append_lit (w0 := W1) W1.heap.size rfl (.tmp 39) (.tmp 41) 22 55 8 rfl Tryd.underlying22 info55 (by decide) (by decide) _ code A0 c0 rfl rfl (by first | ((repeat (first | (with_reducible exact blk_at rfl) | (with_reducible exact blk_at (by first | (simp; done) | fail)) | (with_reducible refine blk_alloc ?_ _) | (with_reducible refine blk_drewN ?_ _) | (with_reducible refine blk_drew ?_))); done) | fail) (by first | exact Nat.le_refl _ | exact HBa.out.size | exact HBb.out.size | exact Nat.le_succ _ | exact Nat.le_add_right _ _ | exact Nat.le_trans HBa.out.size (Nat.le_succ _) | exact Nat.le_trans HBb.out.size (Nat.le_succ _) | (have := HBa.out.size; have := HBb.out.size; (try simp only [World.size_alloc, World.size_drew]); omega) | (have := HBa.out.size; (try simp only [World.size_alloc, World.size_drew]); omega) | (simp only [World.size_alloc, World.size_drew]; omega) | (simp; done) | omega) (Kd.C_below HC.out (HB1.out.trans (Below.mono (by first | ((repeat (first | (with_reducible exact Below.refl _ _) | (with_reducible apply below_alloc) | (with_reducible apply pw_below_drewN) | (with_reducible apply below_drew1))); done) | fail) HB1.out.size))) (by first | ((repeat (first | (with_reducible exact Below.refl _ _) | (with_reducible apply below_alloc) | (with_reducible apply pw_below_drewN) | (with_reducible apply below_drew1))); done) | fail) (Below.size (B := W1.heap.size) (w := W1) (by first | ((repeat (first | (with_reducible exact Below.refl _ _) | (with_reducible apply below_alloc) | (with_reducible apply pw_below_drewN) | (with_reducible apply below_drew1))); done) | fail)) (Nat.le_trans hl0 (by decide)) ?_; intro va wa ra ba ka la; obtain ⟨Aa, ca, ea⟩ := Kd.R_slice ra; subst ea; have HRa := Aside0.mk ra; have HBa := Aside0.mk ba; have HKa := Aside0.mk ka; clear ra ba ka la) | (refine step_append_lit (w0 := W1) W1.heap.size rfl (.tmp 43) (.tmp 45) 23 2 8 rfl Tryd.underlying23 info2 (by decide) (by decide) _ data A1 c1 rfl rfl (by first | ((repeat (first | (with_reducible exact blk_at rfl) | (with_reducible exact blk_at (by first | (simp; done) | fail)) | (with_reducible refine blk_alloc ?_ _) | (with_reducible refine blk_drewN ?_ _) | (with_reducible refine blk_drew ?_) | (with_reducible refine HKa.out _ _ _ (by decide) ?_))); done) | fail) (by first | exact Nat.le_refl _ | exact HBa.out.size | exact HBb.out.size | exact Nat.le_succ _ | exact Nat.le_add_right _ _ | exact Nat.le_trans HBa.out.size (Nat.le_succ _) | exact Nat.le_trans HBb.out.size (Nat.le_succ _) | (have := HBa.out.size; have := HBb.out.size; (try simp only [World.size_alloc, World.size_drew]); omega) | (have := HBa.out.size; (try simp only [World.size_alloc, World.size_drew]); omega) | (simp only [World.size_alloc, World.size_drew]; omega) | (simp; done) | omega) (Kd.C_below HD.out (HB1.out.trans (Below.mono (by first | ((repeat (first | (with_reducible exact HBa.out) | (with_reducible exact Below.refl _ _) | (with_reducible apply below_alloc) | (with_reducible apply pw_below_drewN) | (with_reducible apply below_drew1))); done) | fail) HB1.out.size))) (by first | ((repeat (first | (with_reducible exact HBa.out) | (with_reducible exact Below.refl _ _) | (with_reducible apply below_alloc) | (with_reducible apply pw_below_drewN) | (with_reducible apply below_drew1))); done) | fail) (Below.size (B := W1.heap.size) (w := W1) (by first | ((repeat (first | (with_reducible exact HBa.out) | (with_reducible exact Below.refl _ _) | (with_reducible apply below_alloc) | (with_reducible apply pw_below_drewN) | (with_reducible apply below_drew1))); done) | fail)) (Nat.le_trans hl1 (by decide)) ?_; intro vb wb rb bb kb lb; obtain ⟨Ab, cb, eb⟩ := Kd.R_slice rb; subst eb; have HRb := Aside0.mk rb; have HBb := Aside0.mk bb; have HRa2 := Aside0.mk (lb .u64 55 _ _ (by decide) (by (with_reducible repeat (first | apply Kd.R_alloc | apply Kd.R_drewN | apply Kd.R_drew)); exact HRa.out)); have HKb := Aside0.mk kb; clear rb bb kb lb HRa; (first | (refine (show (wb.heap[W1.heap.size]? = some (.cells #[.slice none 0 0, .slice none 0 0, .int .i64 0] 25 (0, 0)) → _) from fun z5 => ?_) ?hz5; (case hz5 => (first | ((repeat (first | (with_reducible exact blk_at rfl) | (with_reducible exact blk_at (by first | (simp; done) | fail)) | (with_reducible refine blk_alloc ?_ _) | (with_reducible refine blk_drewN ?_ _) | (with_reducible refine blk_drew ?_) | (with_reducible refine HKb.out _ _ _ (by decide) ?_) | (with_reducible refine HKa.out _ _ _ (by decide) ?_))); done) | fail)); have Z5 := Aside0.mk z5; have z0 := (blk_cell z5 0).trans rfl; have z1 := (blk_cell z5 1).trans rfl; have z2 := (blk_cell z5 2).trans rfl; have y0 := blk_frozen z5 0; have y1 := blk_frozen z5 1; have y2 := blk_frozen z5 2; clear z5) | (refine (show (wb.heap[W1.heap.size + 1]? = some (.cells #[.slice none 0 0, .slice none 0 0, .int .i64 0] 25 (0, 0)) → _) from fun z5 => ?_) ?hz5; (case hz5 => (first | ((repeat (first | (with_reducible exact blk_at rfl) | (with_reducible exact blk_at (by first | (simp; done) | fail)) | (with_reducible refine blk_alloc ?_ _) | (with_reducible refine blk_drewN ?_ _) | (with_reducible refine blk_drew ?_) | (with_reducible refine HKb.out _ _ _ (by decide) ?_) | (with_reducible refine HKa.out _ _ _ (by decide) ?_))); done) | fail)); have Z5 := Aside0.mk z5; have z0 := (blk_cell z5 0).trans rfl; have z1 := (blk_cell z5 1).trans rfl; have z2 := (blk_cell z5 2).trans rfl; have y0 := blk_frozen z5 0; have y1 := blk_frozen z5 1; have y2 := blk_frozen z5 2; clear z5) | (refine (show (wb.heap[W1.heap.size + 2]? = some (.cells #[.slice none 0 0, .slice none 0 0, .int .i64 0] 25 (0, 0)) → _) from fun z5 => ?_) ?hz5; (case hz5 => (first | ((repeat (first | (with_reducible exact blk_at rfl) | (with_reducible exact blk_at (by first | (simp; done) | fail)) | (with_reducible refine blk_alloc ?_ _) | (with_reducible refine blk_drewN ?_ _) | (with_reducible refine blk_drew ?_) | (with_reducible refine HKb.out _ _ _ (by decide) ?_) | (with_reducible refine HKa.out _ _ _ (by decide) ?_))); done) | fail)); have Z5 := Aside0.mk z5; have z0 := (blk_cell z5 0).trans rfl; have z1 := (blk_cell z5 1).trans rfl; have z2 := (blk_cell z5 2).trans rfl; have y0 := blk_frozen z5 0; have y1 := blk_frozen z5 1; have y2 := blk_frozen z5 2; clear z5) | (refine (show (wb.heap[wa.heap.size]? = some (.cells #[.slice none 0 0, .slice none 0 0, .int .i64 0] 25 (0, 0)) → _) from fun z5 => ?_) ?hz5; (case hz5 => (first | ((repeat (first | (with_reducible exact blk_at rfl) | (with_reducible exact blk_at (by first | (simp; done) | fail)) | (with_reducible refine blk_alloc ?_ _) | (with_reducible refine blk_drewN ?_ _) | (with_reducible refine blk_drew ?_) | (with_reducible refine HKb.out _ _ _ (by decide) ?_) | (with_reducible refine HKa.out _ _ _ (by decide) ?_))); done) | fail)); have Z5 := Aside0.mk z5; have z0 := (blk_cell z5 0).trans rfl; have z1 := (blk_cell z5 1).trans rfl; have z2 := (blk_cell z5 2).trans rfl; have y0 := blk_frozen z5 0; have y1 := blk_frozen z5 1; have y2 := blk_frozen z5 2; clear z5) | (refine (show (wb.heap[wa.heap.size + 1]? = some (.cells #[.slice none 0 0, .slice none 0 0, .int .i64 0] 25 (0, 0)) → _) from fun z5 => ?_) ?hz5; (case hz5 => (first | ((repeat (first | (with_reducible exact blk_at rfl) | (with_reducible exact blk_at (by first | (simp; done) | fail)) | (with_reducible refine blk_alloc ?_ _) | (with_reducible refine blk_drewN ?_ _) | (with_reducible refine blk_drew ?_) | (with_reducible refine HKb.out _ _ _ (by decide) ?_) | (with_reducible refine HKa.out _ _ _ (by decide) ?_))); done) | fail)); have Z5 := Aside0.mk z5; have z0 := (blk_cell z5 0).trans rfl; have z1 := (blk_cell z5 1).trans rfl; have z2 := (blk_cell z5 2).trans rfl; have y0 := blk_frozen z5 0; have y1 := blk_frozen z5 1; have y2 := blk_frozen z5 2; clear z5) | skip)))
    all_goals
      try go_wp2
      try simp only [Act.put, List.setIfInBounds_toArray, List.set_cons_zero, List.set_cons_succ, List.getElem_toArray, List.getElem_cons_succ, List.getElem_cons_zero]
      go_meet
      case rel => first
        | exact ⟨_, _, _, rfl, ⟨put3 Z5.out⟩, ⟨R_put3 (by (with_reducible repeat (first | apply Kd.R_alloc | apply Kd.R_drewN | apply Kd.R_drew)); exact HRa2.out) Z5.out (by decide)⟩, ⟨R_put3 (by (with_reducible repeat (first | apply Kd.R_alloc | apply Kd.R_drewN | apply Kd.R_drew)); exact HRb.out) Z5.out (by decide)⟩, ⟨(by first | exact Nat.le_refl _ | exact HBa.out.size | exact HBb.out.size | exact Nat.le_succ _ | exact Nat.le_add_right _ _ | exact Nat.le_trans HBa.out.size (Nat.le_succ _) | exact Nat.le_trans HBb.out.size (Nat.le_succ _) | (have := HBa.out.size; have := HBb.out.size; (try simp only [World.size_alloc, World.size_drew]); omega) | (have := HBa.out.size; (try simp only [World.size_alloc, World.size_drew]); omega) | (simp only [World.size_alloc, World.size_drew]; omega) | (simp; done) | omega)⟩, ⟨(by first | ((repeat (first | (with_reducible exact HBb.out) | (with_reducible exact HBa.out) | (with_reducible exact Below.refl _ _) | (with_reducible apply below_alloc) | (with_reducible apply pw_below_drewN) | (with_reducible apply below_drew1) | (with_reducible refine below_set ?_ (by first | exact Nat.le_refl _ | exact HBa.out.size | exact HBb.out.size | exact Nat.le_succ _ | exact Nat.le_add_right _ _ | exact Nat.le_trans HBa.out.size (Nat.le_succ _) | exact Nat.le_trans HBb.out.size (Nat.le_succ _) | (have := HBa.out.size; have := HBb.out.size; (try simp only [World.size_alloc, World.size_drew]); omega) | (have := HBa.out.size; (try simp only [World.size_alloc, World.size_drew]); omega) | (simp only [World.size_alloc, World.size_drew]; omega) | (simp; done) | omega)))); done) | fail)⟩⟩
        | exact ⟨_, _, _, rfl, ⟨blk_new _ _⟩, ⟨(by (with_reducible repeat (first | apply Kd.R_alloc | apply Kd.R_drewN | apply Kd.R_drew)); exact HRa2.out)⟩, ⟨(by (with_reducible repeat (first | apply Kd.R_alloc | apply Kd.R_drewN | apply Kd.R_drew)); exact HRb.out)⟩, ⟨(by first | exact Nat.le_refl _ | exact HBa.out.size | exact HBb.out.size | exact Nat.le_succ _ | exact Nat.le_add_right _ _ | exact Nat.le_trans HBa.out.size (Nat.le_succ _) | exact Nat.le_trans HBb.out.size (Nat.le_succ _) | (have := HBa.out.size; have := HBb.out.size; (try simp only [World.size_alloc, World.size_drew]); omega) | (have := HBa.out.size; (try simp only [World.size_alloc, World.size_drew]); omega) | (simp only [World.size_alloc, World.size_drew]; omega) | (simp; done) | omega)⟩, ⟨(by first | ((repeat (first | (with_reducible exact HBb.out) | (with_reducible exact HBa.out) | (with_reducible exact Below.refl _ _) | (with_reducible apply below_alloc) | (with_reducible apply pw_below_drewN) | (with_reducible apply below_drew1) | (with_reducible refine below_set ?_ (by first | exact Nat.le_refl _ | exact HBa.out.size | exact HBb.out.size | exact Nat.le_succ _ | exact Nat.le_add_right _ _ | exact Nat.le_trans HBa.out.size (Nat.le_succ _) | exact Nat.le_trans HBb.out.size (Nat.le_succ _) | (have := HBa.out.size; have := HBb.out.size; (try simp only [World.size_alloc, World.size_drew]); omega) | (have := HBa.out.size; (try simp only [World.size_alloc, World.size_drew]); omega) | (simp only [World.size_alloc, World.size_drew]; omega) | (simp; done) | omega)))); done) | fail)⟩⟩
        | exact ⟨_, _, _, rfl, ⟨put3 (by first | ((repeat (first | (with_reducible exact blk_at rfl) | (with_reducible exact blk_at (by first | (simp; done) | fail)) | (with_reducible refine blk_alloc ?_ _) | (with_reducible refine blk_drewN ?_ _) | (with_reducible refine blk_drew ?_) | (with_reducible refine HKb.out _ _ _ (by decide) ?_) | (with_reducible refine HKa.out _ _ _ (by decide) ?_))); done) | fail)⟩, ⟨R_put3 (by (with_reducible repeat (first | apply Kd.R_alloc | apply Kd.R_drewN | apply Kd.R_drew)); exact HRa2.out) (by first | ((repeat (first | (with_reducible exact blk_at rfl) | (with_reducible exact blk_at (by first | (simp; done) | fail)) | (with_reducible refine blk_alloc ?_ _) | (with_reducible refine blk_drewN ?_ _) | (with_reducible refine blk_drew ?_) | (with_reducible refine HKb.out _ _ _ (by decide) ?_) | (with_reducible refine HKa.out _ _ _ (by decide) ?_))); done) | fail) (by decide)⟩, ⟨R_put3 (by (with_reducible repeat (first | apply Kd.R_alloc | apply Kd.R_drewN | apply Kd.R_drew)); exact HRb.out) (by first | ((repeat (first | (with_reducible exact blk_at rfl) | (with_reducible exact blk_at (by first | (simp; done) | fail)) | (with_reducible refine blk_alloc ?_ _) | (with_reducible refine blk_drewN ?_ _) | (with_reducible refine blk_drew ?_) | (with_reducible refine HKb.out _ _ _ (by decide) ?_) | (with_reducible refine HKa.out _ _ _ (by decide) ?_))); done) | fail) (by decide)⟩, ⟨(by first | exact Nat.le_refl _ | exact HBa.out.size | exact HBb.out.size | exact Nat.le_succ _ | exact Nat.le_add_right _ _ | exact Nat.le_trans HBa.out.size (Nat.le_succ _) | exact Nat.le_trans HBb.out.size (Nat.le_succ _) | (have := HBa.out.size; have := HBb.out.size; (try simp only [World.size_alloc, World.size_drew]); omega) | (have := HBa.out.size; (try simp only [World.size_alloc, World.size_drew]); omega) | (simp only [World.size_alloc, World.size_drew]; omega) | (simp; done) | omega)⟩, ⟨(by first | ((repeat (first | (with_reducible exact HBb.out) | (with_reducible exact HBa.out) | (with_reducible exact Below.refl _ _) | (with_reducible apply below_alloc) | (with_reducible apply pw_below_drewN) | (with_reducible apply below_drew1) | (with_reducible refine below_set ?_ (by first | exact Nat.le_refl _ | exact HBa.out.size | exact HBb.out.size | exact Nat.le_succ _ | exact Nat.le_add_right _ _ | exact Nat.le_trans HBa.out.size (Nat.le_succ _) | exact Nat.le_trans HBb.out.size (Nat.le_succ _) | (have := HBa.out.size; have := HBb.out.size; (try simp only [World.size_alloc, World.size_drew]); omega) | (have := HBa.out.size; (try simp only [World.size_alloc, World.size_drew]); omega) | (simp only [World.size_alloc, World.size_drew]; omega) | (simp; done) | omega)))); done) | fail)⟩⟩
  case rest =>
    obtain ⟨g5, vo, vd, rfl, HG5, HRO, HRD, HGE, HBW⟩ := hcut
    obtain ⟨Ao, co, eo⟩ := Kd.R_slice HRO.out
    subst eo
    obtain ⟨Ad, cd, ed⟩ := Kd.R_slice HRD.out
    subst ed
    have g0 : wc.cell? ⟨g5, 0, none⟩ = some (.slice Ao code.length co) := (blk_cell HG5.out 0).trans rfl
    have g1 : wc.cell? ⟨g5, 1, none⟩ = some (.slice Ad data.length cd) := (blk_cell HG5.out 1).trans rfl
    have g2 : wc.cell? ⟨g5, 2, none⟩ = some (.int .i64 entry) := (blk_cell HG5.out 2).trans rfl
    have HBc := Aside0.mk (HB1.out.trans (HBW.out.mono HB1.out.size))
    clear i0 i1 i2 b0 b1 b2 b4 eW1
    by_cases hr : r ≠ 0
    · have HR := Aside0.mk hr
      have hr0 : (r != 0) = true := bne_iff_ne.mpr hr
      clear hr
      go_wp2_with (first
        | (go_at_call 12; refine (new_bad 500 Ao co code Ad cd data entry r wc (Tab.below HT.out HBc.out) (Kd.R_reads' HRO.out).2.2 (Kd.R_reads' HRO.out).2.1 (by omega) HH.out HR.out).mono ?_; rintro e w4 ⟨rfl, hb⟩; have HB4 := Aside0.mk (below_step HBc.out hb); clear hb)
        | (go_at_call 8; refine (awake_calls _ (Tab.below HT.out HB4.out)).mono ?_; rintro e w5 ⟨rfl, hb⟩; have HB5 := Aside0.mk (below_step HB4.out hb); clear hb))
      go_ret
      exact ⟨rfl, HB5.out⟩
    have hr : r = 0 := by omega
    subst hr
    obtain ⟨m1, hl2, hrun, hout, heq⟩ := HGO.out rfl
    have HRUN := Aside0.mk hrun
    have HOUT := Aside0.mk hout
    have HEQ := Aside0.mk heq
    clear hrun hout heq
    go_wp2_with (go_at_call 12; refine (new_ok' 500 Ao co code Ad cd data entry wc (Tab.below HT.out HBc.out) (Kd.R_reads' HRO.out).2.2 (Kd.R_reads' HRO.out).2.1 (Kd.R_reads' HRD.out).2.2 (Kd.R_reads' HRD.out).2.1 (by omega) hl2 HH.out).mono ?_; rintro e w4 ⟨g, P, rfl, hI, hP1, hP2, hb⟩; have HM4 := Aside0.mk hI; have HP1 := Aside0.mk hP1; have HP2 := Aside0.mk hP2; have HB4 := Aside0.mk (below_step HBW.out hb); have HG4 := Aside0.mk (blk_below HG5.out hb); have HRO4 := Aside0.mk (Kd.R_below HRO.out hb); have HRD4 := Aside0.mk (Kd.R_below HRD.out hb); have SZ4 := Aside0.mk hb.size; have HBw := Aside0.mk hb; clear hb hI hP1 hP2)
    clear g0 g1 g2
    obtain ⟨bo, hbo⟩ := own_place (w4 := w4) HRO.out HBw.out HG5.out (by decide) HBW.out.size
    obtain ⟨bd, hbd⟩ := own_place (w4 := w4) HRD.out HBw.out HG5.out (by decide) HBW.out.size
    have HNE := Aside0.mk (show 0 < data.length → bd ≠ bo from fun h1 => by
      obtain ⟨_, _, _, x2, _⟩ := hbd.2.2.2.1 h1
      by_cases h2 : 0 < code.length
      · obtain ⟨_, _, _, x1, _⟩ := hbo.2.2.2.1 h2
        exact blk_ne' x2 x1 (by decide)
      · rw [hbo.2.2.2.2 h2]
        exact Nat.ne_of_lt (blk_lt x2))
    have HOo := Aside0.mk hbo
    have HOdw := Aside0.mk hbd
    clear hbo hbd
    go_loopg [8] code.length (fun kq v8 wq => ∃ i : Nat, v8 = .int .i64 (i : Int) ∧ i + kq = code.length ∧ Aside0 (Chg (fun k => k = bo) w4 wq) ∧ Aside0 (0 < code.length → ∃ (c : Nat) (cells : Array Value), Value.slice Ao code.length co = .slice (some ⟨bo, 0, none⟩) code.length c ∧ wq.heap[bo]? = some (.cells cells 55 (0, 0)) ∧ code.length ≤ cells.size) ∧ Aside0 (wq.heap.size = w4.heap.size))
    case atStart => exact ⟨0, rfl, by omega, ⟨Chg.refl _ _⟩, ⟨HOo.out.2.2.2.1⟩, ⟨rfl⟩⟩
    case round =>
      obtain ⟨i, rfl, hi, HCo, HWo, HSo⟩ := hrel
      have HGq := Aside0.mk (Chg.blk HCo.out HG4.out (fun e2 => HOo.out.2.1 e2.symm))
      have g0 : wr.cell? ⟨g5, 0, none⟩ = some (.slice Ao code.length co) := (blk_cell HGq.out 0).trans rfl
      have g1 : wr.cell? ⟨g5, 1, none⟩ = some (.slice Ad data.length cd) := (blk_cell HGq.out 1).trans rfl
      by_cases ci : i < code.length
      · have d0 : decide ((i : Int) < (code.length : Int)) = true := decide_eq_true (by omega)
        have d1 : decide (i < code.length) = true := decide_eq_true ci
        have q1 : (0 : Int) ≤ (i : Int) := by omega
        have q2 : (i : Int) < (code.length : Int) := by omega
        obtain ⟨cx, cells, ev, hcell, hlen⟩ := HWo.out (by omega)
        injection ev with e1 e2 e3
        subst e1
        subst e3
        obtain ⟨u, hu⟩ : ∃ u, wr.cell? ⟨bo, i, none⟩ = some u := ⟨_, (blk_cell hcell i).trans (Array.getElem?_eq_getElem (by omega))⟩
        have fu := blk_frozen hcell i
        have HCL := Aside0.mk hcell
        have HLN := Aside0.mk hlen
        have HI' := Aside0.mk hi
        have hwi := Aside0.mk (show wrap64 ((i : Int) + 1) = ((i + 1 : Nat) : Int) by unfold wrap64; omega)
        clear hcell hlen hi e2
        go_wp2
        go_roundg (code.length - i - 1)
        case measure => have := HI'.out; omega
        case rel => exact ⟨i + 1, by have := hwi.out; first | rfl | (simpa using this), by have := HI'.out; omega, ⟨HCo.out.setCell (a := ⟨bo, i, none⟩) rfl _⟩, ⟨fun _ => ⟨_, _, rfl, blk_put HCL.out i _ rfl, by have := HLN.out; simpa using this⟩⟩, ⟨(World.size_setCell _ _ _).trans HSo.out⟩⟩
      · have d0 : decide ((i : Int) < (code.length : Int)) = false := decide_eq_false (by omega)
        have d1 : decide (i < code.length) = false := decide_eq_false ci
        clear ci hi
        obtain ⟨w5, rfl⟩ : ∃ W, W = wr := ⟨_, rfl⟩
        have HGo := HGq
        have HO5 := Aside0.mk (show 0 < data.length → ∃ (c : Nat) (cells : Array Value), Value.slice Ad data.length cd = .slice (some ⟨bd, 0, none⟩) data.length c ∧ w5.heap[bd]? = some (.cells cells 2 (0, 0)) ∧ data.length ≤ cells.size from fun h1 => by
          obtain ⟨c, cells, x1, x2, x3⟩ := HOdw.out.2.2.2.1 h1
          exact ⟨c, cells, x1, Chg.blk HCo.out x2 (HNE.out h1), x3⟩)
        have HOd := Aside0.mk (show W1.heap.size ≤ bd ∧ bd ≠ g5 ∧ True ∧ True from ⟨HOdw.out.1, HOdw.out.2.1, trivial, trivial⟩)
        clear HGq
        go_wp2
        clear g0 g1 d0 d1
        go_loopg [9] data.length (fun kq v9 wq => ∃ i : Nat, v9 = .int .i64 (i : Int) ∧ i + kq = data.length ∧ Aside0 (Chg (fun k => k = bd) w5 wq) ∧ Aside0 (0 < data.length → ∃ (c : Nat) (cells : Array Value), Value.slice Ad data.length cd = .slice (some ⟨bd, 0, none⟩) data.length c ∧ wq.heap[bd]? = some (.cells cells 2 (0, 0)) ∧ data.length ≤ cells.size) ∧ Aside0 (wq.heap.size = w5.heap.size))
        case atStart => exact ⟨0, rfl, by omega, ⟨Chg.refl _ _⟩, HO5, ⟨rfl⟩⟩
        case round =>
          obtain ⟨i, rfl, hi, HCd, HWd, HSd⟩ := hrel
          have HGq := Aside0.mk (Chg.blk HCd.out HGo.out (fun e2 => HOd.out.2.1 e2.symm))
          have g0 : wr.cell? ⟨g5, 0, none⟩ = some (.slice Ao code.length co) := (blk_cell HGq.out 0).trans rfl
          have g1 : wr.cell? ⟨g5, 1, none⟩ = some (.slice Ad data.length cd) := (blk_cell HGq.out 1).trans rfl
          by_cases ci : i < data.length
          · have d0 : decide ((i : Int) < (data.length : Int)) = true := decide_eq_true (by omega)
            have d1 : decide (i < data.length) = true := decide_eq_true ci
            have q1 : (0 : Int) ≤ (i : Int) := by omega
            have q2 : (i : Int) < (data.length : Int) := by omega
            obtain ⟨cx, cells, ev, hcell, hlen⟩ := HWd.out (by omega)
            injection ev with e1 e2 e3
            subst e1
            subst e3
            obtain ⟨u, hu⟩ : ∃ u, wr.cell? ⟨bd, i, none⟩ = some u := ⟨_, (blk_cell hcell i).trans (Array.getElem?_eq_getElem (by omega))⟩
            have fu := blk_frozen hcell i
            have HCL := Aside0.mk hcell
            have HLN := Aside0.mk hlen
            have HI' := Aside0.mk hi
            have hwi := Aside0.mk (show wrap64 ((i : Int) + 1) = ((i + 1 : Nat) : Int) by unfold wrap64; omega)
            clear hcell hlen hi e2
            go_wp2
            go_roundg (data.length - i - 1)
            case measure => have := HI'.out; omega
            case rel => exact ⟨i + 1, by have := hwi.out; first | rfl | (simpa using this), by have := HI'.out; omega, ⟨HCd.out.setCell (a := ⟨bd, i, none⟩) rfl _⟩, ⟨fun _ => ⟨_, _, rfl, blk_put HCL.out i _ rfl, by have := HLN.out; simpa using this⟩⟩, ⟨(World.size_setCell _ _ _).trans HSd.out⟩⟩
          · have d0 : decide ((i : Int) < (data.length : Int)) = false := decide_eq_false (by omega)
            have d1 : decide (i < data.length) = false := decide_eq_false ci
            clear ci hi
            obtain ⟨w6, rfl⟩ : ∃ W, W = wr := ⟨_, rfl⟩
            have HP6 := Aside0.mk (show ∀ k, w6.heap.size ≤ k → P k from fun k hk => HP2.out k (Nat.le_trans HCo.out.size (Nat.le_trans HCd.out.size hk)))
            have HM6 := Aside0.mk (show IsM 57 P w6 g (mac0 code data entry) from ((HM4.out.keep HP1.out (fun k h1 h2 => HCo.out.block k h2 (fun e2 => by
              subst e2
              rcases HOo.out.2.2.1 with h | h <;> omega))).keep HP1.out (fun k h1 h2 => HCd.out.block k h2 (fun e2 => by
              subst e2
              by_cases hd : 0 < data.length
              · obtain ⟨_, _, _, x2, _⟩ := HO5.out hd
                rcases HOdw.out.2.2.1 with h | h
                · omega
                · have := blk_lt x2
                  obtain ⟨_, _, _, x3, _⟩ := HOdw.out.2.2.2.1 hd
                  have := blk_lt x3
                  omega
              · have := HOdw.out.2.2.2.2 hd
                have := HSo.out
                omega))).isM)
            have HB6 := Aside0.mk (show Below W1.heap.size W1 w6 from (HB4.out.trans (Chg.below HCo.out (B := W1.heap.size) (by have := HB4.out.size; omega) (fun k hk e2 => by have := HOo.out.1; omega))).trans (Chg.below HCd.out (B := W1.heap.size) (by have := HB4.out.size; have := HCo.out.size; omega) (fun k hk e2 => by have := HOd.out.1; omega)))
            have HW6 := Aside0.mk (show W1.heap.size ≤ wc.heap.size from HBW.out.size)
            have HPw := Aside0.mk (show ∀ k, k < wc.heap.size → ¬ P k from fun k hk p => by have := HP1.out k p; omega)
            clear HM4 HB4 HCd HCo HWd HWo HGq HGo HO5 HOd HOdw HOo HNE HG5 HG4 HRO HRD HRO4 HRD4 HBw HBW HGE
            go_wp2
            clear g0 g1 d0 d1
            go_loopg [10, 11] s (fun kq v10 v11 wq => ∃ (mq : Mac) (i : Nat), v10 = .bool (mq.end_ == 0) ∧ v11 = .int .i64 (i : Int) ∧ i + kq = s ∧ Aside0 (mq.steps = (i : Int)) ∧ Aside0 (Fine mq) ∧ Aside0 (runF 500 kq mq = some m1) ∧ Aside0 (IsM 57 P wq g mq) ∧ Aside0 (Chg P w6 wq))
            case atStart => exact ⟨_, 0, rfl, rfl, by omega, ⟨rfl⟩, ⟨mac0_fine _ _ _ (by omega)⟩, HRUN, HM6, ⟨Chg.refl _ _⟩⟩
            case round =>
              obtain ⟨mq, i, rfl, rfl, hi, HSq, HF, HRq, HIq, HCq⟩ := hrel
              have HBq := Aside0.mk (show Below W1.heap.size W1 wr from HB6.out.trans (Chg.below HCq.out (B := W1.heap.size) HB6.out.size (fun k hk => HPw.out k (by have := HW6.out; omega))))
              by_cases cx : mq.end_ = 0 ∧ i < s
              · obtain ⟨ce, ci⟩ := cx
                obtain ⟨q, rfl⟩ : ∃ q, gk = q + 1 := ⟨gk - 1, by omega⟩
                have hq := HRq.out
                unfold runF at hq
                rw [if_pos ce] at hq
                obtain ⟨m', hs1, hq⟩ := Option.bind_eq_some_iff.1 hq
                obtain ⟨m2, hm2, hf2, _, _, hst2⟩ := step_total 500 (by omega) HF.out
                obtain rfl : m' = m2 := Option.some.inj (hs1.symm.trans hm2)
                have d0 : decide ((i : Int) < (s : Int)) = true := decide_eq_true (by omega)
                have d1 : decide (i < s) = true := decide_eq_true ci
                have ce0 : (mq.end_ == 0) = true := beq_iff_eq.mpr ce
                have hreg : mq.regs.length = 10 := by obtain ⟨_, _, _, _, _, hx⟩ := HIq.out; exact hx.regs
                obtain ⟨r0, r1, r2, r3, r4, r5, r6, r7, r8, r9, hr⟩ := list10 hreg
                have hcs : stv mq = #[.int .i64 r0, .int .i64 r1, .int .i64 r2, .int .i64 r3, .int .i64 r4, .int .i64 r5, .int .i64 r6, .int .i64 r7, .int .i64 r8, .int .i64 r9, .int .i64 mq.at_, .int .i64 mq.depth, .int .i64 (i : Int)] := by unfold stv; rw [hr, HSq.out]; rfl
                have hwi := Aside0.mk (show wrap64 ((i : Int) + 1) = ((i + 1 : Nat) : Int) by unfold wrap64; omega)
                have HST := Aside0.mk (show m'.steps = ((i + 1 : Nat) : Int) by rw [hst2, HSq.out, hwi.out])
                have HF2 := Aside0.mk hf2
                have HS1 := Aside0.mk hs1
                have HQ := Aside0.mk hq
                have HCE := Aside0.mk ce
                have HI' := Aside0.mk hi
                have heq := eq10s r0 r1 r2 r3 r4 r5 r6 r7 r8 r9
                clear hs1 hq ce hi hm2 hf2 hst2 hreg hr
                go_wp2_with (first
              | (go_at_call 18; (with_reducible refine (state_calls' (w := wr) (P := P) HIq.out #[.int .i64 r0, .int .i64 r1, .int .i64 r2, .int .i64 r3, .int .i64 r4, .int .i64 r5, .int .i64 r6, .int .i64 r7, .int .i64 r8, .int .i64 r9, .int .i64 mq.at_, .int .i64 mq.depth, .int .i64 (i : Int)] hcs).mono ?_); rintro e wa ⟨rfl, hb⟩; have HIa := Aside0.mk (IsM.below' HIq.out (below_step hb (below_alloc (Below.refl _ _) (.cells #[.int .i64 r0, .int .i64 r1, .int .i64 r2, .int .i64 r3, .int .i64 r4, .int .i64 r5, .int .i64 r6, .int .i64 r7, .int .i64 r8, .int .i64 r9, .int .i64 mq.at_, .int .i64 mq.depth, .int .i64 (i : Int)] 44)) : Below wr.heap.size wr _)); have XSa := Aside0.mk (blk_new wa (.cells #[.int .i64 r0, .int .i64 r1, .int .i64 r2, .int .i64 r3, .int .i64 r4, .int .i64 r5, .int .i64 r6, .int .i64 r7, .int .i64 r8, .int .i64 r9, .int .i64 mq.at_, .int .i64 mq.depth, .int .i64 (i : Int)] 44)); have HBa := Aside0.mk (below_alloc (below_step HBq.out hb) (.cells #[.int .i64 r0, .int .i64 r1, .int .i64 r2, .int .i64 r3, .int .i64 r4, .int .i64 r5, .int .i64 r6, .int .i64 r7, .int .i64 r8, .int .i64 r9, .int .i64 mq.at_, .int .i64 mq.depth, .int .i64 (i : Int)] 44)); have CHa := Aside0.mk ((HCq.out.trans (Chg.of_below hb)).alloc (.cells #[.int .i64 r0, .int .i64 r1, .int .i64 r2, .int .i64 r3, .int .i64 r4, .int .i64 r5, .int .i64 r6, .int .i64 r7, .int .i64 r8, .int .i64 r9, .int .i64 mq.at_, .int .i64 mq.depth, .int .i64 (i : Int)] 44)); clear hb)
              | (go_at_call 18; refine (state_calls' (P := P) HIa.out #[.int .i64 r0, .int .i64 r1, .int .i64 r2, .int .i64 r3, .int .i64 r4, .int .i64 r5, .int .i64 r6, .int .i64 r7, .int .i64 r8, .int .i64 r9, .int .i64 mq.at_, .int .i64 mq.depth, .int .i64 (i : Int)] hcs).mono ?_; rintro e wb ⟨rfl, hb⟩; have HIb := Aside0.mk (IsM.below' HIa.out (below_step hb (below_alloc (Below.refl _ _) (.cells #[.int .i64 r0, .int .i64 r1, .int .i64 r2, .int .i64 r3, .int .i64 r4, .int .i64 r5, .int .i64 r6, .int .i64 r7, .int .i64 r8, .int .i64 r9, .int .i64 mq.at_, .int .i64 mq.depth, .int .i64 (i : Int)] 44)))); have XSb := Aside0.mk (blk_alloc (blk_below XSa.out hb) (.cells #[.int .i64 r0, .int .i64 r1, .int .i64 r2, .int .i64 r3, .int .i64 r4, .int .i64 r5, .int .i64 r6, .int .i64 r7, .int .i64 r8, .int .i64 r9, .int .i64 mq.at_, .int .i64 mq.depth, .int .i64 (i : Int)] 44)); have XTb := Aside0.mk (blk_new wb (.cells #[.int .i64 r0, .int .i64 r1, .int .i64 r2, .int .i64 r3, .int .i64 r4, .int .i64 r5, .int .i64 r6, .int .i64 r7, .int .i64 r8, .int .i64 r9, .int .i64 mq.at_, .int .i64 mq.depth, .int .i64 (i : Int)] 44)); have HBb := Aside0.mk (below_alloc (below_step HBa.out hb) (.cells #[.int .i64 r0, .int .i64 r1, .int .i64 r2, .int .i64 r3, .int .i64 r4, .int .i64 r5, .int .i64 r6, .int .i64 r7, .int .i64 r8, .int .i64 r9, .int .i64 mq.at_, .int .i64 mq.depth, .int .i64 (i : Int)] 44)); have CHb := Aside0.mk ((CHa.out.trans (Chg.of_below hb)).alloc (.cells #[.int .i64 r0, .int .i64 r1, .int .i64 r2, .int .i64 r3, .int .i64 r4, .int .i64 r5, .int .i64 r6, .int .i64 r7, .int .i64 r8, .int .i64 r9, .int .i64 mq.at_, .int .i64 mq.depth, .int .i64 (i : Int)] 44)); clear hb)
              | (go_at_call 20; refine (peek_any (P := P) HIb.out _ _ rfl).mono ?_; rintro e wx ⟨rfl, rfl⟩)
              | (go_at_call 14; refine (behaviour_calls (P := P) HIb.out HF.out.out).mono ?_; rintro e wd ⟨vy, rfl, _, hb⟩; have HId := Aside0.mk (IsM.below' HIb.out hb); have XSd := Aside0.mk (blk_below XSb.out hb); have XTd := Aside0.mk (blk_below XTb.out hb); have HBd := Aside0.mk (below_step HBb.out hb); have CHd := Aside0.mk (CHb.out.trans (Chg.of_below hb)); clear hb; have s0 := (blk_cell XSd.out 0).trans rfl; have t0 := (blk_cell XTd.out 0).trans rfl; have s1 := (blk_cell XSd.out 1).trans rfl; have t1 := (blk_cell XTd.out 1).trans rfl; have s2 := (blk_cell XSd.out 2).trans rfl; have t2 := (blk_cell XTd.out 2).trans rfl; have s3 := (blk_cell XSd.out 3).trans rfl; have t3 := (blk_cell XTd.out 3).trans rfl; have s4 := (blk_cell XSd.out 4).trans rfl; have t4 := (blk_cell XTd.out 4).trans rfl; have s5 := (blk_cell XSd.out 5).trans rfl; have t5 := (blk_cell XTd.out 5).trans rfl; have s6 := (blk_cell XSd.out 6).trans rfl; have t6 := (blk_cell XTd.out 6).trans rfl; have s7 := (blk_cell XSd.out 7).trans rfl; have t7 := (blk_cell XTd.out 7).trans rfl; have s8 := (blk_cell XSd.out 8).trans rfl; have t8 := (blk_cell XTd.out 8).trans rfl; have s9 := (blk_cell XSd.out 9).trans rfl; have t9 := (blk_cell XTd.out 9).trans rfl; have s10 := (blk_cell XSd.out 10).trans rfl; have t10 := (blk_cell XTd.out 10).trans rfl; have s11 := (blk_cell XSd.out 11).trans rfl; have t11 := (blk_cell XTd.out 11).trans rfl; have s12 := (blk_cell XSd.out 12).trans rfl; have t12 := (blk_cell XTd.out 12).trans rfl)
              | (go_at_call 13; refine (stepx_calls (P := P) 500 HId.out (Tab.below HT.out (HB1.out.trans (HBd.out.mono HB1.out.size))) (fun k hk => HP6.out k (Nat.le_trans CHd.out.size hk)) m' HCE.out HS1.out).mono ?_; rintro e w5 ⟨rfl, hi5, hc5⟩; have HI5 := Aside0.mk hi5; have HC5 := Aside0.mk (CHd.out.trans hc5); clear hi5 hc5))
                go_roundg q
                case measure => omega
                case rel => exact ⟨m', i + 1, rfl, by have := hwi.out; first | rfl | (simpa using this), by have := HI'.out; omega, HST, HF2, HQ, HI5, HC5⟩
              · have hm : mq = m1 := by
                  have hq := HRq.out
                  by_cases ce : mq.end_ = 0
                  · obtain rfl : gk = 0 := by
                      have : ¬ i < s := fun h => cx ⟨ce, h⟩
                      omega
                    exact Option.some.inj hq
                  · rw [run_ended 500 gk ce] at hq
                    exact Option.some.inj hq
                have hx : (decide ((i : Int) < (s : Int)) = false ∧ decide (i < s) = false) ∨ (decide ((i : Int) < (s : Int)) = true ∧ decide (i < s) = true ∧ (mq.end_ == 0) = false) := by
                  by_cases ci : i < s
                  · exact .inr ⟨decide_eq_true (by omega), decide_eq_true ci, beq_eq_false_iff_ne.mpr (fun h => cx ⟨h, ci⟩)⟩
                  · exact .inl ⟨decide_eq_false (by omega), decide_eq_false ci⟩
                subst hm
                clear cx HRq hi HSq
                rcases hx with ⟨d0, d1⟩ | ⟨d0, d1, ce0⟩
                all_goals
                  go_wp2_with (first
                    | (go_at_call 14; refine (behaviour_calls (P := P) HIq.out HOUT.out).mono ?_; rintro e wa ⟨va, rfl, hra, hb⟩; obtain ⟨Aa, ca, ea⟩ := Kd.R_slice hra; subst ea; have HRa := Aside0.mk hra; have HBa := Aside0.mk (below_alloc (below_step HBq.out hb) (.cells #[.slice Aa mq.out.length ca, .int .i64 (endOf mq), .int .i64 mq.why] 28)); have XAa := Aside0.mk (blk_new wa (.cells #[.slice Aa mq.out.length ca, .int .i64 (endOf mq), .int .i64 mq.why] 28)); have SAa := Aside0.mk (below_alloc (Below.refl wa.heap.size wa) (.cells #[.slice Aa mq.out.length ca, .int .i64 (endOf mq), .int .i64 mq.why] 28)); have x0 := (HK.out _ HBa.out).1; have x1 := (HK.out _ HBa.out).2.1; have x2 := (HK.out _ HBa.out).2.2; clear hb hra)
                    | (go_at_call 9; refine (run_calls 500 A0 c0 code A1 c1 data entry s mq _ (Tab.below HT.out (HB1.out.trans (HBa.out.mono HB1.out.size))) (Kd.C_below HC.out (HB1.out.trans (HBa.out.mono HB1.out.size))) hc0 (Kd.C_below HD.out (HB1.out.trans (HBa.out.mono HB1.out.size))) hc1 (by omega) hl2 HH.out (by omega) HRUN.out HOUT.out).mono ?_; rintro e wb ⟨vb, rfl, hrb, hb⟩; obtain ⟨Ab, cb, eb⟩ := Kd.R_slice hrb; subst eb; have HRb := Aside0.mk hrb; have HBb := Aside0.mk (below_alloc (below_step HBa.out hb) (.cells #[.slice Ab mq.out.length cb, .int .i64 (endOf mq), .int .i64 mq.why] 28)); have SAb := Aside0.mk (below_alloc (below_step SAa.out hb) (.cells #[.slice Ab mq.out.length cb, .int .i64 (endOf mq), .int .i64 mq.why] 28)); have XAb := Aside0.mk (blk_alloc (blk_below XAa.out hb) (.cells #[.slice Ab mq.out.length cb, .int .i64 (endOf mq), .int .i64 mq.why] 28)); have XBb := Aside0.mk (blk_new wb (.cells #[.slice Ab mq.out.length cb, .int .i64 (endOf mq), .int .i64 mq.why] 28)); have y0 := (blk_cell XAb.out 0).trans rfl; have y1 := (blk_cell XAb.out 1).trans rfl; have y2 := (blk_cell XAb.out 2).trans rfl; have z0 := (blk_cell XBb.out 0).trans rfl; have z1 := (blk_cell XBb.out 1).trans rfl; have z2 := (blk_cell XBb.out 2).trans rfl; clear hb hrb)
                    | (go_at_call 11; refine (cupelref10_Equal.calls 5000 Aa ca mq.out (endOf mq) mq.why Ab cb mq.out (endOf mq) mq.why true _ (Kd.C_below (Kd.R_reads' HRa.out).2.2 SAb.out) (Kd.R_reads' HRa.out).2.1 (Kd.C_below (Kd.R_reads' HRb.out).2.2 (below_alloc (Below.refl _ _) _)) (Kd.R_reads' HRb.out).2.1 HEQ.out).mono ?_; rintro e wd ⟨rfl, hb⟩; have HBd := Aside0.mk (below_step HBb.out hb); clear hb)
                    | (go_at_call 8; refine (awake_calls _ (Tab.below HT.out (HB1.out.trans (HBd.out.mono HB1.out.size)))).mono ?_; rintro e we ⟨rfl, hb⟩; have HBe := Aside0.mk (below_step HBd.out hb); clear hb))
                  go_ret
                  exact ⟨rfl, HB1.out.trans (HBe.out.mono HB1.out.size)⟩
/-- the law, of all inputs -/
theorem law_copies (A0 : Option Addr) (c0 : Nat) (code : List Int) (A1 : Option Addr) (c1 : Nat) (data : List Int) (entry s : Int) (w : World) (hT : Tab w) (hC : Kd.C (Kd.int .u64) w A0 code.length code) (hc0 : code.length ≤ c0) (hD : Kd.C (Kd.int .i64) w A1 data.length data) (hc1 : data.length ≤ c1) :
    Calls Tryd.prog 6 #[.agg #[.slice A0 code.length c0, .slice A1 data.length c1, .int .i64 entry], .int .i64 s] w fun e w' => e = .returned (.bool true) ∧ Below w.heap.size w w' := by
  by_cases h : 400 < (code.length : Int) ∨ 30000 < (data.length : Int) ∨ s < 0 ∨ 200 < s
  · exact copies_far A0 c0 code A1 c1 data entry s w hT h
  · obtain ⟨n, rfl⟩ : ∃ n : Nat, s = n := ⟨s.toNat, by omega⟩
    obtain ⟨r, hr, h0⟩ := check_total code data entry (by omega) 500 (by omega)
    refine copies_in A0 c0 code A1 c1 data entry n r w hT hC hc0 hD hc1 (by omega) (by omega) (by omega) hr (fun h1 => ?_)
    obtain ⟨m1, h2, f1, _, _⟩ := run_total 500 (by omega) n (mac0_fine code data entry (by omega))
    exact ⟨m1, (h0 h1).1, h2, f1.out, equal_refl _ _ _ f1.out 5000 (by omega)⟩
end Go.Proofs.YtekhnkpjeofdpaaDoor.A
