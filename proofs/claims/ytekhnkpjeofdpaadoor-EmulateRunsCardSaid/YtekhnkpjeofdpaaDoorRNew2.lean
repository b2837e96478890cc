/- The reference's machine (cupelref23): New of an image that is not refused: contract. -/
import Derived.Test.YtekhnkpjeofdpaaDoorRNew
import Derived.Deep.RegionHeld3
set_option linter.unusedVariables false
set_option maxRecDepth 100000
namespace Go.Proofs.YtekhnkpjeofdpaaDoor.A
open Go.RowKit Go.Proofs.YtekhnkpjeofdpaaDoorW.PrintWords Go.Proofs.YtekhnkpjeofdpaaDoorW.PrintLast Go.Proofs.YtekhnkpjeofdpaaDoorW.PrintMore
set_option maxHeartbeats 4000000
theorem step_store_row {P : Program} {ops : Array Oper} {o : Oper} {a : Act} {w : World} {K : Act → World → Prop} {Q : Exit → Act → World → Prop} {E : Prop} (hgd : o.guard = none) (ty : TypeId) (x y : Operand) (ho : o.op = .store ty x y)
    (g : Nat) (cells : Array Value) (hx : a.eval x = .pointer (some ⟨g, 0, none⟩)) (hy : a.eval y = .agg cells)
    (t : TypeId) (old : Array Value) (hg : w.heap[g]? = some (.cells old t (0, 0))) (hi : (P.info? ty).map (·.size) = some cells.size)
    (hold : old.size = cells.size) (h1 : cells.all (·.oneCell') = true)
    (h : K (a.put o.dst undef) (w.setRow g cells)) : if Region.wanted o (yielded ops a.tmps) = true then Oper.wp P o a w K Q else E := by
  have hw : Region.wanted o (yielded ops a.tmps) = true := by simp [Region.wanted, hgd]
  rw [if_pos hw]
  exact wp_store_row ty x y ho g cells hx hy t old hg hi hold h1 h
theorem step_make {P : Program} {ops : Array Oper} {o : Oper} {a : Act} {w : World} {K : Act → World → Prop} {Q : Exit → Act → World → Prop} {E : Prop} (hgd : o.guard = none) (t : TypeId) (x y : Operand) (ho : o.op = .makeSlice t x y) (u1 u2 v : Value) (W : World) (hx : a.eval x = u1) (hy : a.eval y = u2) (hrun : (Instr.makeSlice t u1 u2).run P w = .ok v W)
    (h : K (a.put o.dst v) W) : if Region.wanted o (yielded ops a.tmps) = true then Oper.wp P o a w K Q else E := by
  have hw : Region.wanted o (yielded ops a.tmps) = true := by simp [Region.wanted, hgd]
  rw [if_pos hw]
  unfold Oper.wp execOp
  simp only [ho, hx, hy, hrun, Result.andThen_ok, Sem.run_bind, Sem.run_pure]
  exact h
def r16o1 : Oper := { dst := some 14, op := .load 22 (.tmp 13), type := 22, pos := "ref.go:26", after := #[{ on := 0, ground := .data }], guard := none }
def r16o2 : Oper := { dst := some 15, op := .makeSlice 23 (.const (.int .i64 20000)) (.const (.int .i64 20000)), type := 23, pos := "ref.go:26", after := #[], guard := none }
def r16o3 : Oper := { dst := some 16, op := .build 46 #[(0, .tmp 14), (1, .tmp 15)], type := 46, pos := "ref.go:26", after := #[{ on := 1, ground := .data }, { on := 2, ground := .data }], guard := none }
def r16o4 : Oper := { dst := some 5, op := .alloc 46, type := 0, pos := "ref.go:26", after := #[], guard := none }
def r16o5 : Oper := { dst := none, op := .store 46 (.tmp 5) (.tmp 16), type := 0, pos := "ref.go:26", after := #[{ on := 4, ground := .data }, { on := 3, ground := .data }, { on := 0, ground := .phase }, { on := 1, ground := .phase }, { on := 2, ground := .phase }, { on := 3, ground := .phase }, { on := 4, ground := .phase }], guard := none }
theorem rnew_ok (k : Nat) (A0 : Option Addr) (c0 : Nat) (code : List Int) (A1 : Option Addr) (c1 : Nat) (data : List Int) (entry : Int) (w : World) (hC : Kd.C (Kd.int .u64) w A0 code.length code) (hc0 : code.length ≤ c0) (hD : Kd.C (Kd.int .i64) w A1 data.length data) (hc1 : data.length ≤ c1) (hl1 : data.length ≤ 20000) (h : cupelref20_Check.f k code data entry = some 0) :
    Calls Tryd.prog 16 #[.agg #[.slice A0 code.length c0, .slice A1 data.length c1, .int .i64 entry]] w fun e w' => ∃ bm, e = .returned (.tuple #[.agg (mcells (mac0 code data entry) (.slice A0 code.length c0) (.slice (some ⟨bm, 0, none⟩) 20000 20000) (.slice none 0 0) (.slice none 0 0)), .int .i64 0]) ∧ w.heap.size ≤ bm ∧ w'.heap[bm]? = some (.cells ((mac0 code data entry).mem.map (Value.int .i64)).toArray 2 (0, 0)) ∧ Below w.heap.size w w' := by
  have HC := Aside0.mk hC
  have HD := Aside0.mk hD
  have HH := Aside0.mk h
  obtain ⟨W2, eW2⟩ : ∃ W, (w.alloc (.cells #[.slice A0 code.length c0, .slice A1 data.length c1, .int .i64 entry] 25)).alloc (.cells zero19 46) = W := ⟨_, rfl⟩
  have HB2 := Aside0.mk (show Below w.heap.size w W2 from eW2 ▸ below_alloc (below_alloc (Below.refl _ _) _) _)
  have HZ := Aside0.mk (show W2.heap[w.heap.size + 1]? = some (.cells zero19 46 (0, 0)) from eW2 ▸ blk_new2 w _ _)
  have HI := Aside0.mk (show W2.heap[w.heap.size]? = some (.cells #[.slice A0 code.length c0, .slice A1 data.length c1, .int .i64 entry] 25 (0, 0)) from eW2 ▸ blk_alloc (blk_new w _) _)
  have i0 : W2.cell? ⟨w.heap.size, 0, none⟩ = some (.slice A0 code.length c0) := (blk_cell HI.out 0).trans rfl
  have i1 : W2.cell? ⟨w.heap.size, 1, none⟩ = some (.slice A1 data.length c1) := (blk_cell HI.out 1).trans rfl
  have i2 : W2.cell? ⟨w.heap.size, 2, none⟩ = some (.int .i64 entry) := (blk_cell HI.out 2).trans rfl
  have hmk : ∀ W : World, (Instr.makeSlice 23 (.int .i64 20000) (.int .i64 20000)).run Tryd.prog W = .ok (.slice (some ⟨W.heap.size, 0, none⟩) 20000 20000) (W.alloc (.cells (madeCells #[.int .i64 0] 20000) 2)) := run_make_row' (P := Tryd.prog) 23 2 (.int .i64 0) 8 Tryd.underlying23 info2 rfl .i64 .i64 20000 (by omega) (by omega)
  have hMC := toList_madeCells_one (.int .i64 0) 20000
  generalize madeCells #[.int .i64 0] 20000 = MC at hmk hMC
  have HMC := Aside0.mk hMC
  unfold zero19 at eW2
  have HMK := Aside0.mk hmk
  clear hC hD h hMC hmk
  go_enter Tryd.func16, Tryd.ntmps16
  go_upto_region 4 with (go_at_call 28; refine (cupelref20_Check.calls k A0 c0 code A1 c1 data entry 0 _ (Kd.C_below HC.out HB2.out) hc0 (Kd.C_below HD.out HB2.out) hc1 HH.out).mono ?_; rintro e w3 ⟨rfl, hb⟩; have HB3 := Aside0.mk (below_step HB2.out hb); have HZ3 := Aside0.mk (blk_below HZ.out hb); have HI3 := Aside0.mk (blk_below HI.out hb); have j0 := (blk_cell HI3.out 0).trans rfl; have j0a := fun o => (blk_cell (blk_alloc HI3.out o) 0).trans rfl; have j0b := fun o o' => (blk_cell (blk_alloc (blk_alloc HI3.out o) o') 0).trans rfl; clear hb)
  clear i0 i1 i2 eW2
  go_cut [5] (fun v5 wc => ∃ (g bm : Nat), v5 = .pointer (some ⟨g, 0, none⟩) ∧ Aside0 (wc.heap[g]? = some (.cells (mcells (mac0 code [] 0) (.slice A0 code.length c0) (.slice (some ⟨bm, 0, none⟩) 20000 20000) (.slice none 0 0) (.slice none 0 0)) 46 (0, 0))) ∧ Aside0 (wc.heap[bm]? = some (.cells MC 2 (0, 0))) ∧ Aside0 (w3.heap.size ≤ g) ∧ Aside0 (w3.heap.size ≤ bm) ∧ Aside0 (Below w3.heap.size w3 wc))
  case first =>
    refine wp_region_any (by kernel_rfl) ?_
    try (change wpAny _ _ _ _ _ _ _ (World.drew _))
    refine wpAny_take (i := 0) (v := .pointer (some ⟨w.heap.size, 0, none⟩)) rfl (by kernel_rfl) (by kernel_rfl) (by kernel_rfl) (fun _ _ _ h => h) (Or.inl ⟨by rfl, (fun W => by go_simp)⟩) ?_
    repeat (all_goals (first | (refine wpAny_ready (rs := [1, 2, 4]) ?hr (by simp) ?_; (case hr => decide +kernel); refine (AllReady.cons (o := r16o1) rfl (fun K hK => ?_) (AllReady.cons (o := r16o2) rfl (fun K hK => ?_) (AllReady.cons (o := r16o4) rfl (fun K hK => ?_) AllReady.nil)))) | (refine wpAny_ready (rs := [2, 4]) ?hr (by simp) ?_; (case hr => decide +kernel); refine (AllReady.cons (o := r16o2) rfl (fun K hK => ?_) (AllReady.cons (o := r16o4) rfl (fun K hK => ?_) AllReady.nil))) | (refine wpAny_ready (rs := [1, 4]) ?hr (by simp) ?_; (case hr => decide +kernel); refine (AllReady.cons (o := r16o1) rfl (fun K hK => ?_) (AllReady.cons (o := r16o4) rfl (fun K hK => ?_) AllReady.nil))) | (refine wpAny_ready (rs := [1, 2]) ?hr (by simp) ?_; (case hr => decide +kernel); refine (AllReady.cons (o := r16o1) rfl (fun K hK => ?_) (AllReady.cons (o := r16o2) rfl (fun K hK => ?_) AllReady.nil))) | (refine wpAny_ready (rs := [3, 4]) ?hr (by simp) ?_; (case hr => decide +kernel); refine (AllReady.cons (o := r16o3) rfl (fun K hK => ?_) (AllReady.cons (o := r16o4) rfl (fun K hK => ?_) AllReady.nil))) | (refine wpAny_ready (rs := [4]) ?hr (by simp) ?_; (case hr => decide +kernel); refine (AllReady.cons (o := r16o4) rfl (fun K hK => ?_) AllReady.nil)) | (refine wpAny_ready (rs := [3]) ?hr (by simp) ?_; (case hr => decide +kernel); refine (AllReady.cons (o := r16o3) rfl (fun K hK => ?_) AllReady.nil)) | (refine wpAny_ready (rs := [5]) ?hr (by simp) ?_; (case hr => decide +kernel); refine (AllReady.cons (o := r16o5) rfl (fun K hK => ?_) AllReady.nil)) | (refine wpAny_ready (rs := [1]) ?hr (by simp) ?_; (case hr => decide +kernel); refine (AllReady.cons (o := r16o1) rfl (fun K hK => ?_) AllReady.nil)) | (refine wpAny_ready (rs := [2]) ?hr (by simp) ?_; (case hr => decide +kernel); refine (AllReady.cons (o := r16o2) rfl (fun K hK => ?_) AllReady.nil)) | ((first | ((refine step_store_row (o := r16o5) rfl 46 (.tmp 5) (.tmp 16) rfl (w3.heap.size + 1) (mcells (mac0 code [] 0) (.slice A0 code.length c0) (.slice (some ⟨w3.heap.size, 0, none⟩) 20000 20000) (.slice none 0 0) (.slice none 0 0)) rfl rfl 46 zero19 (blk_drew (blk_new2 w3 _ _)) (info46.trans rfl) rfl (by kernel_rfl) ?_); unfold r16o5; (try go_simp)) | ((refine step_store_row (o := r16o5) rfl 46 (.tmp 5) (.tmp 16) rfl (w3.heap.size) (mcells (mac0 code [] 0) (.slice A0 code.length c0) (.slice (some ⟨w3.heap.size + 1, 0, none⟩) 20000 20000) (.slice none 0 0) (.slice none 0 0)) rfl rfl 46 zero19 (blk_drew (blk_alloc (blk_new w3 _) _)) (info46.trans rfl) rfl (by kernel_rfl) ?_); unfold r16o5; (try go_simp)) | ((refine step_make (o := r16o2) rfl 23 (.const (.int .i64 20000)) (.const (.int .i64 20000)) rfl (.int .i64 20000) (.int .i64 20000) _ _ rfl rfl (HMK.out _) ?_); unfold r16o2; (try go_simp)) | ((first | unfold r16o1 | unfold r16o3 | unfold r16o4); go_simp)); refine hK _ _ ?_; clear hK K)))
    all_goals (refine wpAny_done (by decide +kernel) ?_ _)
    all_goals
      try go_wp2
      try simp only [Act.put, List.setIfInBounds_toArray, List.set_cons_zero, List.set_cons_succ, List.getElem_toArray, List.getElem_cons_succ, List.getElem_cons_zero]
      go_meet
      case rel => first
        | exact ⟨w3.heap.size + 1, w3.heap.size, rfl, ⟨setRow_heap _ (w3.heap.size + 1) zero19 _ 46 (0, 0) (blk_drew (blk_new2 w3 _ _))⟩, ⟨(setRow_other _ (w3.heap.size + 1) w3.heap.size _ (Nat.ne_of_lt (Nat.lt_succ_self _))).trans (blk_drew (blk_alloc (blk_new w3 _) _))⟩, ⟨Nat.le_succ _⟩, ⟨Nat.le_refl _⟩, ⟨below_row (below_drew1 (below_alloc (below_alloc (Below.refl _ _) _) _)) (Nat.le_succ _)⟩⟩
        | exact ⟨w3.heap.size, w3.heap.size + 1, rfl, ⟨setRow_heap _ w3.heap.size zero19 _ 46 (0, 0) (blk_drew (blk_alloc (blk_new w3 _) _))⟩, ⟨(setRow_other _ w3.heap.size (w3.heap.size + 1) _ (Nat.ne_of_gt (Nat.lt_succ_self _))).trans (blk_drew (blk_new2 w3 _ _))⟩, ⟨Nat.le_refl _⟩, ⟨Nat.le_succ _⟩, ⟨below_row (below_drew1 (below_alloc (below_alloc (Below.refl _ _) _) _)) (Nat.le_refl _)⟩⟩
  case rest =>
    obtain ⟨g, bm, rfl, HG, HM, HGE, HBE, HBW⟩ := hcut
    have hne : g ≠ bm := by
      intro e
      have h1 := HG.out
      have h2 := HM.out
      rw [e, h2] at h1
      injection h1 with h3
      injection h3 with _ h4
      exact absurd h4 (by decide)
    have HNE := Aside0.mk hne
    have HIc := Aside0.mk (blk_below HI3.out HBW.out)
    have HZc := Aside0.mk (blk_below HZ3.out HBW.out)
    have HB4 := Aside0.mk (HB3.out.trans (HBW.out.mono HB3.out.size))
    have hw3 := HB3.out.size
    have hgw := Aside0.mk (show w.heap.size ≠ g by have := HGE.out; have := blk_lt HI3.out; omega)
    have hbw := Aside0.mk (show w.heap.size ≠ bm by have := HBE.out; have := blk_lt HI3.out; omega)
    have hgz := Aside0.mk (show w.heap.size + 1 ≠ g by have := HGE.out; have := blk_lt HZ3.out; omega)
    have hbz := Aside0.mk (show w.heap.size + 1 ≠ bm by have := HBE.out; have := blk_lt HZ3.out; omega)
    have HL := Aside0.mk (show MC.toList.length = 20000 by rw [HMC.out, List.length_replicate])
    have HST := Aside0.mk (show MC = ((data.take 0).map (Value.int .i64) ++ MC.toList.drop 0).toArray by rw [List.take_zero, List.map_nil, List.nil_append, List.drop_zero, Array.toArray_toList])
    clear hne j0 j0a j0b
    go_wp2
    go_loopw [6] (fun v6 wl => ∃ i : Nat, i ≤ data.length ∧ v6 = .int .i64 (i : Int) ∧ Aside0 (wl.heap[bm]? = some (.cells ((data.take i).map (Value.int .i64) ++ MC.toList.drop i).toArray 2 (0, 0))) ∧ Aside0 (wl.heap[g]? = some (.cells (mcells (mac0 code [] 0) (.slice A0 code.length c0) (.slice (some ⟨bm, 0, none⟩) 20000 20000) (.slice none 0 0) (.slice none 0 0)) 46 (0, 0))) ∧ Aside0 (wl.heap[w.heap.size]? = some (.cells #[.slice A0 code.length c0, .slice A1 data.length c1, .int .i64 entry] 25 (0, 0))) ∧ Aside0 (wl.heap[w.heap.size + 1]? = some (.cells zero19 46 (0, 0))) ∧ Aside0 (Below w.heap.size w wl)) (fun v6 _ => data.length - (intOf v6).toNat)
    case atStart =>
      refine ⟨0, Nat.zero_le _, rfl, ⟨?_⟩, HG, HIc, HZc, HB4⟩
      exact HM.out.trans (congrArg (fun a => some (Obj.cells a 2 (0, 0))) HST.out)
    case round =>
      clear HST HM HG HIc HB4 HBW HI3 HB3 HZ3 HZc
      obtain ⟨i, hi, rfl, HM, HG, HIc, HZc, HB4⟩ := hrel
      have k1 : wr.cell? ⟨g, 1, none⟩ = some (.slice (some ⟨bm, 0, none⟩) 20000 20000) := (blk_cell HG.out 1).trans rfl
      have e1 : wr.cell? ⟨w.heap.size, 1, none⟩ = some (.slice A1 data.length c1) := (blk_cell HIc.out 1).trans rfl
      by_cases hlt : i < data.length
      · have d0 : decide (i < data.length) = true := decide_eq_true hlt
        have d1 : decide ((i : Int) < (data.length : Int)) = true := decide_eq_true (by omega)
        have hDC := Kd.C_below HD.out HB4.out
        obtain ⟨ad, c, eA, hcl, hK, hcell⟩ := Kd.C_get hDC 0 (i : Int) (by omega) (by omega)
        subst eA
        have ec : c = [.int .i64 (rd data (i : Int))] := hK
        have hcx : wr.cell? (ad.add i) = some (.int .i64 (rd data (i : Int))) := by
          have := hcell 0 (.int .i64 (rd data (i : Int))) (by rw [ec]; rfl)
          simpa [Kd.int, Kd.scalar] using this
        clear hDC hcl hK hcell ec
        have hML : data.length ≤ MC.toList.length := by rw [HL.out]; exact hl1
        have kM : ∃ v, wr.cell? ⟨bm, i, none⟩ = some v := by
          refine Option.isSome_iff_exists.1 ?_
          rw [blk_cell HM.out i, List.getElem?_toArray, List.getElem?_eq_getElem (by rw [List.length_append, List.length_map, List.length_take, List.length_drop]; omega)]
          rfl
        obtain ⟨vM, kM⟩ := kM
        have fM := blk_frozen HM.out i
        have q0 : (0 : Int) ≤ (i : Int) := by omega
        have q1 : (i : Int) < 20000 := by omega
        have q2 : (i : Int) < (data.length : Int) := by omega
        have HLT := Aside0.mk hlt
        have HHI := Aside0.mk hi
        have HML := Aside0.mk hML
        clear hlt hi hML
        go_wp2
        go_region
        go_wp2
        go_roundw
        case rel => exact ⟨i + 1, HLT.out, by go_num, ⟨blk_drew (blk_put HM.out i _ (copy_step data MC.toList i HLT.out HML.out))⟩, ⟨blk_drew (blk_far HG.out HNE.out _)⟩, ⟨blk_drew (blk_far HIc.out hbw.out _)⟩, ⟨blk_drew (blk_far HZc.out hbz.out _)⟩, ⟨below_drew1 (below_set HB4.out (Nat.le_trans hw3 HBE.out))⟩⟩
        case measure => have := HLT.out; simp [intOf]; omega
      · obtain rfl : i = data.length := by omega
        have d0 : decide (data.length < data.length) = false := decide_eq_false (by omega)
        have d1 : decide ((data.length : Int) < (data.length : Int)) = false := decide_eq_false (by omega)
        have e2 : wr.cell? ⟨w.heap.size, 2, none⟩ = some (.int .i64 entry) := (blk_cell HIc.out 2).trans rfl
        have k12 : wr.cell? ⟨g, 12, none⟩ = some (.int .i64 0) := (blk_cell HG.out 12).trans rfl
        have f12 := blk_frozen HG.out 12
        have HG9 := Aside0.mk (show (wr.setCell ⟨g, 12, none⟩ (.int .i64 entry)).heap[g]? = some (.cells (mcells (mac0 code data entry) (.slice A0 code.length c0) (.slice (some ⟨bm, 0, none⟩) 20000 20000) (.slice none 0 0) (.slice none 0 0)) 46 (0, 0)) from blk_put HG.out 12 _ rfl)
        have HZ9 := Aside0.mk (blk_far (p := ⟨g, 12, none⟩) HZc.out hgz.out (.int .i64 entry))
        have HM9 := Aside0.mk (blk_far (p := ⟨g, 12, none⟩) HM.out (fun e => HNE.out e.symm) (.int .i64 entry))
        clear hlt hi
        go_wp2_with (first
          | (refine wpList_load_row rfl 46 _ rfl g rfl 46 (mcells (mac0 code data entry) (.slice A0 code.length c0) (.slice (some ⟨bm, 0, none⟩) 20000 20000) (.slice none 0 0) (.slice none 0 0)) (0, 0) _ HG9.out Tryd.underlying46 rfl (info46.trans rfl) ?_)
          | (refine wpList_store_row rfl 46 _ _ rfl (w.heap.size + 1) (mcells (mac0 code data entry) (.slice A0 code.length c0) (.slice (some ⟨bm, 0, none⟩) 20000 20000) (.slice none 0 0) (.slice none 0 0)) rfl rfl 46 zero19 HZ9.out (info46.trans rfl) rfl (by kernel_rfl) ?_))
        refine bodyPost_ret (results_ct (fn := Tryd.f16) rfl _ _ (w.heap.size + 1) 46 (mcells (mac0 code data entry) (.slice A0 code.length c0) (.slice (some ⟨bm, 0, none⟩) 20000 20000) (.slice none 0 0) (.slice none 0 0)) (0, 0) _ rfl (setRow_heap _ (w.heap.size + 1) zero19 _ 46 (0, 0) HZ9.out) Tryd.underlying46 rfl (by kernel_rfl)) rfl ?_
        refine ⟨bm, rfl, Nat.le_trans hw3 HBE.out, ?_, below_row (below_set HB4.out (Nat.le_trans hw3 HGE.out)) (Nat.le_succ _)⟩
        refine (setRow_other _ _ _ _ (fun e => hbz.out e.symm)).trans (HM9.out.trans ?_)
        have hcd := copy_done code data entry hl1
        rw [HMC.out, hcd]
end Go.Proofs.YtekhnkpjeofdpaaDoor.A
