/- The reference's machine (cupelref23): New of an image that is refused: contract. -/
import Derived.Test.YtekhnkpjeofdpaaDoorRMac
import Derived.Test.YtekhnkpjeofdpaaDoorGoes
set_option linter.unusedVariables false
set_option maxRecDepth 100000
namespace Go.Proofs.YtekhnkpjeofdpaaDoor.A
open Go.RowKit Go.Proofs.YtekhnkpjeofdpaaDoorW.PrintWords Go.Proofs.YtekhnkpjeofdpaaDoorW.PrintLast Go.Proofs.YtekhnkpjeofdpaaDoorW.PrintMore
set_option maxHeartbeats 4000000
/-- the nineteen cells of a machine that is none -/
def zero19 : Array Value := #[.slice none 0 0, .slice none 0 0, .int .i64 0, .int .i64 0, .int .i64 0, .int .i64 0, .int .i64 0, .int .i64 0, .int .i64 0, .int .i64 0, .int .i64 0, .int .i64 0, .int .i64 0, .int .i64 0, .int .i64 0, .slice none 0 0, .slice none 0 0, .int .i64 0, .int .i64 0]
theorem info46 : (Tryd.prog.info? 46).map (·.size) = some zero19.size := by kernel_rfl
theorem below_row {B g : Nat} {w W : World} {cells : Array Value} (h : Below B w W) (hg : B ≤ g) : Below B w (W.setRow g cells) :=
  ⟨h.os, h.tape, h.output, by simpa using h.size, fun k hk => (setRow_other W g k cells (by omega)).trans (h.block k hk)⟩
theorem rnew_bad (k : Nat) (A0 : Option Addr) (c0 : Nat) (code : List Int) (A1 : Option Addr) (c1 : Nat) (data : List Int) (entry : Int) (r : Int) (w : World) (hC : Kd.C (Kd.int .u64) w A0 code.length code) (hc0 : code.length ≤ c0) (hD : Kd.C (Kd.int .i64) w A1 data.length data) (hc1 : data.length ≤ c1) (h : cupelref20_Check.f k code data entry = some r) (hr : r ≠ 0) :
    Calls Tryd.prog 16 #[.agg #[.slice A0 code.length c0, .slice A1 data.length c1, .int .i64 entry]] w fun e w' => e = .returned (.tuple #[.agg zero19, .int .i64 r]) ∧ Below w.heap.size w w' := by
  have HC := Aside0.mk hC
  have HD := Aside0.mk hD
  have HH := Aside0.mk h
  have hr0 : (r != 0) = true := bne_iff_ne.mpr hr
  obtain ⟨W2, eW2⟩ : ∃ W, (w.alloc (.cells #[.slice A0 code.length c0, .slice A1 data.length c1, .int .i64 entry] 25)).alloc (.cells zero19 46) = W := ⟨_, rfl⟩
  have HB2 := Aside0.mk (show Below w.heap.size w W2 from eW2 ▸ below_alloc (below_alloc (Below.refl _ _) _) _)
  have HZ := Aside0.mk (show W2.heap[w.heap.size + 1]? = some (.cells zero19 46 (0, 0)) from eW2 ▸ blk_new2 w _ _)
  have hi : W2.heap[w.heap.size]? = some (.cells #[.slice A0 code.length c0, .slice A1 data.length c1, .int .i64 entry] 25 (0, 0)) := eW2 ▸ blk_alloc (blk_new w _) _
  have i0 : W2.cell? ⟨w.heap.size, 0, none⟩ = some (.slice A0 code.length c0) := (blk_cell hi 0).trans rfl
  have i1 : W2.cell? ⟨w.heap.size, 1, none⟩ = some (.slice A1 data.length c1) := (blk_cell hi 1).trans rfl
  have i2 : W2.cell? ⟨w.heap.size, 2, none⟩ = some (.int .i64 entry) := (blk_cell hi 2).trans rfl
  unfold zero19 at eW2
  clear hC hD h hr hi
  go_enter Tryd.func16, Tryd.ntmps16
  go_wp2_with (first
    | (go_at_call 28; refine (cupelref20_Check.calls k A0 c0 code A1 c1 data entry r _ (Kd.C_below HC.out HB2.out) hc0 (Kd.C_below HD.out HB2.out) hc1 HH.out).mono ?_; rintro e w3 ⟨rfl, hb⟩; have HB3 := Aside0.mk (below_step HB2.out hb); have HZ3 := Aside0.mk (blk_below HZ.out hb); clear hb)
    | (refine wpList_store_row rfl 46 _ _ rfl (w.heap.size + 1) zero19 rfl rfl 46 zero19 HZ3.out info46 rfl (by kernel_rfl) ?_))
  refine bodyPost_ret (results_ct (fn := Tryd.f16) rfl _ _ (w.heap.size + 1) 46 zero19 (0, 0) _ rfl (by simpa using setRow_heap w3 (w.heap.size + 1) zero19 zero19 46 (0, 0) HZ3.out) Tryd.underlying46 rfl (by kernel_rfl)) rfl ?_
  exact ⟨rfl, below_row HB3.out (Nat.le_succ _)⟩
theorem copy_step (data : List Int) (M : List Value) (i : Nat) (hi : i < data.length) (hM : data.length ≤ M.length) : ((data.take i).map (Value.int .i64) ++ M.drop i).toArray.setIfInBounds i (.int .i64 (rd data (i : Int))) = ((data.take (i + 1)).map (Value.int .i64) ++ M.drop (i + 1)).toArray := by
  have h1 : rd data (i : Int) = data[i] := by unfold rd; rw [Int.toNat_natCast, List.getD_eq_getElem?_getD, List.getElem?_eq_getElem hi]; rfl
  have h2 : M.drop i = M[i]'(by omega) :: M.drop (i + 1) := List.drop_eq_getElem_cons (by omega)
  have h3 : data.take (i + 1) = data.take i ++ [data[i]] := List.take_succ_eq_append_getElem hi
  have h4 : ((data.take i).map (Value.int .i64)).length = i := by simp; omega
  rw [h1, h2, h3, List.setIfInBounds_toArray, List.set_append_right _ _ (by omega), h4, Nat.sub_self, List.set_cons_zero]
  simp only [List.map_append, List.map_cons, List.map_nil, List.append_assoc, List.cons_append, List.nil_append]
theorem copy_done (code data : List Int) (entry : Int) (hl : data.length ≤ 20000) : (data.take data.length).map (Value.int .i64) ++ (List.replicate 20000 (Value.int .i64 0)).drop data.length = (mac0 code data entry).mem.map (Value.int .i64) := by
  show _ = (data ++ List.replicate (20000 - data.length) 0).map (Value.int .i64)
  rw [List.take_length, List.drop_replicate, List.map_append, List.map_replicate]
end Go.Proofs.YtekhnkpjeofdpaaDoor.A
