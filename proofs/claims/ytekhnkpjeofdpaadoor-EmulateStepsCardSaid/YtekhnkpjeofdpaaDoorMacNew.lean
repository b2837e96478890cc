/- emulate's machine: none, New: contracts (where the two tables lie). -/
import Derived.Test.YtekhnkpjeofdpaaDoorMacStep2
import Derived.Test.YtekhnkpjeofdpaaDoorTgtCheck
import Derived.Laws.CopyOwn
import Derived.Deep.OwnRows
set_option linter.unusedVariables false
set_option maxRecDepth 100000
namespace Go.Proofs.YtekhnkpjeofdpaaDoor.A
open Go.RowKit Go.Proofs.YtekhnkpjeofdpaaDoorW.PrintWords Go.Proofs.YtekhnkpjeofdpaaDoorW.PrintLast Go.Proofs.YtekhnkpjeofdpaaDoorW.PrintMore
set_option maxHeartbeats 4000000
theorem none_calls {P : Rg} {w : World} {g : Nat} {m : Mac} (h : IsM 57 P w g m) : Calls Tryd.prog 26 #[.pointer (some ⟨g, 0, none⟩)] w fun e w' => e = .returned (.bool false) ∧ w' = w := by
  obtain ⟨Ac, cc, bm, vK, vO, h⟩ := h
  have c1 := h.c1
  clear h
  have heqn_ : ∀ W : World, (binOp .eql 23 (.slice (some ⟨bm, 0, none⟩) 20000 20000) (.slice none 0 0)).run Tryd.prog W = .ok (.bool false) W := fun W => Lib.run_eql_slice_nil W 23 2 (some ⟨bm, 0, none⟩) _ _ _ _ Tryd.underlying23
  go_enter Tryd.func26, Tryd.ntmps26
  go_wp2
  go_ret
  exact ⟨rfl, rfl⟩
def mac0 (code data : List Int) (entry : Int) : Mac := { code := code, mem := data ++ List.replicate (20000 - data.length) 0, regs := List.replicate 10 0, at_ := entry, depth := 0, steps := 0, kept := [], out := [], end_ := 0, why := 0 }
theorem info2' : (Tryd.prog.info? 2).map (·.size) = some 1 := by kernel_rfl
theorem blk_new2 (w : World) (a b : Obj) : ((w.alloc a).alloc b).heap[w.heap.size + 1]? = some b := by
  have := blk_new (w.alloc a) b
  rw [World.size_alloc] at this
  exact this
/-- a machine whose code lies from block B on -/
def IsMB (B T : Nat) (P : Rg) (w : World) (g : Nat) (m : Mac) : Prop := ∃ Ac cc bm vK vO, IsMx T P w g m Ac cc bm vK vO ∧ ∀ ad, Ac = some ad → B ≤ ad.block
theorem IsMB.low {B B' T : Nat} {P : Rg} {w : World} {g : Nat} {m : Mac} (h : IsMB B T P w g m) (hb : B' ≤ B) : IsMB B' T P w g m := by
  obtain ⟨a, b, c, d, e, h1, h2⟩ := h
  exact ⟨a, b, c, d, e, h1, fun ad q => Nat.le_trans hb (h2 ad q)⟩
theorem IsMB.isM {B T : Nat} {P : Rg} {w : World} {g : Nat} {m : Mac} (h : IsMB B T P w g m) : IsM T P w g m := by
  obtain ⟨a, b, c, d, e, h1, h2⟩ := h
  exact ⟨a, b, c, d, e, h1⟩
theorem new_final {w9 : World} {g bm B : Nat} {v0 : Value} {code data : List Int} {entry : Int} {MC : Array Value} (hMC : MC.toList = List.replicate 20000 (.int .i64 0)) (hl1 : data.length ≤ 20000)
    (hg : w9.heap[g]? = some (.cells (mcells (mac0 code [] 0) v0 (.slice (some ⟨bm, 0, none⟩) 20000 20000) (.slice none 0 0) (.slice none 0 0)) 57 (0, 0)))
    (hb : w9.heap[bm]? = some (.cells (data.map (Value.int .i64) ++ MC.toList.drop (data.map (Value.int .i64)).length).toArray 2 (0, 0)))
    (hR : Kd.R (Kd.int .u64) 55 w9 B (fun k => k ≠ bm) v0 code) (hne : g ≠ bm) (hge : B ≤ g) (hbe : B ≤ bm) :
    IsMB B 57 ⟨fun k => B ≤ k ∧ v0.ownBlock ≠ some k, fun k => k < B⟩ (w9.setCell ⟨g, 12, none⟩ (.int .i64 entry)) g (mac0 code data entry) := by
  obtain ⟨Av, cv, ev⟩ := Kd.R_slice hR
  subst ev
  have hrd := Kd.R_reads' hR
  have hmem : (mac0 code data 0).mem.length = 20000 := by
    show (data ++ List.replicate (20000 - data.length) 0).length = 20000
    rw [List.length_append, List.length_replicate]; omega
  have h0 : IsMx 57 ⟨fun k => B ≤ k ∧ (Value.slice Av code.length cv).ownBlock ≠ some k, fun k => k < B⟩ w9 g (mac0 code data 0) Av cv bm (.slice none 0 0) (.slice none 0 0) :=
    { blk := hg
      pg := ⟨hge, fun e => by
        obtain ⟨_, inner, ho, _⟩ := hR
        obtain ⟨cells, hc⟩ := own_typed ho g e
        rw [hg] at hc
        injection hc with h3
        injection h3 with _ h4
        exact absurd h4 (by decide)⟩
      pb := ⟨hbe, fun e => hR.1 bm e rfl⟩
      ne := hne
      regs := rfl
      mem := hmem
      mblk := by
        rw [hb]
        have : data.map (Value.int .i64) ++ MC.toList.drop (data.map (Value.int .i64)).length = (mac0 code data 0).mem.map (Value.int .i64) := by
          show _ = (data ++ List.replicate (20000 - data.length) 0).map (Value.int .i64)
          rw [hMC, List.length_map, List.drop_replicate, List.map_append, List.map_replicate]
        rw [this]
      kept := Kd.R_nil _ _ _ _ _
      out := Kd.R_nil _ _ _ _ _
      code := hrd.2.2
      ccap := hrd.2.1
      csep := fun hp ad e hP => hP.2 (by rw [e]; rfl)
      cfar := fun hp ad e hP => absurd (Kd.R_base hR ad.block (by rw [e]; rfl)) (Nat.not_le.2 hP) }
  exact ⟨_, _, _, _, _, h0.set12 entry, fun ad e => Kd.R_base hR ad.block (by rw [e]; rfl)⟩
theorem step_copy_chg {P : Program} {ops : Array Oper} {o : Oper} {a : Act} {w : World} {K : Act → World → Prop} {Q : Exit → Act → World → Prop} {E : Prop} (hgd : o.guard = none) (d s : Operand) (dT sT : TypeId)
    (ho : o.op = .call { callee := .builtin .copy, args := #[d, s], argTypes := #[dT, sT] }) (elem : TypeId) (hu : P.underlying dT = some (.slice elem)) (hsz : (P.info? elem).map (·.size) = some 1)
    (dp sp : Option Addr) (dLen dCap sLen sCap : Nat) (hd : a.eval d = .slice dp dLen dCap) (hs : a.eval s = .slice sp sLen sCap)
    (g : Nat) (cur : List Value) (t : TypeId) (hg : w.heap[g]? = some (.cells cur.toArray t (0, 0))) (cs : List Value) (hn : cs.length = Nat.min sLen dLen)
    (hpos : 0 < cs.length → dp = some ⟨g, 0, none⟩ ∧ ∃ ad, sp = some ad ∧ ∀ j v, cs[j]? = some v → w.cell? (ad.add j) = some v)
    (hfit : cs.length ≤ cur.length) (h1 : ∀ v ∈ cs, v.oneCell' = true)
    (h : ∀ w', w'.heap[g]? = some (.cells (cs ++ cur.drop cs.length).toArray t (0, 0)) → Chg (fun k => k = g) w w' → K (a.put o.dst (goInt cs.length)) w') :
    if Region.wanted o (yielded ops a.tmps) = true then Oper.wp P o a w K Q else E := by
  have hw : Region.wanted o (yielded ops a.tmps) = true := by simp [Region.wanted, hgd]
  rw [if_pos hw]
  by_cases h0 : cs.length = 0
  · obtain rfl : cs = [] := List.eq_nil_of_length_eq_zero h0
    have hrun := run_copy_none (P := P) w dT sT o.type elem dp sp dLen dCap sLen sCap hu hsz (by simpa using hn.symm)
    unfold Oper.wp
    simp [execOp, ho, resolve, invoke, builtin, hd, hs, hrun, Result.andThen]
    exact h w (by simpa using hg) (Chg.refl _ _)
  · obtain ⟨rfl, ad, rfl, hsrc⟩ := hpos (by omega)
    have hrun := run_copy_row (P := P) w dT sT o.type elem g 0 dLen dCap ad sLen sCap cur.toArray t cs hu hsz hg hn hsrc (by simpa using hfit) h1
    unfold Oper.wp
    simp [execOp, ho, resolve, invoke, builtin, hd, hs, hrun, Result.andThen]
    exact h _ (by simpa using setRow_heap w g _ _ t _ hg) ⟨rfl, rfl, rfl, by simp, fun k _ hk => setRow_other w g k _ hk⟩
theorem R_u64_chg {w w1 w' : World} {base : Nat} {v : Value} {xs : List Int} {bm : Nat} {cells : Array Value} (h : Kd.R (Kd.int .u64) 55 w base (fun _ => True) v xs) (hc : Chg (fun k => k = bm) w1 w') (hm : w.heap[bm]? = some (.cells cells 2 (0, 0))) (he : ∀ k : Nat, w1.heap[k]? = w.heap[k]?) : Kd.R (Kd.int .u64) 55 w' base (fun k => k ≠ bm) v xs := by
  have h2 := Kd.R_types h hm (by simp [Kd.int, Kd.scalar])
  refine Kd.R_mono (Kd.R_step h2 (fun k hk hl => ?_)) (fun k hk => hk.2)
  have hl1 : k < w1.heap.size := by
    have := he k
    have h3 : w.heap[k]? = some w.heap[k] := Array.getElem?_eq_getElem hl
    rw [h3] at this
    exact (Array.getElem?_eq_some_iff.1 this).1
  exact (hc.block k hl1 hk.2).trans (he k)
theorem copy_src {w : World} {A : Option Addr} {data : List Int} (h : Kd.C (Kd.int .i64) w A data.length data) (hp : 0 < (data.map (Value.int .i64)).length) : ∃ ad, A = some ad ∧ ∀ j v, (data.map (Value.int .i64))[j]? = some v → w.cell? (ad.add j) = some v := by
  obtain ⟨ad, e, hc⟩ := h.2.2 (by simpa using hp)
  refine ⟨ad, e, fun j v hj => ?_⟩
  rw [List.getElem?_map] at hj
  obtain ⟨x, hx, rfl⟩ := Option.map_eq_some_iff.1 hj
  obtain ⟨c, hs, hr, hcell⟩ := hc j x hx
  have hr2 : c = [Value.int .i64 x] := hr
  have := hcell 0 (.int .i64 x) (by rw [hr2]; rfl)
  simpa [Kd.int, Kd.scalar] using this
theorem new_ok' (k : Nat) (A0 : Option Addr) (c0 : Nat) (code : List Int) (A1 : Option Addr) (c1 : Nat) (data : List Int) (entry : Int) (w : World) (hT : Tab w) (hC : Kd.C (Kd.int .u64) w A0 code.length code) (hc0 : code.length ≤ c0) (hD : Kd.C (Kd.int .i64) w A1 data.length data) (hc1 : data.length ≤ c1) (hl : code.length ≤ 20000) (hl1 : data.length ≤ 20000) (h : target_Check.f k code data entry = some 0) :
    Calls Tryd.prog 12 #[.agg #[.slice A0 code.length c0, .slice A1 data.length c1, .int .i64 entry]] w fun e w' => ∃ g P, e = .returned (.tuple #[.pointer (some ⟨g, 0, none⟩), .int .i64 0]) ∧ IsMB w.heap.size 57 P w' g (mac0 code data entry) ∧ (∀ k, P k → w.heap.size ≤ k) ∧ (∀ k, w'.heap.size ≤ k → P k) ∧ Below w.heap.size w w' := by
  have HT := Aside0.mk hT
  have HC := Aside0.mk hC
  have HD := Aside0.mk hD
  have HH := Aside0.mk h
  have HB := Aside0.mk (Below.refl w.heap.size w)
  have hcl := Aside0.mk (show slices_Clone_uint64_uint64.f code = some code by simp only [slices_Clone_uint64_uint64.f, Option.bind_some, List.nil_append, List.length_nil]; rw [if_pos (by omega)])
  have hmk : ∀ W : World, (Instr.makeSlice 23 (.int .i64 20000) (.int .i64 20000)).run Tryd.prog W = .ok (.slice (some ⟨W.heap.size, 0, none⟩) 20000 20000) (W.alloc (.cells (madeCells #[.int .i64 0] 20000) 2)) := run_make_row' (P := Tryd.prog) 23 2 (.int .i64 0) 8 Tryd.underlying23 info2 rfl .i64 .i64 20000 (by omega) (by omega)
  have hMC := toList_madeCells_one (.int .i64 0) 20000
  generalize madeCells #[.int .i64 0] 20000 = MC at hmk hMC
  have HMC := Aside0.mk hMC
  clear hT hC h hD hMC
  go_enter Tryd.func12, Tryd.ntmps12
  go_upto_region 4 with (go_at_call 24; refine (target_Check.calls k A0 c0 code A1 c1 data entry 0 _ (Tab.below HT.out (below_alloc (Below.refl _ _) _)) (Kd.C_below HC.out (below_alloc (Below.refl _ _) _)) hc0 (by omega) HH.out).mono ?_; rintro e w2 ⟨rfl, hb⟩; have HB2 := Aside0.mk (below_step (below_alloc HB.out _) hb); have hg := blk_below (blk_new w (.cells #[.slice A0 code.length c0, .slice A1 data.length c1, .int .i64 entry] 25)) hb; have HG := Aside0.mk hg; have e0 := (blk_cell hg 0).trans rfl; have e0a := fun o => (blk_cell (blk_alloc hg o) 0).trans rfl; clear hg hb)
  go_cut [5] (fun v5 wc => ∃ (g bm : Nat) (v0 : Value), v5 = .pointer (some ⟨g, 0, none⟩) ∧ Aside0 (wc.heap[g]? = some (.cells (mcells (mac0 code [] 0) v0 (.slice (some ⟨bm, 0, none⟩) 20000 20000) (.slice none 0 0) (.slice none 0 0)) 57 (0, 0))) ∧ Aside0 (wc.heap[bm]? = some (.cells MC 2 (0, 0))) ∧ Aside0 (Kd.R (Kd.int .u64) 55 wc w2.heap.size (fun _ => True) v0 code) ∧ Aside0 (w2.heap.size ≤ g) ∧ Aside0 (w2.heap.size ≤ bm) ∧ Aside0 (Below w2.heap.size w2 wc))
  case first =>
    go_region_with (go_at_call 25; refine (slices_Clone_uint64_uint64.calls A0 c0 code code _ (Kd.C_below HC.out (by repeat (first | (with_reducible exact HB2.out) | (with_reducible apply below_alloc) | (with_reducible apply pw_below_drewN) | (with_reducible apply below_drew1)))) hc0 hcl.out).mono ?_; rintro e w3 ⟨v0, rfl, hr, hb⟩; obtain ⟨Av, cv, ev⟩ := Kd.R_slice hr; subst ev; have HB3 := Aside0.mk (below_step (by repeat (first | (with_reducible exact Below.refl _ _) | (with_reducible apply below_alloc) | (with_reducible apply pw_below_drewN) | (with_reducible apply below_drew1))) hb : Below w2.heap.size w2 w3); have HR := Aside0.mk (Kd.R_lower (base' := w2.heap.size) hr (Below.size (B := w2.heap.size) (w := w2) (by repeat (first | (with_reducible exact Below.refl _ _) | (with_reducible apply below_alloc) | (with_reducible apply pw_below_drewN) | (with_reducible apply below_drew1))))); try (have HMz := Aside0.mk (blk_below (w := (w2.alloc (.cells MC 2)).drew) (g := w2.heap.size) (blk_drew (blk_new w2 (.cells MC 2))) hb)); clear hr hb)
    all_goals go_wp2
    all_goals (simp only [Act.put, List.setIfInBounds_toArray, List.set_cons_zero, List.set_cons_succ, List.getElem_toArray, List.getElem_cons_succ, List.getElem_cons_zero])
    all_goals go_meet
    all_goals first
      | exact ⟨w3.heap.size + 1, w3.heap.size, _, rfl, ⟨blk_new2 w3 _ _⟩, ⟨blk_alloc (blk_new w3 _) _⟩, ⟨Kd.R_alloc (Kd.R_alloc HR.out _) _⟩, ⟨Nat.le_trans HB3.out.size (Nat.le_succ _)⟩, ⟨HB3.out.size⟩, ⟨below_alloc (below_alloc HB3.out _) _⟩⟩
      | exact ⟨w3.heap.size, w2.heap.size, _, rfl, ⟨blk_new w3 _⟩, ⟨blk_alloc HMz.out _⟩, ⟨Kd.R_alloc HR.out _⟩, ⟨HB3.out.size⟩, ⟨Nat.le_refl _⟩, ⟨below_alloc HB3.out _⟩⟩
  case rest =>
    obtain ⟨g, bm, v0, rfl, HG1, HM1, HR1, HGE, HBE, HBW⟩ := hcut
    have hne : g ≠ bm := by
      intro e
      have h1 := HG1.out
      have h2 := HM1.out
      rw [e, h2] at h1
      injection h1 with h3
      injection h3 with _ h4
      exact absurd h4 (by decide)
    have HNE := Aside0.mk hne
    have hgi := blk_below HG.out HBW.out
    have HGI := Aside0.mk hgi
    have e1 : wc.cell? ⟨w.heap.size, 1, none⟩ = some (.slice A1 data.length c1) := (blk_cell hgi 1).trans rfl
    have e2 : wc.cell? ⟨w.heap.size, 2, none⟩ = some (.int .i64 entry) := (blk_cell hgi 2).trans rfl
    have k1 : wc.cell? ⟨g, 1, none⟩ = some (.slice (some ⟨bm, 0, none⟩) 20000 20000) := (blk_cell HG1.out 1).trans rfl
    have HDW := Aside0.mk (Kd.C_below HD.out (HB2.out.trans (HBW.out.mono HB2.out.size)))
    have hw2 := HB2.out.size
    clear hgi hne e0 e0a
    go_wp2
    go_region_law (refine step_copy_chg rfl (.tmp 20) (.tmp 22) 23 23 rfl 2 Tryd.underlying23 info2' (some ⟨bm, 0, none⟩) A1 20000 20000 data.length c1 rfl rfl bm MC.toList 2 (by (with_reducible repeat (first | refine blk_drewN ?_ _ | refine blk_drew ?_ | refine blk_alloc ?_ _)); rw [Array.toArray_toList]; exact HM1.out) (data.map (Value.int .i64)) (by rw [List.length_map]; exact (Nat.min_eq_left hl1).symm) (fun hp => ⟨rfl, copy_src HDW.out hp⟩) (by rw [HMC.out, List.length_replicate, List.length_map]; omega) (fun v hv => by obtain ⟨x, _, rfl⟩ := List.mem_map.1 hv; rfl) ?_; intro w9 hs9 hc9; have HS9 := Aside0.mk hs9; have HC9 := Aside0.mk hc9; have HG9 := Aside0.mk (Chg.blk hc9 HG1.out HNE.out); have HI9 := Aside0.mk (Chg.blk hc9 HGI.out (Nat.ne_of_lt (Nat.lt_of_lt_of_le (blk_lt HG.out) HBE.out))); have j2 : w9.cell? ⟨w.heap.size, 2, none⟩ = some (.int .i64 entry) := (blk_cell HI9.out 2).trans rfl; have j12 : w9.cell? ⟨g, 12, none⟩ = some (.int .i64 0) := (blk_cell HG9.out 12).trans rfl; have f12 := blk_frozen HG9.out 12; have HR9 := Aside0.mk (R_u64_chg HR1.out hc9 HM1.out (fun _ => rfl)); clear hs9 hc9)
    all_goals go_wp2
    all_goals go_ret2
    all_goals exact ⟨g, _, rfl, (new_final HMC.out hl1 HG9.out HS9.out HR9.out HNE.out HGE.out HBE.out).low HB2.out.size, fun k hk => Nat.le_trans HB2.out.size hk.1, fun k hk => ⟨Nat.le_trans (Nat.le_trans HBW.out.size HC9.out.size) (by simpa using hk), fun e => absurd (Kd.R_lt HR9.out k e) (Nat.not_lt.2 (by simpa using hk))⟩, below_set ((below_drew1 (HB2.out.trans (HBW.out.mono HB2.out.size))).trans (Chg.below HC9.out (Nat.le_trans HB2.out.size HBW.out.size) (fun k hk e => by have := HBE.out; have := HB2.out.size; omega))) (Nat.le_trans HB2.out.size HGE.out)⟩
theorem new_ok (k : Nat) (A0 : Option Addr) (c0 : Nat) (code : List Int) (A1 : Option Addr) (c1 : Nat) (data : List Int) (entry : Int) (w : World) (hT : Tab w) (hC : Kd.C (Kd.int .u64) w A0 code.length code) (hc0 : code.length ≤ c0) (hD : Kd.C (Kd.int .i64) w A1 data.length data) (hc1 : data.length ≤ c1) (hl : code.length ≤ 20000) (hl1 : data.length ≤ 20000) (h : target_Check.f k code data entry = some 0) :
    Calls Tryd.prog 12 #[.agg #[.slice A0 code.length c0, .slice A1 data.length c1, .int .i64 entry]] w fun e w' => ∃ g P, e = .returned (.tuple #[.pointer (some ⟨g, 0, none⟩), .int .i64 0]) ∧ IsM 57 P w' g (mac0 code data entry) ∧ (∀ k, P k → w.heap.size ≤ k) ∧ (∀ k, w'.heap.size ≤ k → P k) ∧ Below w.heap.size w w' :=
  (new_ok' k A0 c0 code A1 c1 data entry w hT hC hc0 hD hc1 hl hl1 h).mono fun _ _ ⟨g, P, h1, h2, h3, h4, h5⟩ => ⟨g, P, h1, h2.isM, h3, h4, h5⟩
end Go.Proofs.YtekhnkpjeofdpaaDoor.A
