/- The reference's machine (cupelref23): Run: contracts (an image that is refused, steps out of range, a run). -/
import Derived.Test.YtekhnkpjeofdpaaDoorRStep
import Derived.Test.YtekhnkpjeofdpaaDoorRNew2
import Derived.Test.YtekhnkpjeofdpaaDoorRBeh
set_option linter.unusedVariables false
set_option maxRecDepth 100000
namespace Go.Proofs.YtekhnkpjeofdpaaDoor.A
open Go.RowKit Go.Proofs.YtekhnkpjeofdpaaDoorW.PrintWords Go.Proofs.YtekhnkpjeofdpaaDoorW.PrintLast Go.Proofs.YtekhnkpjeofdpaaDoorW.PrintMore
set_option maxHeartbeats 4000000
/-- what holds of the reference's machine at all times -/
structure RFine (m : Mac) : Prop where
  depth : m.depth = (m.kept.length : Int)
  why : m.end_ = 0 → m.why = 0
theorem exec_why {m : Mac} (h : m.why = 0) (op d a b : Nat) (imm : Int) : (execF m op d a b imm).end_ = 0 → (execF m op d a b imm).why = 0 := by
  unfold execF Mac.trap
  split
  all_goals (repeat' (first | split | exact fun _ => h | exact fun e => absurd e (by simp)))
theorem step_rfine (k : Nat) {m m' : Mac} (h : RFine m) (he : m.end_ = 0) (hs : stepF k m = some m') : RFine m' := by
  obtain ⟨t, ht, hs⟩ := Option.bind_eq_some_iff.1 hs
  by_cases c : t.2.2.2.2.2.2 = 0
  · rw [if_pos c] at hs
    unfold step2 at hs
    split at hs
    · split at hs
      · obtain rfl := Option.some.inj hs
        exact ⟨rfl, exec_why (m := { m with steps := wrap64 (m.steps + 1), at_ := t.2.2.2.2.2.1 }) (h.why he) _ _ _ _ _⟩
      · obtain ⟨r, hr, hs⟩ := Option.bind_eq_some_iff.1 hs
        split at hs
        · obtain rfl := Option.some.inj hs
          exact ⟨h.depth, fun e => absurd e (by simp [Mac.trap])⟩
        · obtain rfl := Option.some.inj hs
          exact ⟨h.depth, h.why⟩
    · exact absurd hs (by simp)
  · rw [if_neg c] at hs
    obtain rfl := Option.some.inj hs
    exact ⟨h.depth, fun e => absurd e (by simp [Mac.trap])⟩
theorem R_setrow {e base t : Nat} {w : World} {v : Value} {xs : List Int} {g : Nat} {cells : Array Value} (h : Kd.R (Kd.int .i64) e w base (fun _ => True) v xs) (hb : w.heap[g]? = some (.cells cells t (0, 0))) (ht : e ≠ t) (cs : Array Value) : Kd.R (Kd.int .i64) e (w.setRow g cs) base (fun _ => True) v xs :=
  Kd.R_mono (Kd.R_step (Kd.R_types h hb (fun q hq => by
    have hq2 : q = e := by simpa [Kd.int, Kd.scalar] using hq
    rw [hq2]; exact ht)) (fun k hk _ => setRow_other w g k cs hk.2)) (fun _ _ => trivial)
def zero3 : Array Value := #[.slice none 0 0, .int .i64 0, .int .i64 0]
theorem info28s : (Tryd.prog.info? 28).map (·.size) = some zero3.size := by kernel_rfl
theorem rrun_bad (k : Nat) (A0 : Option Addr) (c0 : Nat) (code : List Int) (A1 : Option Addr) (c1 : Nat) (data : List Int) (entry n : Int) (r : Int) (w : World) (hC : Kd.C (Kd.int .u64) w A0 code.length code) (hc0 : code.length ≤ c0) (hD : Kd.C (Kd.int .i64) w A1 data.length data) (hc1 : data.length ≤ c1) (h : cupelref20_Check.f k code data entry = some r) (hr : r ≠ 0) :
    Calls Tryd.prog 10 #[.agg #[.slice A0 code.length c0, .slice A1 data.length c1, .int .i64 entry], .int .i64 n] w fun e w' => e = .returned (.tuple #[.agg #[.slice none 0 0, .int .i64 0, .int .i64 0], .int .i64 r]) ∧ Below w.heap.size w w' := by
  have HC := Aside0.mk hC
  have HD := Aside0.mk hD
  have HH := Aside0.mk h
  have HR := Aside0.mk hr
  have hr0 : (r != 0) = true := bne_iff_ne.mpr hr
  have hr1 : (r == 0) = false := beq_eq_false_iff_ne.mpr hr
  obtain ⟨W2, eW2⟩ : ∃ W, (w.alloc (.cells #[.slice A0 code.length c0, .slice A1 data.length c1, .int .i64 entry] 25)).alloc (.cells #[.slice none 0 0, .int .i64 0, .int .i64 0] 28) = W := ⟨_, rfl⟩
  have hb2 : Below w.heap.size w W2 := eW2 ▸ below_alloc (below_alloc (Below.refl _ _) _) _
  have hz : W2.heap[w.heap.size + 1]? = some (.cells #[.slice none 0 0, .int .i64 0, .int .i64 0] 28 (0, 0)) := eW2 ▸ blk_new2 w _ _
  have hi : W2.heap[w.heap.size]? = some (.cells #[.slice A0 code.length c0, .slice A1 data.length c1, .int .i64 entry] 25 (0, 0)) := eW2 ▸ blk_alloc (blk_new w _) _
  have i0 : W2.cell? ⟨w.heap.size, 0, none⟩ = some (.slice A0 code.length c0) := (blk_cell hi 0).trans rfl
  have i1 : W2.cell? ⟨w.heap.size, 1, none⟩ = some (.slice A1 data.length c1) := (blk_cell hi 1).trans rfl
  have i2 : W2.cell? ⟨w.heap.size, 2, none⟩ = some (.int .i64 entry) := (blk_cell hi 2).trans rfl
  clear hi
  have HB2 := Aside0.mk hb2
  have HZ := Aside0.mk hz
  clear hC hD h hr hb2 hz
  go_enter Tryd.func10, Tryd.ntmps10
  go_wp2_with (first
    | (go_at_call 16; refine (rnew_bad k A0 c0 code A1 c1 data entry r W2 (Kd.C_below HC.out HB2.out) hc0 (Kd.C_below HD.out HB2.out) hc1 HH.out HR.out).mono ?_; rintro e w3 ⟨rfl, hb3⟩; have HZ3 := Aside0.mk (blk_below HZ.out hb3); have HB3 := Aside0.mk (HB2.out.trans (hb3.mono HB2.out.size)); clear hb3)
    | (refine wpList_store_row rfl 46 _ _ rfl w3.heap.size zero19 rfl rfl 46 zero19 (blk_new w3 _) info46 rfl (by kernel_rfl) ?_; have HB4 := Aside0.mk (below_row (g := w3.heap.size) (cells := zero19) (below_alloc HB3.out (.cells zero19 46)) HB3.out.size); have HZ4 := Aside0.mk ((setRow_other (w3.alloc (.cells zero19 46)) w3.heap.size (w.heap.size + 1) zero19 (Nat.ne_of_lt (blk_lt HZ3.out))).trans (blk_alloc HZ3.out _)))
    | (refine wpList_store_row rfl 28 _ _ rfl (w.heap.size + 1) zero3 rfl rfl 28 zero3 HZ4.out info28s rfl (by kernel_rfl) ?_))
  refine bodyPost_ret (results_ct (fn := Tryd.f10) rfl _ _ (w.heap.size + 1) 28 zero3 (0, 0) _ rfl (setRow_heap _ (w.heap.size + 1) zero3 _ 28 (0, 0) HZ4.out) Tryd.underlying28 rfl (by kernel_rfl)) rfl ?_
  exact ⟨rfl, below_row HB4.out (Nat.le_succ _)⟩
theorem rrun_arg (k : Nat) (A0 : Option Addr) (c0 : Nat) (code : List Int) (A1 : Option Addr) (c1 : Nat) (data : List Int) (entry n : Int) (w : World) (hC : Kd.C (Kd.int .u64) w A0 code.length code) (hc0 : code.length ≤ c0) (hD : Kd.C (Kd.int .i64) w A1 data.length data) (hc1 : data.length ≤ c1) (hl1 : data.length ≤ 20000) (h : cupelref20_Check.f k code data entry = some 0) (hn : n < 0 ∨ 5000000 < n) :
    Calls Tryd.prog 10 #[.agg #[.slice A0 code.length c0, .slice A1 data.length c1, .int .i64 entry], .int .i64 n] w fun e w' => e = .returned (.tuple #[.agg #[.slice none 0 0, .int .i64 0, .int .i64 0], .int .i64 2]) ∧ Below w.heap.size w w' := by
  have hn2 : decide (n < 0) = true ∨ (decide (n < 0) = false ∧ decide (5000000 < n) = true) := by
    simp only [decide_eq_true_eq, decide_eq_false_iff_not]
    omega
  have HC := Aside0.mk hC
  have HD := Aside0.mk hD
  have HH := Aside0.mk h
  obtain ⟨W2, eW2⟩ : ∃ W, (w.alloc (.cells #[.slice A0 code.length c0, .slice A1 data.length c1, .int .i64 entry] 25)).alloc (.cells #[.slice none 0 0, .int .i64 0, .int .i64 0] 28) = W := ⟨_, rfl⟩
  have hb2 : Below w.heap.size w W2 := eW2 ▸ below_alloc (below_alloc (Below.refl _ _) _) _
  have hz : W2.heap[w.heap.size + 1]? = some (.cells #[.slice none 0 0, .int .i64 0, .int .i64 0] 28 (0, 0)) := eW2 ▸ blk_new2 w _ _
  have hi : W2.heap[w.heap.size]? = some (.cells #[.slice A0 code.length c0, .slice A1 data.length c1, .int .i64 entry] 25 (0, 0)) := eW2 ▸ blk_alloc (blk_new w _) _
  have i0 : W2.cell? ⟨w.heap.size, 0, none⟩ = some (.slice A0 code.length c0) := (blk_cell hi 0).trans rfl
  have i1 : W2.cell? ⟨w.heap.size, 1, none⟩ = some (.slice A1 data.length c1) := (blk_cell hi 1).trans rfl
  have i2 : W2.cell? ⟨w.heap.size, 2, none⟩ = some (.int .i64 entry) := (blk_cell hi 2).trans rfl
  clear hi
  have HB2 := Aside0.mk hb2
  have HZ := Aside0.mk hz
  clear hC hD h hb2 hz hn
  rcases hn2 with d0 | ⟨d0, d1⟩
  all_goals
    go_enter Tryd.func10, Tryd.ntmps10
    go_wp2_with (first
    | (go_at_call 16; refine (rnew_ok k A0 c0 code A1 c1 data entry W2 (Kd.C_below HC.out HB2.out) hc0 (Kd.C_below HD.out HB2.out) hc1 hl1 HH.out).mono ?_; rintro e w3 ⟨bm, rfl, hbm, hmb, hb3⟩; have HBM := Aside0.mk hbm; have HMB := Aside0.mk hmb; have HZ3 := Aside0.mk (blk_below HZ.out hb3); have HB3 := Aside0.mk (HB2.out.trans (hb3.mono HB2.out.size)); clear hb3 hbm hmb)
    | (refine wpList_store_row rfl 46 _ _ rfl w3.heap.size (mcells (mac0 code data entry) (.slice A0 code.length c0) (.slice (some ⟨bm, 0, none⟩) 20000 20000) (.slice none 0 0) (.slice none 0 0)) rfl rfl 46 zero19 (blk_new w3 _) (info46.trans rfl) rfl (by kernel_rfl) ?_; have HB4 := Aside0.mk (below_row (g := w3.heap.size) (cells := (mcells (mac0 code data entry) (.slice A0 code.length c0) (.slice (some ⟨bm, 0, none⟩) 20000 20000) (.slice none 0 0) (.slice none 0 0))) (below_alloc HB3.out (.cells zero19 46)) HB3.out.size); have HZ4 := Aside0.mk ((setRow_other (w3.alloc (.cells zero19 46)) w3.heap.size (w.heap.size + 1) (mcells (mac0 code data entry) (.slice A0 code.length c0) (.slice (some ⟨bm, 0, none⟩) 20000 20000) (.slice none 0 0) (.slice none 0 0)) (Nat.ne_of_lt (blk_lt HZ3.out))).trans (blk_alloc HZ3.out _)))
    | (refine wpList_store_row rfl 28 _ _ rfl (w.heap.size + 1) zero3 rfl rfl 28 zero3 HZ4.out info28s rfl (by kernel_rfl) ?_))
    refine bodyPost_ret (results_ct (fn := Tryd.f10) rfl _ _ (w.heap.size + 1) 28 zero3 (0, 0) _ rfl (setRow_heap _ (w.heap.size + 1) zero3 _ 28 (0, 0) HZ4.out) Tryd.underlying28 rfl (by kernel_rfl)) rfl ?_
    exact ⟨rfl, below_row HB4.out (Nat.le_succ _)⟩
theorem rrun_ok (k : Nat) (hk : 10 ≤ k) (A0 : Option Addr) (c0 : Nat) (code : List Int) (A1 : Option Addr) (c1 : Nat) (data : List Int) (entry : Int) (n : Nat) (m' : Mac) (w : World) (hC : Kd.C (Kd.int .u64) w A0 code.length code) (hc0 : code.length ≤ c0) (hD : Kd.C (Kd.int .i64) w A1 data.length data) (hc1 : data.length ≤ c1) (hl : code.length ≤ 20000) (hl1 : data.length ≤ 20000) (h : cupelref20_Check.f k code data entry = some 0) (hn : n ≤ 5000000) (hr : runF (k + 21) n (mac0 code data entry) = some m') :
    Calls Tryd.prog 10 #[.agg #[.slice A0 code.length c0, .slice A1 data.length c1, .int .i64 entry], .int .i64 (n : Int)] w fun e w' => ∃ v0, e = .returned (.tuple #[.agg #[v0, .int .i64 (endOf m'), .int .i64 m'.why], .int .i64 0]) ∧ Kd.R (Kd.int .i64) 2 w' w.heap.size (fun _ => True) v0 m'.out ∧ Below w.heap.size w w' := by
  have HRN := Aside0.mk hr
  have s1 : decide ((n : Int) < 0) = false := decide_eq_false (by omega)
  have s2 : decide (5000000 < (n : Int)) = false := decide_eq_false (by omega)
  have HN := Aside0.mk hn
  have HSEP := Aside0.mk (show 0 < code.length → ∀ ad, A0 = some ad → ¬ (w.heap.size + 1 < ad.block) from fun hp ad e => by subst e; have := Kd.C_lt hC hp (by simp [Kd.int, Kd.scalar]); omega)
  have HC := Aside0.mk hC
  have HD := Aside0.mk hD
  have HH := Aside0.mk h
  obtain ⟨W2, eW2⟩ : ∃ W, (w.alloc (.cells #[.slice A0 code.length c0, .slice A1 data.length c1, .int .i64 entry] 25)).alloc (.cells #[.slice none 0 0, .int .i64 0, .int .i64 0] 28) = W := ⟨_, rfl⟩
  have hb2 : Below w.heap.size w W2 := eW2 ▸ below_alloc (below_alloc (Below.refl _ _) _) _
  have hz : W2.heap[w.heap.size + 1]? = some (.cells #[.slice none 0 0, .int .i64 0, .int .i64 0] 28 (0, 0)) := eW2 ▸ blk_new2 w _ _
  have hi : W2.heap[w.heap.size]? = some (.cells #[.slice A0 code.length c0, .slice A1 data.length c1, .int .i64 entry] 25 (0, 0)) := eW2 ▸ blk_alloc (blk_new w _) _
  have i0 : W2.cell? ⟨w.heap.size, 0, none⟩ = some (.slice A0 code.length c0) := (blk_cell hi 0).trans rfl
  have i1 : W2.cell? ⟨w.heap.size, 1, none⟩ = some (.slice A1 data.length c1) := (blk_cell hi 1).trans rfl
  have i2 : W2.cell? ⟨w.heap.size, 2, none⟩ = some (.int .i64 entry) := (blk_cell hi 2).trans rfl
  clear hi
  have HB2 := Aside0.mk hb2
  have HZ := Aside0.mk hz
  clear hC hD h hb2 hz hn hr
  go_enter Tryd.func10, Tryd.ntmps10
  go_wp2_with (first
    | (go_at_call 16; refine (rnew_ok k A0 c0 code A1 c1 data entry W2 (Kd.C_below HC.out HB2.out) hc0 (Kd.C_below HD.out HB2.out) hc1 hl1 HH.out).mono ?_; rintro e w3 ⟨bm, rfl, hbm, hmb, hb3⟩; have HBM := Aside0.mk hbm; have HMB := Aside0.mk hmb; have HZ3 := Aside0.mk (blk_below HZ.out hb3); have HB3 := Aside0.mk (HB2.out.trans (hb3.mono HB2.out.size)); clear hb3 hbm hmb)
    | (refine wpList_store_row rfl 46 _ _ rfl w3.heap.size (mcells (mac0 code data entry) (.slice A0 code.length c0) (.slice (some ⟨bm, 0, none⟩) 20000 20000) (.slice none 0 0) (.slice none 0 0)) rfl rfl 46 zero19 (blk_new w3 _) (info46.trans rfl) rfl (by kernel_rfl) ?_; have HB4 := Aside0.mk (below_row (g := w3.heap.size) (cells := (mcells (mac0 code data entry) (.slice A0 code.length c0) (.slice (some ⟨bm, 0, none⟩) 20000 20000) (.slice none 0 0) (.slice none 0 0))) (below_alloc HB3.out (.cells zero19 46)) HB3.out.size); have HZ4 := Aside0.mk ((setRow_other (w3.alloc (.cells zero19 46)) w3.heap.size (w.heap.size + 1) (mcells (mac0 code data entry) (.slice A0 code.length c0) (.slice (some ⟨bm, 0, none⟩) 20000 20000) (.slice none 0 0) (.slice none 0 0)) (Nat.ne_of_lt (blk_lt HZ3.out))).trans (blk_alloc HZ3.out _)); (obtain ⟨W4, eW4⟩ : ∃ W, (w3.alloc (.cells zero19 46)).setRow w3.heap.size (mcells (mac0 code data entry) (.slice A0 code.length c0) (.slice (some ⟨bm, 0, none⟩) 20000 20000) (.slice none 0 0) (.slice none 0 0)) = W := ⟨_, rfl⟩)))
  clear s1 s2
  have hw2 : w.heap.size ≤ w3.heap.size := HB3.out.size
  have hgb : w.heap.size + 1 < w3.heap.size := blk_lt HZ3.out
  have hbl : w.heap.size + 1 < bm := Nat.lt_of_lt_of_le (blk_lt HZ.out) HBM.out
  have hblt : bm < w3.heap.size := blk_lt HMB.out
  have hW4 := setRow_heap (w3.alloc (.cells zero19 46)) w3.heap.size zero19 (mcells (mac0 code data entry) (.slice A0 code.length c0) (.slice (some ⟨bm, 0, none⟩) 20000 20000) (.slice none 0 0) (.slice none 0 0)) 46 (0, 0) (blk_new w3 _)
  have hM4 := (setRow_other (w3.alloc (.cells zero19 46)) w3.heap.size bm (mcells (mac0 code data entry) (.slice A0 code.length c0) (.slice (some ⟨bm, 0, none⟩) 20000 20000) (.slice none 0 0) (.slice none 0 0)) (Nat.ne_of_lt hblt)).trans (blk_alloc HMB.out _)
  have hB4 := HB4.out
  have hZ4 := HZ4.out
  have hs4 : (w3.alloc (.cells zero19 46)).heap.size ≤ W4.heap.size := by rw [← eW4]; simp
  rw [eW4] at hW4 hM4 hB4 hZ4
  have hmem : (mac0 code data entry).mem.length = 20000 := by
    show (data ++ List.replicate (20000 - data.length) 0).length = 20000
    rw [List.length_append, List.length_replicate]; omega
  have HI4 := Aside0.mk (show IsM 46 ⟨fun k => w.heap.size + 1 < k, fun _ => False⟩ W4 w3.heap.size (mac0 code data entry) from ⟨A0, c0, bm, .slice none 0 0, .slice none 0 0,
    { blk := hW4
      pg := hgb
      pb := hbl
      ne := Nat.ne_of_gt hblt
      regs := rfl
      mem := hmem
      mblk := hM4
      kept := Kd.R_nil _ _ _ _ _
      out := Kd.R_nil _ _ _ _ _
      code := Kd.C_below HC.out hB4
      ccap := hc0
      csep := HSEP.out
      cfar := fun _ _ _ hf => hf }⟩)
  have HZ5 := Aside0.mk hZ4
  have HB5 := Aside0.mk hB4
  have HF0 := Aside0.mk (mac0_fine code data entry hl)
  unfold zero19 at eW4
  rw [eW4]
  have HPS := Aside0.mk (show ∀ k, W4.heap.size ≤ k → w.heap.size + 1 < k from fun k hk => Nat.lt_of_lt_of_le (Nat.lt_of_lt_of_le hgb (by simp at hs4; omega)) hk)
  clear eW2 eW4 i0 i1 i2 hW4 hM4 hB4 hZ4 hmem hs4 hw2 hgb hbl hblt HB4 HZ4 HMB HBM
  go_loopg [8] n (fun kq v8 wq => ∃ mq : Mac, v8 = .int .i64 ((n - kq : Nat) : Int) ∧ Aside0 (runF (k + 21) kq mq = some m') ∧ Aside0 (IsM 46 ⟨fun k => w.heap.size + 1 < k, fun _ => False⟩ wq w3.heap.size mq) ∧ Aside0 (RFine mq) ∧ Aside0 (Aside0 (Fine mq)) ∧ Aside0 (Chg (fun k => w.heap.size + 1 < k) W4 wq) ∧ Aside0 (kq ≤ n))
  case atStart => exact ⟨_, (by rw [Nat.sub_self]; rfl), HRN, HI4, ⟨⟨rfl, fun _ => rfl⟩⟩, ⟨HF0⟩, ⟨Chg.refl _ _⟩, ⟨Nat.le_refl _⟩⟩
  case round =>
    obtain ⟨mq, rfl, HRq, HIq, HRFq, HFq, HCq, HKq⟩ := hrel
    have HPq := Aside0.mk (show ∀ k, wr.heap.size ≤ k → w.heap.size + 1 < k from fun k hk => HPS.out k (Nat.le_trans HCq.out.size hk))
    have HBq := Aside0.mk (show Below w.heap.size w wr from HB5.out.trans (Chg.below HCq.out HB5.out.size (fun k hk p => by omega)))
    have HZq := Aside0.mk (Chg.blk HCq.out HZ5.out (fun p => Nat.lt_irrefl _ p))
    have hx := HIq.out
    obtain ⟨Ac, cc, bq, vK, vO, hx⟩ := hx
    have c17 := hx.c17
    clear hx
    cases gk with
    | zero =>
      obtain rfl : mq = m' := Option.some.inj HRq.out
      have p0 : decide (((n - 0 : Nat) : Int) < (n : Int)) = false := decide_eq_false (by omega)
      have p1 : decide ((n - 0 : Nat) < n) = false := decide_eq_false (by omega)
      have p2 : decide (n < n) = false := decide_eq_false (by omega)
      go_wp2_with (first
        | (go_at_call 19; refine (rbeh_calls HIq.out HFq.out.out.out HRFq.out.why).mono ?_; rintro e w6 ⟨v0, rfl, hR6, hb6⟩; obtain ⟨Av, cv, ev⟩ := Kd.R_slice hR6; subst ev; have HZ6 := Aside0.mk (blk_below HZq.out hb6); have HR6 := Aside0.mk hR6; have HB6 := Aside0.mk (HBq.out.trans (hb6.mono HBq.out.size)); have HS6 := Aside0.mk HBq.out.size; clear hR6 hb6)
        | (refine wpList_store_row rfl 28 _ _ rfl (w.heap.size + 1) #[.slice Av mq.out.length cv, .int .i64 (endOf mq), .int .i64 mq.why] rfl rfl 28 zero3 HZ6.out (info28s.trans rfl) rfl (by kernel_rfl) ?_))
      refine bodyPost_ret (results_ct (fn := Tryd.f10) rfl _ _ (w.heap.size + 1) 28 #[.slice Av mq.out.length cv, .int .i64 (endOf mq), .int .i64 mq.why] (0, 0) _ rfl (setRow_heap _ (w.heap.size + 1) zero3 _ 28 (0, 0) HZ6.out) Tryd.underlying28 rfl (by kernel_rfl)) rfl ?_
      exact ⟨_, rfl, Kd.R_lower (R_setrow HR6.out HZ6.out (by decide) _) HS6.out, below_row HB6.out (Nat.le_succ _)⟩
    | succ q =>
      have hq := HRq.out
      unfold runF at hq
      have hle := HKq.out
      obtain ⟨i, hi⟩ : ∃ i : Nat, n - (q + 1) = i := ⟨_, rfl⟩
      have p0 : decide (((i : Nat) : Int) < (n : Int)) = true := decide_eq_true (by omega)
      have p1 : decide (i < n) = true := decide_eq_true (by omega)
      rw [hi]
      have HII := Aside0.mk (show i + 1 = n - q by omega)
      clear hi
      by_cases ce : mq.end_ = 0
      · rw [if_pos ce] at hq
        have ce0 : (mq.end_ == 0) = true := beq_iff_eq.mpr ce
        obtain ⟨m1, hs1, hq⟩ := Option.bind_eq_some_iff.1 hq
        have HS1 := Aside0.mk hs1
        have HQ := Aside0.mk hq
        have HRF1 := Aside0.mk (step_rfine _ HRFq.out ce hs1)
        have HF1 := Aside0.mk (show Aside0 (Fine m1) from by
          obtain ⟨m2, h2, f2, _⟩ := step_total (k + 21) (by omega) HFq.out.out
          rw [hs1] at h2
          obtain rfl := Option.some.inj h2
          exact ⟨f2⟩)
        clear hs1 hq ce
        go_wp2_with (go_at_call 17; refine (rstep_calls k HIq.out HPq.out m1 HFq.out.out.code HRFq.out.depth HS1.out).mono ?_; rintro e w5 ⟨rfl, hi5, hc5⟩; have HI5 := Aside0.mk hi5; have HC5 := Aside0.mk (HCq.out.trans hc5); clear hi5 hc5)
        go_roundg q
        case measure => omega
        case rel => exact ⟨m1, by have h1 := HII.out; have h2 := HN.out; have hw := wrap_q (i + 1) (by have := HKq.out; omega); rw [← h1]; first | rfl | (simpa using hw), HQ, HI5, HRF1, HF1, HC5, ⟨by have := HKq.out; omega⟩⟩
      · rw [if_neg ce] at hq
        have ce0 : (mq.end_ == 0) = false := beq_eq_false_iff_ne.mpr ce
        obtain rfl : mq = m' := Option.some.inj hq
        clear hq ce
        go_wp2_with (first
          | (go_at_call 19; refine (rbeh_calls HIq.out HFq.out.out.out HRFq.out.why).mono ?_; rintro e w6 ⟨v0, rfl, hR6, hb6⟩; obtain ⟨Av, cv, ev⟩ := Kd.R_slice hR6; subst ev; have HZ6 := Aside0.mk (blk_below HZq.out hb6); have HR6 := Aside0.mk hR6; have HB6 := Aside0.mk (HBq.out.trans (hb6.mono HBq.out.size)); have HS6 := Aside0.mk HBq.out.size; clear hR6 hb6)
          | (refine wpList_store_row rfl 28 _ _ rfl (w.heap.size + 1) #[.slice Av mq.out.length cv, .int .i64 (endOf mq), .int .i64 mq.why] rfl rfl 28 zero3 HZ6.out (info28s.trans rfl) rfl (by kernel_rfl) ?_))
        refine bodyPost_ret (results_ct (fn := Tryd.f10) rfl _ _ (w.heap.size + 1) 28 #[.slice Av mq.out.length cv, .int .i64 (endOf mq), .int .i64 mq.why] (0, 0) _ rfl (setRow_heap _ (w.heap.size + 1) zero3 _ 28 (0, 0) HZ6.out) Tryd.underlying28 rfl (by kernel_rfl)) rfl ?_
        exact ⟨_, rfl, Kd.R_lower (R_setrow HR6.out HZ6.out (by decide) _) HS6.out, below_row HB6.out (Nat.le_succ _)⟩
end Go.Proofs.YtekhnkpjeofdpaaDoor.A
