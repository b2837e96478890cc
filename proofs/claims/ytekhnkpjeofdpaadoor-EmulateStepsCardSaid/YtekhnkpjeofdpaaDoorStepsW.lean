/- cupellaw23.EmulateSteps: the law's walk (where the two tables lie). -/
import Derived.Test.YtekhnkpjeofdpaaDoorTwo
import Derived.Test.YtekhnkpjeofdpaaDoorRRun
import Derived.Test.YtekhnkpjeofdpaaDoorSt
import Derived.Deep.RegionHeld3
set_option linter.unusedVariables false
set_option maxRecDepth 100000
namespace Go.Proofs.YtekhnkpjeofdpaaDoor.A
open Go.RowKit Go.Proofs.YtekhnkpjeofdpaaDoorW.PrintWords Go.Proofs.YtekhnkpjeofdpaaDoorW.PrintLast Go.Proofs.YtekhnkpjeofdpaaDoorW.PrintMore
set_option maxHeartbeats 4000000
/-- both machines at the same place: Step of the first -/
theorem two_any1 {B : Nat} {w : World} {g1 g2 : Nat} {m : Mac} (h : Two B w g1 g2 m m) (hB : B ≤ w.heap.size) (hT : Tab w) (hf : Fine m) :
    Calls Tryd.prog 13 #[.pointer (some ⟨g1, 0, none⟩)] w fun e w' => ∃ more err mm, e = .returned (.tuple #[.bool more, .int .i64 err]) ∧ Two B w' g1 g2 mm m ∧ Below B w w' ∧ ((m.end_ = 0 ∧ stepF 521 m = some mm ∧ Fine mm ∧ more = (mm.end_ == 0) ∧ err = 0) ∨ (m.end_ ≠ 0 ∧ mm = m ∧ more = false ∧ err = 9)) := by
  by_cases he : m.end_ = 0
  · obtain ⟨m', h1, f1, _⟩ := step_total 521 (by omega) hf
    exact (two_step1 521 h hB hT m' he h1).mono fun e w' ⟨a, b, c⟩ => ⟨_, _, m', a, b, c, .inl ⟨he, h1, f1, rfl, rfl⟩⟩
  · obtain ⟨P, h1⟩ := h.one
    exact (step_ended h1 he).mono fun e w' ⟨a, b⟩ => ⟨_, _, m, a, by subst b; exact h, by subst b; exact Below.refl _ _, .inr ⟨he, rfl, rfl, rfl⟩⟩
theorem state_calls2 {P : Rg} {w : World} {g : Nat} {m : Mac} (h : IsM 57 P w g m) (cs : Array Value) (hcs : stv m = cs) :
    Calls Tryd.prog 18 #[.pointer (some ⟨g, 0, none⟩)] w fun e w' => e = .returned (.tuple #[.agg cs, .int .i64 0]) ∧ Below w.heap.size w w' := hcs ▸ state_calls h
theorem steps_far (A0 : Option Addr) (c0 : Nat) (code : List Int) (A1 : Option Addr) (c1 : Nat) (data : List Int) (entry s : Int) (A2 : Option Addr) (n2 c2 : Nat) (w : World) (hT : Tab w) (h : 400 < (code.length : Int) ∨ 30000 < (data.length : Int) ∨ 100 < s ∨ 20 < (n2 : Int)) :
    Calls Tryd.prog 5 #[.agg #[.slice A0 code.length c0, .slice A1 data.length c1, .int .i64 entry], .int .i64 s, .slice A2 n2 c2] w fun e w' => e = .returned (.bool true) ∧ Below w.heap.size w w' := by
  have HT := Aside0.mk hT
  obtain ⟨W1, eW1⟩ : ∃ W, w.alloc (.cells #[.slice A0 code.length c0, .slice A1 data.length c1, .int .i64 entry] 25) = W := ⟨_, rfl⟩
  have hb1 : Below w.heap.size w W1 := eW1 ▸ below_alloc (Below.refl _ _) _
  have hi : W1.heap[w.heap.size]? = some (.cells #[.slice A0 code.length c0, .slice A1 data.length c1, .int .i64 entry] 25 (0, 0)) := eW1 ▸ blk_new w _
  have i0 : W1.cell? ⟨w.heap.size, 0, none⟩ = some (.slice A0 code.length c0) := (blk_cell hi 0).trans rfl
  have i1 : W1.cell? ⟨w.heap.size, 1, none⟩ = some (.slice A1 data.length c1) := (blk_cell hi 1).trans rfl
  have HB1 := Aside0.mk hb1
  clear hT hb1 hi
  have hh : decide (400 < (code.length : Int)) = true ∨ (decide (400 < (code.length : Int)) = false ∧ decide (30000 < (data.length : Int)) = true) ∨ (decide (400 < (code.length : Int)) = false ∧ decide (30000 < (data.length : Int)) = false ∧ decide (100 < s) = true) ∨ (decide (400 < (code.length : Int)) = false ∧ decide (30000 < (data.length : Int)) = false ∧ decide (100 < s) = false ∧ decide (20 < (n2 : Int)) = true) := by
    simp only [decide_eq_true_eq, decide_eq_false_iff_not]
    omega
  clear h
  rcases hh with b0 | ⟨b0, b1⟩ | ⟨b0, b1, b2⟩ | ⟨b0, b1, b2, b3⟩
  all_goals
    go_enter Tryd.func5, Tryd.ntmps5
    go_wp2_with (go_at_call 8; refine (awake_calls _ (Tab.below HT.out HB1.out)).mono ?_; rintro e w2 ⟨rfl, hb⟩; have HB2 := Aside0.mk (below_step HB1.out hb); clear hb)
    go_ret
    exact ⟨rfl, HB2.out⟩
/-- the law, at an image that is refused -/
theorem steps_bad (A0 : Option Addr) (c0 : Nat) (code : List Int) (A1 : Option Addr) (c1 : Nat) (data : List Int) (entry s : Int) (A2 : Option Addr) (n2 c2 : Nat) (r : Int) (w : World) (hT : Tab w) (hC : Kd.C (Kd.int .u64) w A0 code.length code) (hc0 : code.length ≤ c0) (hD : Kd.C (Kd.int .i64) w A1 data.length data) (hc1 : data.length ≤ c1) (hl0 : code.length ≤ 400) (hl1 : data.length ≤ 30000) (hs : s ≤ 100) (hn : n2 ≤ 20) (h : target_Check.f 521 code data entry = some r) (hr : r ≠ 0) :
    Calls Tryd.prog 5 #[.agg #[.slice A0 code.length c0, .slice A1 data.length c1, .int .i64 entry], .int .i64 s, .slice A2 n2 c2] w fun e w' => e = .returned (.bool true) ∧ Below w.heap.size w w' := by
  have h' := check_ref code data entry r hl0 521 500 (by omega) (by omega) h
  have HT := Aside0.mk hT
  have HC := Aside0.mk hC
  have HD := Aside0.mk hD
  have HH := Aside0.mk h
  have HH' := Aside0.mk h'
  have HR := Aside0.mk hr
  have hr0 : (r != 0) = true := bne_iff_ne.mpr hr
  have hr1 : (r == 0) = false := beq_eq_false_iff_ne.mpr hr
  have hr2 : (r != r) = false := by simp
  obtain ⟨W1, eW1⟩ : ∃ W, w.alloc (.cells #[.slice A0 code.length c0, .slice A1 data.length c1, .int .i64 entry] 25) = W := ⟨_, rfl⟩
  have hb1 : Below w.heap.size w W1 := eW1 ▸ below_alloc (Below.refl _ _) _
  have hi : W1.heap[w.heap.size]? = some (.cells #[.slice A0 code.length c0, .slice A1 data.length c1, .int .i64 entry] 25 (0, 0)) := eW1 ▸ blk_new w _
  have HB1 := Aside0.mk hb1
  have HI := Aside0.mk hi
  have b0 : decide (400 < (code.length : Int)) = false := decide_eq_false (by omega)
  have b1 : decide (30000 < (data.length : Int)) = false := decide_eq_false (by omega)
  have b2 : decide (100 < s) = false := decide_eq_false (by omega)
  have b3 : decide (20 < (n2 : Int)) = false := decide_eq_false (by omega)
  have i0 : W1.cell? ⟨w.heap.size, 0, none⟩ = some (.slice A0 code.length c0) := (blk_cell hi 0).trans rfl
  have i1 : W1.cell? ⟨w.heap.size, 1, none⟩ = some (.slice A1 data.length c1) := (blk_cell hi 1).trans rfl
  have i2 : W1.cell? ⟨w.heap.size, 2, none⟩ = some (.int .i64 entry) := (blk_cell hi 2).trans rfl
  clear hT hC hD h h' hr hb1 hi
  have hz : decide (0 < s) = true ∨ decide (0 < s) = false := by cases decide (0 < s) <;> simp
  rcases hz with z0 | z0
  all_goals
    go_enter Tryd.func5, Tryd.ntmps5
    go_wp2_with (first
      | (go_at_call 12; refine (new_bad 521 A0 c0 code A1 c1 data entry r W1 (Tab.below HT.out HB1.out) (Kd.C_below HC.out HB1.out) hc0 (by omega) HH.out HR.out).mono ?_; rintro e w2 ⟨rfl, hb⟩; have HB2 := Aside0.mk (below_step HB1.out hb); have HI2 := Aside0.mk (blk_below HI.out hb); have j0 := (blk_cell HI2.out 0).trans rfl; have j1 := (blk_cell HI2.out 1).trans rfl; have j2 := (blk_cell HI2.out 2).trans rfl; clear hb)
      | (go_at_call 16; refine (rnew_bad 500 A0 c0 code A1 c1 data entry r _ (Kd.C_below HC.out HB2.out) hc0 (Kd.C_below HD.out HB2.out) hc1 HH'.out HR.out).mono ?_; rintro e w3 ⟨rfl, hb⟩; have HB3 := Aside0.mk (below_step HB2.out hb); clear hb)
      | (refine wpList_store_row rfl 46 _ _ rfl w3.heap.size zero19 rfl rfl 46 zero19 (blk_new w3 _) info46 rfl (by kernel_rfl) ?_; have HB4 := Aside0.mk (below_row (g := w3.heap.size) (cells := zero19) (below_alloc HB3.out (.cells zero19 46)) HB3.out.size)))
    clear i0 i1 i2 j0 j1 j2 eW1
    go_loopw [11] (fun v11 wl => v11 = .int .i64 0 ∧ Aside0 (Below w.heap.size w wl)) (fun _ _ => 0)
    case atStart => exact ⟨rfl, HB4⟩
    case round =>
      obtain ⟨rfl, HBq⟩ := hrel
      go_wp2_with (go_at_call 8; refine (awake_calls _ (Tab.below HT.out HBq.out)).mono ?_; rintro e w5 ⟨rfl, hb⟩; have HB5 := Aside0.mk (below_step HBq.out hb); clear hb)
      go_ret
      exact ⟨rfl, HB5.out⟩
/-- both machines have been made -/
theorem two_made {B : Nat} {w2 w3 : World} {g bm : Nat} {P : Rg} {A0 : Option Addr} {c0 : Nat} {code data : List Int} {entry : Int} (h1 : IsMB B 57 P w2 g (mac0 code data entry)) (hP : ∀ k, P k → B ≤ k) (hB2 : B ≤ w2.heap.size) (hb3 : Below w2.heap.size w2 w3) (hbm : w2.heap.size ≤ bm) (hmb : w3.heap[bm]? = some (.cells ((mac0 code data entry).mem.map (Value.int .i64)).toArray 2 (0, 0)))
    (hC : Kd.C (Kd.int .u64) w3 A0 code.length code) (hc0 : code.length ≤ c0) (hA : 0 < code.length → ∀ ad, A0 = some ad → ad.block < B) (hl1 : data.length ≤ 20000) :
    Two B ((w3.alloc (.cells zero19 46)).setRow w3.heap.size (mcells (mac0 code data entry) (.slice A0 code.length c0) (.slice (some ⟨bm, 0, none⟩) 20000 20000) (.slice none 0 0) (.slice none 0 0))) g w3.heap.size (mac0 code data entry) (mac0 code data entry) := by
  have h23 := hb3.size
  have hblt : bm < w3.heap.size := blk_lt hmb
  have hW4 := setRow_heap (w3.alloc (.cells zero19 46)) w3.heap.size zero19 (mcells (mac0 code data entry) (.slice A0 code.length c0) (.slice (some ⟨bm, 0, none⟩) 20000 20000) (.slice none 0 0) (.slice none 0 0)) 46 (0, 0) (blk_new w3 _)
  have hM4 := (setRow_other (w3.alloc (.cells zero19 46)) w3.heap.size bm (mcells (mac0 code data entry) (.slice A0 code.length c0) (.slice (some ⟨bm, 0, none⟩) 20000 20000) (.slice none 0 0) (.slice none 0 0)) (Nat.ne_of_lt hblt)).trans (blk_alloc hmb _)
  have hB4 : Below w3.heap.size w3 ((w3.alloc (.cells zero19 46)).setRow w3.heap.size (mcells (mac0 code data entry) (.slice A0 code.length c0) (.slice (some ⟨bm, 0, none⟩) 20000 20000) (.slice none 0 0) (.slice none 0 0))) := below_row (below_alloc (Below.refl _ _) _) (Nat.le_refl _)
  have hs4 : w3.heap.size < ((w3.alloc (.cells zero19 46)).setRow w3.heap.size (mcells (mac0 code data entry) (.slice A0 code.length c0) (.slice (some ⟨bm, 0, none⟩) 20000 20000) (.slice none 0 0) (.slice none 0 0))).heap.size := by simp
  generalize (w3.alloc (.cells zero19 46)).setRow w3.heap.size (mcells (mac0 code data entry) (.slice A0 code.length c0) (.slice (some ⟨bm, 0, none⟩) 20000 20000) (.slice none 0 0) (.slice none 0 0)) = W4 at *
  have hmem : (mac0 code data entry).mem.length = 20000 := by
    show (data ++ List.replicate (20000 - data.length) 0).length = 20000
    rw [List.length_append, List.length_replicate]; omega
  refine ⟨fun k => P k ∧ k < w2.heap.size, fun k => k = w3.heap.size ∨ k = bm, ?_, ?_, ?_, ?_, ?_⟩
  · have a1 := h1.isM.turn ⟨fun k => P k ∧ k < w2.heap.size, fun k => w2.heap.size ≤ k⟩ (fun k hk hl => ⟨hk, hl⟩) (fun k hl hq => hq.elim (fun x => .inl x.1) (fun x => absurd hl (Nat.not_lt.2 x)))
    have a2 := (a1.below hb3).below hB4
    exact a2.turn _ (fun k hk _ => hk) (fun k hl hq => by
      rcases hq with hq | hq | hq
      · exact .inl hq
      · exact .inr (by show w2.heap.size ≤ k; omega)
      · exact .inr (by show w2.heap.size ≤ k; omega))
  · exact ⟨A0, c0, bm, .slice none 0 0, .slice none 0 0,
      { blk := hW4
        pg := .inl rfl
        pb := .inr rfl
        ne := Nat.ne_of_gt hblt
        regs := rfl
        mem := hmem
        mblk := hM4
        kept := Kd.R_nil _ _ _ _ _
        out := Kd.R_nil _ _ _ _ _
        code := Kd.C_below hC hB4
        ccap := hc0
        csep := fun hp ad e hq => by
          have := hA hp ad e
          rcases hq with hq | hq <;> omega
        cfar := fun hp ad e hq => by
          have := hA hp ad e
          have := hP _ hq.1
          omega }⟩
  · exact fun k hk => ⟨hP k hk.1, by omega⟩
  · exact fun k hk => ⟨by rcases hk with hk | hk <;> omega, by rcases hk with hk | hk <;> omega⟩
  · exact fun k hk hx => by rcases hx with hx | hx <;> omega
theorem c17_two {B : Nat} {w : World} {g1 g2 : Nat} {m1 m2 : Mac} (h : Two B w g1 g2 m1 m2) : w.cell? ⟨g2, 17, none⟩ = some (.int .i64 m2.end_) := by
  obtain ⟨P, _, _, _, _, _, h⟩ := h.two
  exact h.c17
/-- the law, at a good image -/
theorem steps_good (A0 : Option Addr) (c0 : Nat) (code : List Int) (A1 : Option Addr) (c1 : Nat) (data : List Int) (entry s : Int) (A2 : Option Addr) (c2 : Nat) (l : List Int) (w : World) (hT : Tab w) (hC : Kd.C (Kd.int .u64) w A0 code.length code) (hc0 : code.length ≤ c0) (hD : Kd.C (Kd.int .i64) w A1 data.length data) (hc1 : data.length ≤ c1) (hL : Kd.C (Kd.int .i64) w A2 l.length l) (hl0 : code.length ≤ 400) (hl1 : data.length ≤ 20000) (hs : s ≤ 100) (hn : l.length ≤ 20) (h : target_Check.f 521 code data entry = some 0) :
    Calls Tryd.prog 5 #[.agg #[.slice A0 code.length c0, .slice A1 data.length c1, .int .i64 entry], .int .i64 s, .slice A2 l.length c2] w fun e w' => e = .returned (.bool true) ∧ Below w.heap.size w w' := by
  have h' := check_ref code data entry 0 hl0 521 500 (by omega) (by omega) h
  have HT := Aside0.mk hT
  have HC := Aside0.mk hC
  have HD := Aside0.mk hD
  have HL := Aside0.mk hL
  have HH := Aside0.mk h
  have HH' := Aside0.mk h'
  obtain ⟨W1, eW1⟩ : ∃ W, w.alloc (.cells #[.slice A0 code.length c0, .slice A1 data.length c1, .int .i64 entry] 25) = W := ⟨_, rfl⟩
  have hb1 : Below w.heap.size w W1 := eW1 ▸ below_alloc (Below.refl _ _) _
  have hi : W1.heap[w.heap.size]? = some (.cells #[.slice A0 code.length c0, .slice A1 data.length c1, .int .i64 entry] 25 (0, 0)) := eW1 ▸ blk_new w _
  have HSZ := Aside0.mk (show w.heap.size < W1.heap.size from blk_lt hi)
  have HA := Aside0.mk (show 0 < code.length → ∀ ad, A0 = some ad → ad.block < W1.heap.size from fun hp ad e => by subst e; exact Nat.lt_trans (Kd.C_lt hC hp (by simp [Kd.int, Kd.scalar])) HSZ.out)
  have HB1 := Aside0.mk hb1
  have HI := Aside0.mk hi
  have b0 : decide (400 < (code.length : Int)) = false := decide_eq_false (by omega)
  have b1 : decide (30000 < (data.length : Int)) = false := decide_eq_false (by omega)
  have b2 : decide (100 < s) = false := decide_eq_false (by omega)
  have b3 : decide (20 < (l.length : Int)) = false := decide_eq_false (by omega)
  have i0 : W1.cell? ⟨w.heap.size, 0, none⟩ = some (.slice A0 code.length c0) := (blk_cell hi 0).trans rfl
  have i1 : W1.cell? ⟨w.heap.size, 1, none⟩ = some (.slice A1 data.length c1) := (blk_cell hi 1).trans rfl
  have i2 : W1.cell? ⟨w.heap.size, 2, none⟩ = some (.int .i64 entry) := (blk_cell hi 2).trans rfl
  clear hT hC hD hL h h' hb1 hi
  go_enter Tryd.func5, Tryd.ntmps5
  go_wp2_with (first
    | (go_at_call 12; refine (new_ok' 521 A0 c0 code A1 c1 data entry W1 (Tab.below HT.out HB1.out) (Kd.C_below HC.out HB1.out) hc0 (Kd.C_below HD.out HB1.out) hc1 (by omega) hl1 HH.out).mono ?_; rintro e w2 ⟨g, P, rfl, hM, hP1, hP2, hb⟩; have HM2 := Aside0.mk hM; have HP := Aside0.mk hP1; have HBW2 := Aside0.mk hb; have HB2 := Aside0.mk (below_step HB1.out hb); have HI2 := Aside0.mk (blk_below HI.out hb); have j0 := (blk_cell HI2.out 0).trans rfl; have j1 := (blk_cell HI2.out 1).trans rfl; have j2 := (blk_cell HI2.out 2).trans rfl; clear hM hP1 hP2 hb)
    | (go_at_call 16; refine (rnew_ok 500 A0 c0 code A1 c1 data entry _ (Kd.C_below HC.out HB2.out) hc0 (Kd.C_below HD.out HB2.out) hc1 hl1 HH'.out).mono ?_; rintro e w3 ⟨bm, rfl, hbm, hmb, hb⟩; have HBM := Aside0.mk hbm; have HMB := Aside0.mk hmb; have HBW3 := Aside0.mk hb; have HB3 := Aside0.mk (below_step HB2.out hb); clear hb hbm hmb)
    | (refine wpList_store_row rfl 46 _ _ rfl w3.heap.size (mcells (mac0 code data entry) (.slice A0 code.length c0) (.slice (some ⟨bm, 0, none⟩) 20000 20000) (.slice none 0 0) (.slice none 0 0)) rfl rfl 46 zero19 (blk_new w3 _) (info46.trans rfl) rfl (by kernel_rfl) ?_))
  have HTWO := Aside0.mk (two_made HM2.out HP.out HBW2.out.size HBW3.out HBM.out HMB.out (Kd.C_below HC.out HB3.out) hc0 HA.out hl1)
  have HBW4 := Aside0.mk (show Below W1.heap.size W1 ((w3.alloc (.cells zero19 46)).setRow w3.heap.size (mcells (mac0 code data entry) (.slice A0 code.length c0) (.slice (some ⟨bm, 0, none⟩) 20000 20000) (.slice none 0 0) (.slice none 0 0))) from below_row (below_alloc (below_step HBW2.out HBW3.out) _) (Nat.le_trans HBW2.out.size HBW3.out.size))
  obtain ⟨m0, em0⟩ : ∃ m0, mac0 code data entry = m0 := ⟨_, rfl⟩
  have HF0 := Aside0.mk (em0 ▸ mac0_fine code data entry (by omega))
  have HR0 := Aside0.mk (show RFine m0 from em0 ▸ ⟨rfl, fun _ => rfl⟩)
  clear i0 i1 i2 j0 j1 j2 eW1
  go_loopw [11] (fun v11 wl => ∃ (i : Nat) (mq : Mac), v11 = .int .i64 (i : Int) ∧ (i : Int) ≤ 100 ∧ Aside0 (Two W1.heap.size wl g w3.heap.size mq mq) ∧ Aside0 (Fine mq) ∧ Aside0 (RFine mq) ∧ Aside0 (Below W1.heap.size W1 wl)) (fun v11 _ => 101 - (intOf v11).toNat)
  case atStart => exact ⟨0, m0, rfl, by omega, em0 ▸ HTWO, HF0, HR0, HBW4⟩
  case round =>
    clear HTWO HBW4 HBM HMB HM2 HP em0 HF0 HR0
    obtain ⟨i, mq, rfl, hi, HTW, HF, HRF, HBQ⟩ := hrel
    have HTQ := Aside0.mk (Tab.below HT.out (HB1.out.trans (HBQ.out.mono (Nat.le_of_lt HSZ.out))))
    by_cases hlt : (i : Int) < s
    · have d0 : decide ((i : Int) < s) = true := decide_eq_true hlt
      have hI := Aside0.mk hi
      have hLT := Aside0.mk hlt
      clear hi hlt
      go_upto_if 77 with (go_at_call 13; refine (two_any1 HTW.out HBQ.out.size HTQ.out HF.out).mono ?_; rintro e w5 ⟨more, err, mm, rfl, ht, hb, hx⟩; have HT5 := Aside0.mk ht; have HB5 := Aside0.mk (HBQ.out.trans hb); have HX5 := Aside0.mk hx; have c17 := c17_two ht; clear ht hb hx)
      go_cut [] (fun wc => ∃ mm : Mac, Aside0 (Two W1.heap.size wc g w3.heap.size mm mm) ∧ Aside0 (Fine mm) ∧ Aside0 (RFine mm) ∧ Aside0 (Below W1.heap.size W1 wc))
      case first =>
        rcases HX5.out with ⟨h1, h2, h3, h4, h5⟩ | ⟨h1, h2, h3, h4⟩
        · subst h4 h5
          have d1 : (mq.end_ != 0) = false := by simp [h1]
          have d2 : ((mm.end_ == 0) != (mm.end_ == 0)) = false := by simp
          have HS := Aside0.mk h2
          have HF3 := Aside0.mk h3
          have HR3 := Aside0.mk (step_rfine _ HRF.out h1 h2)
          clear h1 h2 h3
          go_wp2_with (go_at_call 17; refine (two_step2 500 HT5.out HB5.out.size mm HF.out.code HRF.out.depth HS.out).mono ?_; rintro e w6 ⟨rfl, ht, hb⟩; have HT6 := Aside0.mk ht; have HB6 := Aside0.mk (HB5.out.trans hb); have c17 := c17_two ht; clear ht hb)
          go_meet
          case rel => exact ⟨mm, HT6, HF3, HR3, HB6⟩
        · subst h2 h3 h4
          have d1 : (mm.end_ != 0) = true := bne_iff_ne.mpr h1
          clear h1
          go_wp2
          go_meet
          case rel => exact ⟨mm, HT5, HF, HRF, HB5⟩
      case rest =>
        obtain ⟨mm, HT6, HF6, HR6, HB6⟩ := hcut
        clear HX5 HT5 HB5 c17 HTW HF HRF HBQ
        obtain ⟨Q1, hq1⟩ := HT6.out.one
        obtain ⟨Q2, hq2⟩ := HT6.out.two
        have HQ1 := Aside0.mk hq1
        obtain ⟨Ax, cx, bx, vK, vO, hx⟩ := hq2
        obtain ⟨r0, r1, r2, r3, r4, r5, r6, r7, r8, r9, hr⟩ := list10 hx.regs
        have hcs : stv mm = #[.int .i64 r0, .int .i64 r1, .int .i64 r2, .int .i64 r3, .int .i64 r4, .int .i64 r5, .int .i64 r6, .int .i64 r7, .int .i64 r8, .int .i64 r9, .int .i64 mm.at_, .int .i64 mm.depth, .int .i64 mm.steps] := by unfold stv; rw [hr]; rfl
        have hcm : ∀ vc vm : Value, mcells mm vc vm vK vO = #[vc, vm, .int .i64 r0, .int .i64 r1, .int .i64 r2, .int .i64 r3, .int .i64 r4, .int .i64 r5, .int .i64 r6, .int .i64 r7, .int .i64 r8, .int .i64 r9, .int .i64 mm.at_, .int .i64 mm.depth, .int .i64 mm.steps, vK, vO, .int .i64 mm.end_, .int .i64 mm.why] := fun vc vm => by unfold mcells; rw [hr]; rfl
        obtain ⟨vc, vm, hblk⟩ : ∃ vc vm : Value, wc.heap[w3.heap.size]? = some (.cells #[vc, vm, .int .i64 r0, .int .i64 r1, .int .i64 r2, .int .i64 r3, .int .i64 r4, .int .i64 r5, .int .i64 r6, .int .i64 r7, .int .i64 r8, .int .i64 r9, .int .i64 mm.at_, .int .i64 mm.depth, .int .i64 mm.steps, vK, vO, .int .i64 mm.end_, .int .i64 mm.why] 46 (0, 0)) := ⟨_, _, by rw [← hcm]; exact hx.blk⟩
        have HG6 := Aside0.mk hblk
        have HCS := Aside0.mk hcs
        have heq := eq10s r0 r1 r2 r3 r4 r5 r6 r7 r8 r9
        clear hq1 hx hr hcs hcm hblk
        go_upto_region 19 with (first
          | (go_at_call 18; refine (state_calls2 (P := Q1) HQ1.out #[.int .i64 r0, .int .i64 r1, .int .i64 r2, .int .i64 r3, .int .i64 r4, .int .i64 r5, .int .i64 r6, .int .i64 r7, .int .i64 r8, .int .i64 r9, .int .i64 mm.at_, .int .i64 mm.depth, .int .i64 mm.steps] HCS.out).mono ?_; rintro e wa ⟨rfl, hb⟩; have HBa := Aside0.mk (below_alloc (below_step (Below.refl wc.heap.size wc) hb) (.cells #[.int .i64 r0, .int .i64 r1, .int .i64 r2, .int .i64 r3, .int .i64 r4, .int .i64 r5, .int .i64 r6, .int .i64 r7, .int .i64 r8, .int .i64 r9, .int .i64 mm.at_, .int .i64 mm.depth, .int .i64 mm.steps] 44)); have XSa := Aside0.mk (blk_new wa (.cells #[.int .i64 r0, .int .i64 r1, .int .i64 r2, .int .i64 r3, .int .i64 r4, .int .i64 r5, .int .i64 r6, .int .i64 r7, .int .i64 r8, .int .i64 r9, .int .i64 mm.at_, .int .i64 mm.depth, .int .i64 mm.steps] 44)); clear hb)
          | (go_at_call 14; refine (behaviour_calls (P := Q1) (HQ1.out.below HBa.out) HF6.out.out).mono ?_; rintro e wb ⟨va, rfl, hra, hb⟩; obtain ⟨Aa, ca, ea⟩ := Kd.R_slice hra; subst ea; have HRA := Aside0.mk hra; have HBb := Aside0.mk (below_alloc (below_step HBa.out hb) (.cells #[.slice Aa mm.out.length ca, .int .i64 (endOf mm), .int .i64 mm.why] 28)); have XS := Aside0.mk (blk_alloc (blk_below XSa.out hb) (.cells #[.slice Aa mm.out.length ca, .int .i64 (endOf mm), .int .i64 mm.why] 28)); have XB := Aside0.mk (blk_new wb (.cells #[.slice Aa mm.out.length ca, .int .i64 (endOf mm), .int .i64 mm.why] 28)); clear hb hra))
        have XG := Aside0.mk (blk_below HG6.out HBb.out)
        obtain ⟨Wb, eWb⟩ : ∃ W, wb.alloc (.cells #[.slice Aa mm.out.length ca, .int .i64 (endOf mm), .int .i64 mm.why] 28) = W := ⟨_, rfl⟩
        have HSb := Aside0.mk (show Below wb.heap.size wb Wb from eWb ▸ below_alloc (Below.refl _ _) _)
        rw [eWb] at HBb XS XB XG
        have HSS := Aside0.mk (show ∀ W, Below Wb.heap.size Wb W → (W.cell? ⟨wa.heap.size, 0, none⟩ = some (.int .i64 r0) ∧ W.cell? ⟨wa.heap.size, 1, none⟩ = some (.int .i64 r1) ∧ W.cell? ⟨wa.heap.size, 2, none⟩ = some (.int .i64 r2) ∧ W.cell? ⟨wa.heap.size, 3, none⟩ = some (.int .i64 r3) ∧ W.cell? ⟨wa.heap.size, 4, none⟩ = some (.int .i64 r4) ∧ W.cell? ⟨wa.heap.size, 5, none⟩ = some (.int .i64 r5) ∧ W.cell? ⟨wa.heap.size, 6, none⟩ = some (.int .i64 r6) ∧ W.cell? ⟨wa.heap.size, 7, none⟩ = some (.int .i64 r7) ∧ W.cell? ⟨wa.heap.size, 8, none⟩ = some (.int .i64 r8) ∧ W.cell? ⟨wa.heap.size, 9, none⟩ = some (.int .i64 r9) ∧ W.cell? ⟨wa.heap.size, 10, none⟩ = some (.int .i64 mm.at_) ∧ W.cell? ⟨wa.heap.size, 11, none⟩ = some (.int .i64 mm.depth) ∧ W.cell? ⟨wa.heap.size, 12, none⟩ = some (.int .i64 mm.steps) ∧ W.cell? ⟨w3.heap.size, 2, none⟩ = some (.int .i64 r0) ∧ W.cell? ⟨w3.heap.size, 3, none⟩ = some (.int .i64 r1) ∧ W.cell? ⟨w3.heap.size, 4, none⟩ = some (.int .i64 r2) ∧ W.cell? ⟨w3.heap.size, 5, none⟩ = some (.int .i64 r3) ∧ W.cell? ⟨w3.heap.size, 6, none⟩ = some (.int .i64 r4) ∧ W.cell? ⟨w3.heap.size, 7, none⟩ = some (.int .i64 r5) ∧ W.cell? ⟨w3.heap.size, 8, none⟩ = some (.int .i64 r6) ∧ W.cell? ⟨w3.heap.size, 9, none⟩ = some (.int .i64 r7) ∧ W.cell? ⟨w3.heap.size, 10, none⟩ = some (.int .i64 r8) ∧ W.cell? ⟨w3.heap.size, 11, none⟩ = some (.int .i64 r9) ∧ W.cell? ⟨w3.heap.size, 12, none⟩ = some (.int .i64 mm.at_) ∧ W.cell? ⟨w3.heap.size, 13, none⟩ = some (.int .i64 mm.depth) ∧ W.cell? ⟨w3.heap.size, 14, none⟩ = some (.int .i64 mm.steps) ∧ W.cell? ⟨wb.heap.size, 0, none⟩ = some (.slice Aa mm.out.length ca) ∧ W.cell? ⟨wb.heap.size, 1, none⟩ = some (.int .i64 (endOf mm)) ∧ W.cell? ⟨wb.heap.size, 2, none⟩ = some (.int .i64 mm.why)) from fun W hb => ⟨(blk_cell (blk_below XS.out hb) 0).trans rfl, (blk_cell (blk_below XS.out hb) 1).trans rfl, (blk_cell (blk_below XS.out hb) 2).trans rfl, (blk_cell (blk_below XS.out hb) 3).trans rfl, (blk_cell (blk_below XS.out hb) 4).trans rfl, (blk_cell (blk_below XS.out hb) 5).trans rfl, (blk_cell (blk_below XS.out hb) 6).trans rfl, (blk_cell (blk_below XS.out hb) 7).trans rfl, (blk_cell (blk_below XS.out hb) 8).trans rfl, (blk_cell (blk_below XS.out hb) 9).trans rfl, (blk_cell (blk_below XS.out hb) 10).trans rfl, (blk_cell (blk_below XS.out hb) 11).trans rfl, (blk_cell (blk_below XS.out hb) 12).trans rfl, (blk_cell (blk_below XG.out hb) 2).trans rfl, (blk_cell (blk_below XG.out hb) 3).trans rfl, (blk_cell (blk_below XG.out hb) 4).trans rfl, (blk_cell (blk_below XG.out hb) 5).trans rfl, (blk_cell (blk_below XG.out hb) 6).trans rfl, (blk_cell (blk_below XG.out hb) 7).trans rfl, (blk_cell (blk_below XG.out hb) 8).trans rfl, (blk_cell (blk_below XG.out hb) 9).trans rfl, (blk_cell (blk_below XG.out hb) 10).trans rfl, (blk_cell (blk_below XG.out hb) 11).trans rfl, (blk_cell (blk_below XG.out hb) 12).trans rfl, (blk_cell (blk_below XG.out hb) 13).trans rfl, (blk_cell (blk_below XG.out hb) 14).trans rfl, (blk_cell (blk_below XB.out hb) 0).trans rfl, (blk_cell (blk_below XB.out hb) 1).trans rfl, (blk_cell (blk_below XB.out hb) 2).trans rfl⟩)
        have HTb := Aside0.mk (HT6.out.below HBb.out)
        have HBB := Aside0.mk (below_step HB6.out HBb.out)
        rw [eWb]
        clear eWb HBa XSa
        go_cut [120] (fun v120 wd => v120 = .bool false ∧ Aside0 (Two W1.heap.size wd g w3.heap.size mm mm) ∧ Aside0 (Below W1.heap.size W1 wd))
        case first =>
          obtain ⟨Q3, hq3⟩ := HTb.out.two
          have HQ3 := Aside0.mk hq3
          clear hq3
          have hs0 := HSS.out Wb (Below.refl _ _)
          go_region_held3 (fun W => W.cell? ⟨wa.heap.size, 0, none⟩ = some (.int .i64 r0) ∧ W.cell? ⟨wa.heap.size, 1, none⟩ = some (.int .i64 r1) ∧ W.cell? ⟨wa.heap.size, 2, none⟩ = some (.int .i64 r2) ∧ W.cell? ⟨wa.heap.size, 3, none⟩ = some (.int .i64 r3) ∧ W.cell? ⟨wa.heap.size, 4, none⟩ = some (.int .i64 r4) ∧ W.cell? ⟨wa.heap.size, 5, none⟩ = some (.int .i64 r5) ∧ W.cell? ⟨wa.heap.size, 6, none⟩ = some (.int .i64 r6) ∧ W.cell? ⟨wa.heap.size, 7, none⟩ = some (.int .i64 r7) ∧ W.cell? ⟨wa.heap.size, 8, none⟩ = some (.int .i64 r8) ∧ W.cell? ⟨wa.heap.size, 9, none⟩ = some (.int .i64 r9) ∧ W.cell? ⟨wa.heap.size, 10, none⟩ = some (.int .i64 mm.at_) ∧ W.cell? ⟨wa.heap.size, 11, none⟩ = some (.int .i64 mm.depth) ∧ W.cell? ⟨wa.heap.size, 12, none⟩ = some (.int .i64 mm.steps) ∧ W.cell? ⟨w3.heap.size, 2, none⟩ = some (.int .i64 r0) ∧ W.cell? ⟨w3.heap.size, 3, none⟩ = some (.int .i64 r1) ∧ W.cell? ⟨w3.heap.size, 4, none⟩ = some (.int .i64 r2) ∧ W.cell? ⟨w3.heap.size, 5, none⟩ = some (.int .i64 r3) ∧ W.cell? ⟨w3.heap.size, 6, none⟩ = some (.int .i64 r4) ∧ W.cell? ⟨w3.heap.size, 7, none⟩ = some (.int .i64 r5) ∧ W.cell? ⟨w3.heap.size, 8, none⟩ = some (.int .i64 r6) ∧ W.cell? ⟨w3.heap.size, 9, none⟩ = some (.int .i64 r7) ∧ W.cell? ⟨w3.heap.size, 10, none⟩ = some (.int .i64 r8) ∧ W.cell? ⟨w3.heap.size, 11, none⟩ = some (.int .i64 r9) ∧ W.cell? ⟨w3.heap.size, 12, none⟩ = some (.int .i64 mm.at_) ∧ W.cell? ⟨w3.heap.size, 13, none⟩ = some (.int .i64 mm.depth) ∧ W.cell? ⟨w3.heap.size, 14, none⟩ = some (.int .i64 mm.steps) ∧ W.cell? ⟨wb.heap.size, 0, none⟩ = some (.slice Aa mm.out.length ca) ∧ W.cell? ⟨wb.heap.size, 1, none⟩ = some (.int .i64 (endOf mm)) ∧ W.cell? ⟨wb.heap.size, 2, none⟩ = some (.int .i64 mm.why)) (exact HSS.out _ (by repeat (first | (with_reducible exact HC8.out) | (with_reducible exact HC7.out) | (with_reducible exact Below.refl _ _) | (with_reducible apply below_alloc) | (with_reducible apply pw_below_drewN) | (with_reducible apply below_drew1)))) (first
            | (go_at_call 19; refine (rbeh_calls (P := Q3) (HQ3.out.below (by repeat (first | (with_reducible exact HC8.out) | (with_reducible exact HC7.out) | (with_reducible exact Below.refl _ _) | (with_reducible apply below_alloc) | (with_reducible apply pw_below_drewN) | (with_reducible apply below_drew1)))) HF6.out.out HR6.out.why).mono ?_; rintro e w7 ⟨vb, rfl, hrb, hb⟩; obtain ⟨Ab, cb, eb⟩ := Kd.R_slice hrb; subst eb; have HRB := Aside0.mk hrb; have HC7 := Aside0.mk (below_step (by repeat (first | (with_reducible exact HC8.out) | (with_reducible exact HC7.out) | (with_reducible exact Below.refl _ _) | (with_reducible apply below_alloc) | (with_reducible apply pw_below_drewN) | (with_reducible apply below_drew1))) hb : Below Wb.heap.size Wb w7); clear hb hrb)
            | (go_at_call 11; refine (cupelref10_Equal.calls 5000 Aa ca mm.out (endOf mm) mm.why Ab cb mm.out (endOf mm) mm.why true _ (Kd.C_below (Kd.R_reads' HRA.out).2.2 (below_step HSb.out (by repeat (first | (with_reducible exact HC8.out) | (with_reducible exact HC7.out) | (with_reducible exact Below.refl _ _) | (with_reducible apply below_alloc) | (with_reducible apply pw_below_drewN) | (with_reducible apply below_drew1))))) (Kd.R_reads' HRA.out).2.1 (Kd.C_below (Kd.R_reads' HRB.out).2.2 (by repeat (first | (with_reducible exact Below.refl _ _) | (with_reducible apply pw_below_drewN) | (with_reducible apply below_drew1)))) (Kd.R_reads' HRB.out).2.1 (equal_refl mm.out _ _ HF6.out.out 5000 (by omega))).mono ?_; rintro e w8 ⟨rfl, hb⟩; have HC8 := Aside0.mk (below_step HC7.out hb); clear hb))
          all_goals
            try go_wp2
            go_meet
            case rel => exact ⟨rfl, ⟨HTb.out.below (by repeat (first | (with_reducible exact HC8.out) | (with_reducible exact HC7.out) | (with_reducible exact Below.refl _ _) | (with_reducible apply below_alloc) | (with_reducible apply pw_below_drewN) | (with_reducible apply below_drew1)))⟩, ⟨below_step HBB.out (by repeat (first | (with_reducible exact HC8.out) | (with_reducible exact HC7.out) | (with_reducible exact Below.refl _ _) | (with_reducible apply below_alloc) | (with_reducible apply pw_below_drewN) | (with_reducible apply below_drew1)))⟩⟩
        case rest =>
          obtain ⟨rfl, HT9, HB9⟩ := hcut
          clear HG6 HCS HQ1 HRA XS XB XG HSb HSS HTb HBB HBb heq HT6 HB6
          go_wp2
          go_loopg [18] l.length (fun kq v18 wq => ∃ j : Nat, v18 = .int .i64 (j : Int) ∧ j + kq = l.length ∧ Aside0 (Two W1.heap.size wq g w3.heap.size mm mm) ∧ Aside0 (Below W1.heap.size W1 wq))
          case atStart => exact ⟨0, rfl, by omega, HT9, HB9⟩
          case round =>
            clear HT9 HB9
            obtain ⟨j, rfl, hj, HTj, HBj⟩ := hrel
            cases gk with
            | zero =>
              obtain rfl : j = l.length := by omega
              have e0 : decide ((l.length : Int) < (l.length : Int)) = false := decide_eq_false (by omega)
              have e1 : decide (l.length < l.length) = false := decide_eq_false (by omega)
              clear hj
              have hi2 : (i : Int) ≤ 100 := hI.out
              have hi3 : (0 : Int) ≤ (i : Int) := by omega
              go_wp2
              go_roundw
              case rel => exact ⟨i + 1, mm, by go_num, by have := hI.out; have := hLT.out; omega, HTj, HF6, HR6, HBj⟩
              case measure => have := hI.out; simp [intOf]; omega
            | succ q =>
              have hjl : j < l.length := by omega
              have e0 : decide ((j : Int) < (l.length : Int)) = true := decide_eq_true (by omega)
              have e1 : decide (j < l.length) = true := decide_eq_true hjl
              have hLC := Kd.C_below HL.out (HB1.out.trans (HBj.out.mono (Nat.le_of_lt HSZ.out)))
              obtain ⟨ad, c, eA, hcl, hK, hcell⟩ := Kd.C_get hLC 0 (j : Int) (by omega) (by omega)
              subst eA
              have ec : c = [.int .i64 (rd l (j : Int))] := hK
              obtain ⟨x, ex⟩ : ∃ x, rd l (j : Int) = x := ⟨_, rfl⟩
              have hcx : wr.cell? (ad.add j) = some (.int .i64 x) := by
                have := hcell 0 (.int .i64 (rd l (j : Int))) (by rw [ec]; rfl)
                rw [ex] at this
                simpa [Kd.int, Kd.scalar] using this
              clear hLC hcl hK hcell ec ex
              obtain ⟨Q1, hq1⟩ := HTj.out.one
              have HQ1 := Aside0.mk hq1
              have q0 : (0 : Int) ≤ (j : Int) := by omega
              have q2 : (j : Int) < (l.length : Int) := by omega
              have HJ := Aside0.mk hj
              clear hq1 hj hjl
              by_cases cx : 0 ≤ x ∧ x < 20000
              · obtain ⟨n, rfl⟩ : ∃ n : Nat, x = (n : Int) := ⟨x.toNat, by omega⟩
                obtain ⟨Q2, hq2⟩ := HTj.out.two
                obtain ⟨Ax, cx2, bx, vK, vO, hx⟩ := hq2
                obtain ⟨y, ey⟩ : ∃ y, mm.mem.getD n 0 = y := ⟨_, rfl⟩
                have x1 := hx.c1
                have xm := hx.cm n (by omega)
                rw [ey] at xm
                have d1 : decide ((n : Int) < 0) = false := decide_eq_false (by omega)
                have d2 : decide (20000 ≤ (n : Int)) = false := decide_eq_false (by omega)
                have n0 : (0 : Int) ≤ (n : Int) := by omega
                have n1 : (n : Int) < 20000 := cx.2
                have hy : (y != y) = false := by simp
                have HV := Aside0.mk (show (y, (0 : Int)) = if 0 ≤ (n : Int) ∧ (n : Int) < 20000 then (mm.mem.getD (n : Int).toNat 0, 0) else (0, 2) by rw [if_pos cx, Int.toNat_natCast, ey])
                clear cx hx ey
                go_wp2_with (go_at_call 20; refine (peek_any (P := Q1) HQ1.out (n : Int) (y, 0) HV.out).mono ?_; rintro e w9 ⟨rfl, rfl⟩)
                go_quiet (fail)
                go_wp2
                go_roundg q
                case measure => omega
                case rel => exact ⟨j + 1, by go_num, by have := HJ.out; omega, ⟨HTj.out.below (pw_below_drewN (Below.refl _ _) _)⟩, ⟨pw_below_drewN HBj.out _⟩⟩
              · have HV := Aside0.mk (show ((0 : Int), (2 : Int)) = if 0 ≤ x ∧ x < 20000 then (mm.mem.getD x.toNat 0, 0) else (0, 2) by rw [if_neg cx])
                have hd : decide (x < 0) = true ∨ (decide (x < 0) = false ∧ decide (20000 ≤ x) = true) := by
                  simp only [decide_eq_true_eq, decide_eq_false_iff_not]
                  omega
                clear cx
                rcases hd with d1 | ⟨d1, d2⟩
                all_goals
                  go_wp2_with (go_at_call 20; refine (peek_any (P := Q1) HQ1.out x (0, 2) HV.out).mono ?_; rintro e w9 ⟨rfl, rfl⟩)
                  go_roundg q
                  case measure => omega
                  case rel => exact ⟨j + 1, by go_num, by have := HJ.out; omega, HTj, HBj⟩
    · have d0 : decide ((i : Int) < s) = false := decide_eq_false hlt
      clear hi hlt
      go_wp2_with (go_at_call 8; refine (awake_calls _ HTQ.out).mono ?_; rintro e w5 ⟨rfl, hb⟩; have HB5 := Aside0.mk (below_step HBQ.out hb); clear hb)
      go_ret
      exact ⟨rfl, HB1.out.trans (HB5.out.mono (Nat.le_of_lt HSZ.out))⟩
theorem law_steps (A0 : Option Addr) (c0 : Nat) (code : List Int) (A1 : Option Addr) (c1 : Nat) (data : List Int) (entry s : Int) (A2 : Option Addr) (c2 : Nat) (l : List Int) (w : World) (hT : Tab w) (hC : Kd.C (Kd.int .u64) w A0 code.length code) (hc0 : code.length ≤ c0) (hD : Kd.C (Kd.int .i64) w A1 data.length data) (hc1 : data.length ≤ c1) (hL : Kd.C (Kd.int .i64) w A2 l.length l) :
    Calls Tryd.prog 5 #[.agg #[.slice A0 code.length c0, .slice A1 data.length c1, .int .i64 entry], .int .i64 s, .slice A2 l.length c2] w fun e w' => e = .returned (.bool true) ∧ Below w.heap.size w w' := by
  by_cases hf : 400 < (code.length : Int) ∨ 30000 < (data.length : Int) ∨ 100 < s ∨ 20 < (l.length : Int)
  · exact steps_far A0 c0 code A1 c1 data entry s A2 l.length c2 w hT hf
  · obtain ⟨r, hr, hr2⟩ := check_total code data entry (by omega) 521 (by omega)
    by_cases h0 : r = 0
    · subst h0
      exact steps_good A0 c0 code A1 c1 data entry s A2 c2 l w hT hC hc0 hD hc1 hL (by omega) (hr2 rfl).1 (by omega) (by omega) hr
    · exact steps_bad A0 c0 code A1 c1 data entry s A2 l.length c2 r w hT hC hc0 hD hc1 (by omega) (by omega) (by omega) (by omega) hr h0
end Go.Proofs.YtekhnkpjeofdpaaDoor.A
