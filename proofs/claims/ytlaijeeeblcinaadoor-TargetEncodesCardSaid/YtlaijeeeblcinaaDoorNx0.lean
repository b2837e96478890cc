/- What target's reader leans on: where the laid variables lie; a byte's place in a short word; the ends of a number. -/
import Derived.Test.YtlaijeeeblcinaaDoorRd
import Derived.Test.YtlaijeeeblcinaaDoorShelf
import Derived.Lib.AppendIntMem
import Derived.Lib.ParseIntBTie
set_option linter.all false
set_option linter.unusedVariables false
set_option maxRecDepth 100000
namespace Go.Proofs.YtlaijeeeblcinaaDoor.A
open Go.RowKit Go.Proofs.YtlaijeeeblcinaaDoorW.PrintWords Go.Proofs.YtlaijeeeblcinaaDoorW.PrintLast Go.Proofs.YtlaijeeeblcinaaDoorW.PrintMore
set_option maxHeartbeats 4000000
/-- the laid variables hold what they were laid with -/
structure Env (w : World) : Prop where
  tab : Tab w
  pow : Lib.TabIs Tryd.prog w "internal/strconv.uint64pow10" .u64 Lib.pow10Tab
  syn : ∃ t p, w.cell? ⟨4, 0, none⟩ = some (.iface t p)
  rng : ∃ t p, w.cell? ⟨5, 0, none⟩ = some (.iface t p)
  big : 8 ≤ w.heap.size
theorem cell_b {w w' : World} {B b o : Nat} {v : Value} (h : Below B w w') (hb : b < B) (hc : w.cell? ⟨b, o, none⟩ = some v) : w'.cell? ⟨b, o, none⟩ = some v := by
  have := h.block b hb
  simp only [World.cell?, this] at hc ⊢
  exact hc
theorem Env.below {w w' : World} {B : Nat} (hE : Env w) (hb : Below B w w') (hB : 8 ≤ B) : Env w' := by
  refine ⟨?_, ?_, ?_, ?_, Nat.le_trans hE.big hb.size⟩
  · obtain ⟨⟨a, ha⟩, b, hb'⟩ := hE.tab
    exact ⟨⟨a, (hb.block 0 (by omega)).trans ha⟩, b, (hb.block 1 (by omega)).trans hb'⟩
  · exact var?_below hb (g := 2) (by kernel_rfl) (by omega) hE.pow
  · obtain ⟨t, p, h⟩ := hE.syn
    exact ⟨t, p, cell_b hb (by omega) h⟩
  · obtain ⟨t, p, h⟩ := hE.rng
    exact ⟨t, p, cell_b hb (by omega) h⟩
theorem Env.chg {w w' : World} {P : Nat → Prop} (hE : Env w) (h : Chg P w w') (hn : ∀ k, k < 8 → ¬ P k) : Env w' :=
  hE.below (h.below (B := 8) hE.big hn) (Nat.le_refl _)
theorem bt_cg (s : ByteArray) (a b : Int) (h : a.toNat = b.toNat) : bt s a = bt s b := by unfold bt; simp only [h]
theorem bt_nat (s : ByteArray) (x : Int) : bt s ((x.toNat : Nat) : Int) = bt s x := bt_cg s _ _ (Int.toNat_natCast _)
/-- strings.IndexByte at the blanks and the sign of a remark -/
theorem skipIdx_calls (b : Int) (h : 0 ≤ b ∧ b ≤ 255) (w : World) : Calls Tryd.prog 58 #[.string ⟨#[32, 9, 13, 10, 35]⟩, .int .u8 b] w fun e w' => ∃ v : Int, e = .returned (.int .i64 v) ∧ w' = w ∧ decide (0 ≤ v) = (isBlk b || b == 35) := by
  refine (Tryd.strings_IndexByte ⟨#[32, 9, 13, 10, 35]⟩ b w).mono ?_
  rintro e w' ⟨rfl, rfl⟩
  refine ⟨_, rfl, rfl, ?_⟩
  have : ∀ n : Nat, n ≤ 255 → decide (0 ≤ Lib.indexByte [32, 9, 13, 10, 35] n.toUInt8) = (isBlk (n : Int) || (n : Int) == 35) := by decide +kernel
  have h2 := this b.toNat (by omega)
  rw [show ((b.toNat : Nat) : Int) = b by omega] at h2
  exact h2
theorem signIdx_calls (b : Int) (h : 0 ≤ b ∧ b ≤ 255) (w : World) : Calls Tryd.prog 58 #[.string ⟨#[44, 59, 40, 41]⟩, .int .u8 b] w fun e w' => ∃ v : Int, e = .returned (.int .i64 v) ∧ w' = w ∧ decide (0 ≤ v) = (b == 44 || b == 59 || b == 40 || b == 41) := by
  refine (Tryd.strings_IndexByte ⟨#[44, 59, 40, 41]⟩ b w).mono ?_
  rintro e w' ⟨rfl, rfl⟩
  refine ⟨_, rfl, rfl, ?_⟩
  have : ∀ n : Nat, n ≤ 255 → decide (0 ≤ Lib.indexByte [44, 59, 40, 41] n.toUInt8) = ((n : Int) == 44 || (n : Int) == 59 || (n : Int) == 40 || (n : Int) == 41) := by decide +kernel
  have h2 := this b.toNat (by omega)
  rw [show ((b.toNat : Nat) : Int) = b by omega] at h2
  exact h2
theorem lower_calls (b : Int) (w : World) : Calls Tryd.prog 59 #[.int .u8 b] w fun e w' => e = .returned (.bool (isLow b)) ∧ w' = w := by
  by_cases c2 : 97 ≤ b
  · have c2b0 : decide (97 ≤ b) = true := decide_eq_true c2
    go_enter Tryd.func59, Tryd.ntmps59
    go_wp2
    go_ret
    exact ⟨by simp [isLow, c2], rfl⟩
  · have c2b0 : decide (97 ≤ b) = false := decide_eq_false c2
    go_enter Tryd.func59, Tryd.ntmps59
    go_wp2
    go_ret
    exact ⟨by simp only [isLow, c2b0, Bool.false_and]; rfl, rfl⟩
theorem digit_calls (b : Int) (w : World) : Calls Tryd.prog 60 #[.int .u8 b] w fun e w' => e = .returned (.bool (isDig b)) ∧ w' = w := by
  by_cases c2 : 48 ≤ b
  · have c2b0 : decide (48 ≤ b) = true := decide_eq_true c2
    go_enter Tryd.func60, Tryd.ntmps60
    go_wp2
    go_ret
    exact ⟨by simp [isDig, c2], rfl⟩
  · have c2b0 : decide (48 ≤ b) = false := decide_eq_false c2
    go_enter Tryd.func60, Tryd.ntmps60
    go_wp2
    go_ret
    exact ⟨by simp only [isDig, c2b0, Bool.false_and]; rfl, rfl⟩
theorem Chg.of_drawn {w w' : World} (P : Nat → Prop) (h : Drawn0 w w') : Chg P w w' := .of_below h.below
/-- the five cells of the token, set anew -/
def tokSet (w : World) (g : Nat) (a e c : Int) (t : ByteArray) (v : Int) : World := ((((w.setCell ⟨g, 1, none⟩ (.int .i64 a)).setCell ⟨g, 2, none⟩ (.int .i64 e)).setCell ⟨g, 3, none⟩ (.int .u8 c)).setCell ⟨g, 4, none⟩ (.string t)).setCell ⟨g, 5, none⟩ (.int .i64 v)
theorem tokSet_blk {w : World} {g : Nat} {s : ByteArray} {a0 e0 c0 : Int} {t0 : ByteArray} {v0 : Int} (h : w.heap[g]? = some (.cells (rdc s a0 e0 c0 t0 v0) 71 (0, 0))) (a e c : Int) (t : ByteArray) (v : Int) :
    (tokSet w g a e c t v).heap[g]? = some (.cells (rdc s a e c t v) 71 (0, 0)) :=
  (blk_set (blk_set (blk_set (blk_set (blk_set h 1 (.int .i64 a)) 2 (.int .i64 e)) 3 (.int .u8 c)) 4 (.string t)) 5 (.int .i64 v)).trans rfl
theorem tokSet_chg {w w1 : World} {g : Nat} (h : Chg (· = g) w w1) (a e c : Int) (t : ByteArray) (v : Int) : Chg (· = g) w (tokSet w1 g a e c t v) :=
  ((((h.setCell rfl _).setCell rfl _).setCell rfl _).setCell rfl _).setCell rfl _
theorem rd_sort {w : World} {g : Nat} {s : ByteArray} {a e c : Int} {t : ByteArray} {v : Int} (h : w.heap[g]? = some (.cells (rdc s a e c t v) 71 (0, 0))) (c' : Int) :
    (w.setCell ⟨g, 3, none⟩ (.int .u8 c')).heap[g]? = some (.cells (rdc s a e c' t v) 71 (0, 0)) := (blk_set h 3 _).trans rfl
theorem rd_val {w : World} {g : Nat} {s : ByteArray} {a e c : Int} {t : ByteArray} {v : Int} (h : w.heap[g]? = some (.cells (rdc s a e c t v) 71 (0, 0))) (v' : Int) :
    (w.setCell ⟨g, 5, none⟩ (.int .i64 v')).heap[g]? = some (.cells (rdc s a e c t v') 71 (0, 0)) := (blk_set h 5 _).trans rfl
theorem rd_end {w : World} {g : Nat} {s : ByteArray} {a e c : Int} {t : ByteArray} {v : Int} (h : w.heap[g]? = some (.cells (rdc s a e c t v) 71 (0, 0))) (e' : Int) (t' : ByteArray) :
    ((w.setCell ⟨g, 2, none⟩ (.int .i64 e')).setCell ⟨g, 4, none⟩ (.string t')).heap[g]? = some (.cells (rdc s a e' c t' v) 71 (0, 0)) := (blk_set (blk_set h 2 _) 4 _).trans rfl
theorem tok_end {s : ByteArray} {i : Nat} (h : skipP s i = s.size) : tokP s i = some ⟨s.size, s.size, 0, ByteArray.empty, 0⟩ := by
  unfold tokP; rw [h]; exact if_pos rfl
theorem tok_low {s : ByteArray} {i a : Nat} (h : skipP s i = a) (h1 : a ≠ s.size) (h2 : isLow (bt s a) = true) : tokP s i = some ⟨a, wordEnd s (a + 1), 97, s.extract a (wordEnd s (a + 1)), 0⟩ := by
  unfold tokP; rw [h]; exact (if_neg h1).trans (if_pos h2)
theorem tok_num {s : ByteArray} {i a : Nat} (h : skipP s i = a) (h1 : a ≠ s.size) (h2 : isLow (bt s a) = false) (h3 : (isDig (bt s a) || bt s a == 45) = true) :
    tokP s i = (match numP (s.extract a (digEnd s (a + 1))).data.toList with | some v => some ⟨a, digEnd s (a + 1), 48, s.extract a (digEnd s (a + 1)), v⟩ | none => none) := by
  unfold tokP; rw [h]; exact (if_neg h1).trans ((if_neg (by rw [h2]; decide)).trans (if_pos h3))
theorem tok_sign {s : ByteArray} {i a : Nat} (h : skipP s i = a) (h1 : a ≠ s.size) (h2 : isLow (bt s a) = false) (h3 : (isDig (bt s a) || bt s a == 45) = false) (h4 : (bt s a == 44 || bt s a == 59 || bt s a == 40 || bt s a == 41) = true) :
    tokP s i = some ⟨a, a + 1, bt s a, s.extract a (a + 1), 0⟩ := by
  unfold tokP; rw [h]; exact (if_neg h1).trans ((if_neg (by rw [h2]; decide)).trans ((if_neg (by rw [h3]; decide)).trans (if_pos h4)))
theorem tok_bad {s : ByteArray} {i a : Nat} (h : skipP s i = a) (h1 : a ≠ s.size) (h2 : isLow (bt s a) = false) (h3 : (isDig (bt s a) || bt s a == 45) = false) (h4 : (bt s a == 44 || bt s a == 59 || bt s a == 40 || bt s a == 41) = false) :
    tokP s i = none := by
  unfold tokP; rw [h]; exact (if_neg h1).trans ((if_neg (by rw [h2]; decide)).trans ((if_neg (by rw [h3]; decide)).trans (if_neg (by rw [h4]; decide))))
/-- how next ends, and what it leaves -/
def NextEnd (g : Nat) (s : ByteArray) (i : Nat) (w : World) (e : Ending) (w' : World) : Prop :=
  match tokP s i with
  | some k => e = .returned (.tuple #[]) ∧ w'.heap[g]? = some (.cells (rdc s k.at_ k.end_ k.sort k.text k.val) 71 (0, 0)) ∧ Chg (· = g) w w'
  | none => e = failed (skipP s i) ∧ Chg (· = g) w w'
theorem nextEnd_some {g : Nat} {s : ByteArray} {i : Nat} {w w' : World} {e : Ending} {k : Tok} (h : tokP s i = some k) (he : e = .returned (.tuple #[])) (hb : w'.heap[g]? = some (.cells (rdc s k.at_ k.end_ k.sort k.text k.val) 71 (0, 0))) (hc : Chg (· = g) w w') : NextEnd g s i w e w' := by
  unfold NextEnd; rw [h]; exact ⟨he, hb, hc⟩
theorem nextEnd_none {g : Nat} {s : ByteArray} {i : Nat} {w w' : World} {e : Ending} (h : tokP s i = none) (he : e = failed (skipP s i)) (hc : Chg (· = g) w w') : NextEnd g s i w e w' := by
  unfold NextEnd; rw [h]; exact ⟨he, hc⟩
theorem next_fin {g : Nat} {s : ByteArray} {i : Nat} {w w' : World} (x y c v : Int) (hx : 0 ≤ x) (hy : 0 ≤ y) (h : tokP s i = some ⟨x.toNat, y.toNat, c, s.extract x.toNat y.toNat, v⟩)
    (hb : w'.heap[g]? = some (.cells (rdc s x y c (s.extract x.toNat y.toNat) v) 71 (0, 0))) (hc : Chg (· = g) w w') : NextEnd g s i w (.returned (.tuple #[])) w' :=
  nextEnd_some h rfl (by show w'.heap[g]? = some (Obj.cells (rdc s ((x.toNat : Nat) : Int) ((y.toNat : Nat) : Int) c (s.extract x.toNat y.toNat) v) 71 (0, 0)); rw [Int.toNat_of_nonneg hx, Int.toNat_of_nonneg hy]; exact hb) hc
theorem next_failed {g : Nat} {s : ByteArray} {i : Nat} {w w' : World} (x : Int) (hx : 0 ≤ x) (ha : skipP s i = x.toNat) (h : tokP s i = none) (hc : Chg (· = g) w w') : NextEnd g s i w (failed x) w' :=
  nextEnd_none h (by rw [ha, Int.toNat_of_nonneg hx]) hc
theorem str_beq (l : List UInt8) (B : ByteArray) : ((⟨l.toArray⟩ : ByteArray).toList == B.toList) = decide (l = B.data.toList) := by
  rw [Go.ByteArray.toList_eq, Go.ByteArray.toList_eq]
  by_cases h : l = B.data.toList
  · rw [decide_eq_true h]; simp [h]
  · rw [decide_eq_false h]; simpa using h
theorem numP_ok {t : List UInt8} {v : Int} (h : Lib.parseIntB 64 t = .ok v) (h2 : Lib.itoa v = t) : numP t = some v := by unfold numP; rw [h]; exact if_pos h2
theorem numP_ne {t : List UInt8} {v : Int} (h : Lib.parseIntB 64 t = .ok v) (h2 : ¬ Lib.itoa v = t) : numP t = none := by unfold numP; rw [h]; exact if_neg h2
theorem numP_bad {t : List UInt8} (h : ∀ v, Lib.parseIntB 64 t ≠ .ok v) : numP t = none := by
  unfold numP
  cases hp : Lib.parseIntB 64 t with
  | ok v => exact absurd hp (h v)
  | range => rfl
  | _ => rfl
/-- what the walk reads and writes of the reader's cells -/
theorem rd_facts {w : World} {g : Nat} {s : ByteArray} {a e c : Int} {t : ByteArray} {v : Int} (h : w.heap[g]? = some (.cells (rdc s a e c t v) 71 (0, 0))) :
    w.cell? ⟨g, 0, none⟩ = some (.string s) ∧ w.cell? ⟨g, 1, none⟩ = some (.int .i64 a) ∧ w.cell? ⟨g, 2, none⟩ = some (.int .i64 e) ∧ w.cell? ⟨g, 3, none⟩ = some (.int .u8 c) ∧ w.cell? ⟨g, 4, none⟩ = some (.string t) ∧ w.cell? ⟨g, 5, none⟩ = some (.int .i64 v) :=
  ⟨(blk_cell h 0).trans rfl, (blk_cell h 1).trans rfl, (blk_cell h 2).trans rfl, (blk_cell h 3).trans rfl, (blk_cell h 4).trans rfl, (blk_cell h 5).trans rfl⟩
theorem rd_free {w : World} {g : Nat} {s : ByteArray} {a e c : Int} {t : ByteArray} {v : Int} (h : w.heap[g]? = some (.cells (rdc s a e c t v) 71 (0, 0))) :
    w.frozen? ⟨g, 1, none⟩ = false ∧ w.frozen? ⟨g, 2, none⟩ = false ∧ w.frozen? ⟨g, 3, none⟩ = false ∧ w.frozen? ⟨g, 4, none⟩ = false ∧ w.frozen? ⟨g, 5, none⟩ = false :=
  ⟨blk_frozen h 1, blk_frozen h 2, blk_frozen h 3, blk_frozen h 4, blk_frozen h 5⟩
/-- strconv.ParseInt at base 10 -/
theorem pint_ok (s : ByteArray) (hs : s.size ≤ 600000) (v : Int) (h : Lib.parseIntB 64 s.data.toList = .ok v) (w : World) :
    Calls Tryd.prog 61 #[.string s, .int .i64 10, .int .i64 64] w fun e w' => e = .returned (.tuple #[.int .i64 v, .nilIface]) ∧ Below w.heap.size w w' := by
  refine (Tryd.strconv_ParseInt_10_at64_ok s (by omega) v h w).mono ?_
  rintro e w' ⟨rfl, h⟩
  refine ⟨rfl, ?_⟩
  rcases h with rfl | ⟨t, rfl⟩
  · exact Below.refl _ _
  · exact Lib.bytesWorld_below _ _ _
theorem pint_bad (s : ByteArray) (hs : s.size ≤ 600000) (w : World) (hE : Env w) (h : ∀ v, Lib.parseIntB 64 s.data.toList ≠ .ok v) :
    Calls Tryd.prog 61 #[.string s, .int .i64 10, .int .i64 64] w fun e w' => ∃ x t p, e = .returned (.tuple #[.int .i64 x, .iface t p]) ∧ Below w.heap.size w w' := by
  obtain ⟨t1, p1, h1⟩ := hE.syn
  obtain ⟨t2, p2, h2⟩ := hE.rng
  cases hp : Lib.parseIntB 64 s.data.toList with
  | ok v => exact absurd hp (h v)
  | range =>
    refine (Tryd.strconv_ParseInt_10_at64_range s (by omega) hp _ w h2 (.inr ⟨_, _, rfl⟩)).mono ?_
    rintro e w' ⟨N, rfl, _, _, hb⟩
    exact ⟨_, _, _, rfl, hb⟩
  | _ =>
    refine (Tryd.strconv_ParseInt_10_at64_syntax s (by omega) hp _ w h1 (.inr ⟨_, _, rfl⟩)).mono ?_
    rintro e w' ⟨N, rfl, _, _, hb⟩
    exact ⟨_, _, _, rfl, hb⟩
/-- strconv.FormatInt at base 10 -/
theorem fint_calls (v : Int) (h0 : -9223372036854775808 ≤ v) (h1 : v ≤ 9223372036854775807) (w : World) (hE : Env w) :
    Calls Tryd.prog 50 #[.int .i64 v, .int .i64 10] w fun e w' => e = .returned (.string ⟨(Lib.itoa v).toArray⟩) ∧ Below w.heap.size w w' := by
  refine (Tryd.strconv_FormatInt_10 v h0 h1 w hE.pow).mono ?_
  rintro e w' ⟨rfl, k, os, rfl⟩
  exact ⟨rfl, Lib.below_grow _ _ (Nat.le_refl _) _ _⟩
end Go.Proofs.YtlaijeeeblcinaaDoor.A
