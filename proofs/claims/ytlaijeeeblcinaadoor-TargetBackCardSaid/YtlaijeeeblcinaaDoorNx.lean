/- What target's reader leans on: where the laid variables lie; a byte's place in a short word; the ends of a number. -/
import Derived.Test.YtlaijeeeblcinaaDoorRd
import Derived.Test.YtlaijeeeblcinaaDoorShelf
import Derived.Lib.AppendIntMem
import Derived.Lib.ParseIntBTie
import Derived.BigQuiet
set_option linter.all false
set_option linter.unusedVariables false
set_option maxRecDepth 100000
namespace Go.Proofs.YtlaijeeeblcinaaDoor.A
open Go.RowKit Go.Proofs.YtlaijeeeblcinaaDoorW.PrintWords Go.Proofs.YtlaijeeeblcinaaDoorW.PrintLast Go.Proofs.YtlaijeeeblcinaaDoorW.PrintMore
set_option maxHeartbeats 4000000
/-- the laid variables hold what they were laid with -/
structure Env (w : World) : Prop where
 tab : Tab w
 pow : Lib.TabIs Tryd.prog w "internal/strconv.uint64pow10" .u64 Lib.pow10Tab
 syn : ∃ t p, w.cell? ⟨4, 0, none⟩ = some (.iface t p)
 rng : ∃ t p, w.cell? ⟨5, 0, none⟩ = some (.iface t p)
 big : 8 ≤ w.heap.size
theorem cell_b {w w' : World} {B b o : Nat} {v : Value} (h : Below B w w') (hb : b < B) (hc : w.cell? ⟨b, o, none⟩ = some v) : w'.cell? ⟨b, o, none⟩ = some v := by
 have := h.block b hb
 simp only [World.cell?, this] at hc ⊢
 exact hc
theorem Env.below {w w' : World} {B : Nat} (hE : Env w) (hb : Below B w w') (hB : 8 ≤ B) : Env w' := by
 refine ⟨?_, ?_, ?_, ?_, Nat.le_trans hE.big hb.size⟩
 ·obtain ⟨⟨a, ha⟩, b, hb'⟩ := hE.tab
  exact ⟨⟨a, (hb.block 0 (by omega)).trans ha⟩, b, (hb.block 1 (by omega)).trans hb'⟩
 ·exact var?_below hb (g := 2) (by kernel_rfl) (by omega) hE.pow
 ·obtain ⟨t, p, h⟩ := hE.syn
  exact ⟨t, p, cell_b hb (by omega) h⟩
 ·obtain ⟨t, p, h⟩ := hE.rng
  exact ⟨t, p, cell_b hb (by omega) h⟩
theorem Env.chg {w w' : World} {P : Nat → Prop} (hE : Env w) (h : Chg P w w') (hn : ∀ k, k < 8 → ¬ P k) : Env w' :=
 hE.below (h.below (B := 8) hE.big hn) (Nat.le_refl _)
theorem bt_cg (s : ByteArray) (a b : Int) (h : a.toNat = b.toNat) : bt s a = bt s b := by unfold bt; simp only [h]
theorem bt_nat (s : ByteArray) (x : Int) : bt s ((x.toNat : Nat) : Int) = bt s x := bt_cg s _ _ (Int.toNat_natCast _)
/-- strings.IndexByte at the blanks and the sign of a remark -/
theorem skipIdx_calls (b : Int) (h : 0 ≤ b ∧ b ≤ 255) (w : World) : Calls Tryd.prog 58 #[.string ⟨#[32, 9, 13, 10, 35]⟩, .int .u8 b] w fun e w' => ∃ v : Int, e = .returned (.int .i64 v) ∧ w' = w ∧ decide (0 ≤ v) = (isBlk b || b == 35) := by
 refine (Tryd.strings_IndexByte ⟨#[32, 9, 13, 10, 35]⟩ b w).mono ?_
 rintro e w' ⟨rfl, rfl⟩
 refine ⟨_, rfl, rfl, ?_⟩
 have : ∀ n : Nat, n ≤ 255 → decide (0 ≤ Lib.indexByte [32, 9, 13, 10, 35] n.toUInt8) = (isBlk (n : Int) || (n : Int) == 35) := by decide +kernel
 have h2 := this b.toNat (by omega)
 rw [show ((b.toNat : Nat) : Int) = b by omega] at h2
 exact h2
theorem signIdx_calls (b : Int) (h : 0 ≤ b ∧ b ≤ 255) (w : World) : Calls Tryd.prog 58 #[.string ⟨#[44, 59, 40, 41]⟩, .int .u8 b] w fun e w' => ∃ v : Int, e = .returned (.int .i64 v) ∧ w' = w ∧ decide (0 ≤ v) = (b == 44 || b == 59 || b == 40 || b == 41) := by
 refine (Tryd.strings_IndexByte ⟨#[44, 59, 40, 41]⟩ b w).mono ?_
 rintro e w' ⟨rfl, rfl⟩
 refine ⟨_, rfl, rfl, ?_⟩
 have : ∀ n : Nat, n ≤ 255 → decide (0 ≤ Lib.indexByte [44, 59, 40, 41] n.toUInt8) = ((n : Int) == 44 || (n : Int) == 59 || (n : Int) == 40 || (n : Int) == 41) := by decide +kernel
 have h2 := this b.toNat (by omega)
 rw [show ((b.toNat : Nat) : Int) = b by omega] at h2
 exact h2
theorem lower_calls (b : Int) (w : World) : Calls Tryd.prog 59 #[.int .u8 b] w fun e w' => e = .returned (.bool (isLow b)) ∧ w' = w := by
 by_cases c2 : 97 ≤ b
 ·have c2b0 : decide (97 ≤ b) = true := decide_eq_true c2
  go_enter Tryd.func59, Tryd.ntmps59
  go_wp2
  go_ret
  exact ⟨by simp [isLow, c2], rfl⟩
 ·have c2b0 : decide (97 ≤ b) = false := decide_eq_false c2
  go_enter Tryd.func59, Tryd.ntmps59
  go_wp2
  go_ret
  exact ⟨by simp only [isLow, c2b0, Bool.false_and]; rfl, rfl⟩
theorem digit_calls (b : Int) (w : World) : Calls Tryd.prog 60 #[.int .u8 b] w fun e w' => e = .returned (.bool (isDig b)) ∧ w' = w := by
 by_cases c2 : 48 ≤ b
 ·have c2b0 : decide (48 ≤ b) = true := decide_eq_true c2
  go_enter Tryd.func60, Tryd.ntmps60
  go_wp2
  go_ret
  exact ⟨by simp [isDig, c2], rfl⟩
 ·have c2b0 : decide (48 ≤ b) = false := decide_eq_false c2
  go_enter Tryd.func60, Tryd.ntmps60
  go_wp2
  go_ret
  exact ⟨by simp only [isDig, c2b0, Bool.false_and]; rfl, rfl⟩
theorem Chg.of_drawn {w w' : World} (P : Nat → Prop) (h : Drawn0 w w') : Chg P w w' := .of_below h.below
/-- the five cells of the token, set anew -/
def tokSet (w : World) (g : Nat) (a e c : Int) (t : ByteArray) (v : Int) : World := ((((w.setCell ⟨g, 1, none⟩ (.int .i64 a)).setCell ⟨g, 2, none⟩ (.int .i64 e)).setCell ⟨g, 3, none⟩ (.int .u8 c)).setCell ⟨g, 4, none⟩ (.string t)).setCell ⟨g, 5, none⟩ (.int .i64 v)
theorem tokSet_blk {w : World} {g : Nat} {s : ByteArray} {a0 e0 c0 : Int} {t0 : ByteArray} {v0 : Int} (h : w.heap[g]? = some (.cells (rdc s a0 e0 c0 t0 v0) 71 (0, 0))) (a e c : Int) (t : ByteArray) (v : Int) :
  (tokSet w g a e c t v).heap[g]? = some (.cells (rdc s a e c t v) 71 (0, 0)) :=
 (blk_set (blk_set (blk_set (blk_set (blk_set h 1 (.int .i64 a)) 2 (.int .i64 e)) 3 (.int .u8 c)) 4 (.string t)) 5 (.int .i64 v)).trans rfl
theorem tokSet_chg {w w1 : World} {g : Nat} (h : Chg (· = g) w w1) (a e c : Int) (t : ByteArray) (v : Int) : Chg (· = g) w (tokSet w1 g a e c t v) :=
 ((((h.setCell rfl _).setCell rfl _).setCell rfl _).setCell rfl _).setCell rfl _
theorem rd_sort {w : World} {g : Nat} {s : ByteArray} {a e c : Int} {t : ByteArray} {v : Int} (h : w.heap[g]? = some (.cells (rdc s a e c t v) 71 (0, 0))) (c' : Int) :
  (w.setCell ⟨g, 3, none⟩ (.int .u8 c')).heap[g]? = some (.cells (rdc s a e c' t v) 71 (0, 0)) := (blk_set h 3 _).trans rfl
theorem rd_val {w : World} {g : Nat} {s : ByteArray} {a e c : Int} {t : ByteArray} {v : Int} (h : w.heap[g]? = some (.cells (rdc s a e c t v) 71 (0, 0))) (v' : Int) :
  (w.setCell ⟨g, 5, none⟩ (.int .i64 v')).heap[g]? = some (.cells (rdc s a e c t v') 71 (0, 0)) := (blk_set h 5 _).trans rfl
theorem rd_end {w : World} {g : Nat} {s : ByteArray} {a e c : Int} {t : ByteArray} {v : Int} (h : w.heap[g]? = some (.cells (rdc s a e c t v) 71 (0, 0))) (e' : Int) (t' : ByteArray) :
  ((w.setCell ⟨g, 2, none⟩ (.int .i64 e')).setCell ⟨g, 4, none⟩ (.string t')).heap[g]? = some (.cells (rdc s a e' c t' v) 71 (0, 0)) := (blk_set (blk_set h 2 _) 4 _).trans rfl
theorem tok_end {s : ByteArray} {i : Nat} (h : skipP s i = s.size) : tokP s i = some ⟨s.size, s.size, 0, ByteArray.empty, 0⟩ := by
 unfold tokP; rw [h]; exact if_pos rfl
theorem tok_low {s : ByteArray} {i a : Nat} (h : skipP s i = a) (h1 : a ≠ s.size) (h2 : isLow (bt s a) = true) : tokP s i = some ⟨a, wordEnd s (a + 1), 97, s.extract a (wordEnd s (a + 1)), 0⟩ := by
 unfold tokP; rw [h]; exact (if_neg h1).trans (if_pos h2)
theorem tok_num {s : ByteArray} {i a : Nat} (h : skipP s i = a) (h1 : a ≠ s.size) (h2 : isLow (bt s a) = false) (h3 : (isDig (bt s a) || bt s a == 45) = true) :
  tokP s i = (match numP (s.extract a (digEnd s (a + 1))).data.toList with | some v => some ⟨a, digEnd s (a + 1), 48, s.extract a (digEnd s (a + 1)), v⟩ | none => none) := by
 unfold tokP; rw [h]; exact (if_neg h1).trans ((if_neg (by rw [h2]; decide)).trans (if_pos h3))
theorem tok_sign {s : ByteArray} {i a : Nat} (h : skipP s i = a) (h1 : a ≠ s.size) (h2 : isLow (bt s a) = false) (h3 : (isDig (bt s a) || bt s a == 45) = false) (h4 : (bt s a == 44 || bt s a == 59 || bt s a == 40 || bt s a == 41) = true) :
  tokP s i = some ⟨a, a + 1, bt s a, s.extract a (a + 1), 0⟩ := by
 unfold tokP; rw [h]; exact (if_neg h1).trans ((if_neg (by rw [h2]; decide)).trans ((if_neg (by rw [h3]; decide)).trans (if_pos h4)))
theorem tok_bad {s : ByteArray} {i a : Nat} (h : skipP s i = a) (h1 : a ≠ s.size) (h2 : isLow (bt s a) = false) (h3 : (isDig (bt s a) || bt s a == 45) = false) (h4 : (bt s a == 44 || bt s a == 59 || bt s a == 40 || bt s a == 41) = false) :
  tokP s i = none := by
 unfold tokP; rw [h]; exact (if_neg h1).trans ((if_neg (by rw [h2]; decide)).trans ((if_neg (by rw [h3]; decide)).trans (if_neg (by rw [h4]; decide))))
/-- how next ends, and what it leaves -/
def NextEnd (g : Nat) (s : ByteArray) (i : Nat) (w : World) (e : Ending) (w' : World) : Prop :=
 match tokP s i with
 | some k => e = .returned (.tuple #[]) ∧ w'.heap[g]? = some (.cells (rdc s k.at_ k.end_ k.sort k.text k.val) 71 (0, 0)) ∧ Chg (· = g) w w'
 | none => e = failed (skipP s i) ∧ Chg (· = g) w w'
theorem nextEnd_some {g : Nat} {s : ByteArray} {i : Nat} {w w' : World} {e : Ending} {k : Tok} (h : tokP s i = some k) (he : e = .returned (.tuple #[])) (hb : w'.heap[g]? = some (.cells (rdc s k.at_ k.end_ k.sort k.text k.val) 71 (0, 0))) (hc : Chg (· = g) w w') : NextEnd g s i w e w' := by
 unfold NextEnd; rw [h]; exact ⟨he, hb, hc⟩
theorem nextEnd_none {g : Nat} {s : ByteArray} {i : Nat} {w w' : World} {e : Ending} (h : tokP s i = none) (he : e = failed (skipP s i)) (hc : Chg (· = g) w w') : NextEnd g s i w e w' := by
 unfold NextEnd; rw [h]; exact ⟨he, hc⟩
theorem next_fin {g : Nat} {s : ByteArray} {i : Nat} {w w' : World} (x y c v : Int) (hx : 0 ≤ x) (hy : 0 ≤ y) (h : tokP s i = some ⟨x.toNat, y.toNat, c, s.extract x.toNat y.toNat, v⟩)
  (hb : w'.heap[g]? = some (.cells (rdc s x y c (s.extract x.toNat y.toNat) v) 71 (0, 0))) (hc : Chg (· = g) w w') : NextEnd g s i w (.returned (.tuple #[])) w' :=
 nextEnd_some h rfl (by show w'.heap[g]? = some (Obj.cells (rdc s ((x.toNat : Nat) : Int) ((y.toNat : Nat) : Int) c (s.extract x.toNat y.toNat) v) 71 (0, 0)); rw [Int.toNat_of_nonneg hx, Int.toNat_of_nonneg hy]; exact hb) hc
theorem next_failed {g : Nat} {s : ByteArray} {i : Nat} {w w' : World} (x : Int) (hx : 0 ≤ x) (ha : skipP s i = x.toNat) (h : tokP s i = none) (hc : Chg (· = g) w w') : NextEnd g s i w (failed x) w' :=
 nextEnd_none h (by rw [ha, Int.toNat_of_nonneg hx]) hc
theorem str_beq (l : List UInt8) (B : ByteArray) : ((⟨l.toArray⟩ : ByteArray).toList == B.toList) = decide (l = B.data.toList) := by
 rw [Go.ByteArray.toList_eq, Go.ByteArray.toList_eq]
 by_cases h : l = B.data.toList
 ·rw [decide_eq_true h]; simp [h]
 ·rw [decide_eq_false h]; simpa using h
theorem numP_ok {t : List UInt8} {v : Int} (h : Lib.parseIntB 64 t = .ok v) (h2 : Lib.itoa v = t) : numP t = some v := by unfold numP; rw [h]; exact if_pos h2
theorem numP_ne {t : List UInt8} {v : Int} (h : Lib.parseIntB 64 t = .ok v) (h2 : ¬ Lib.itoa v = t) : numP t = none := by unfold numP; rw [h]; exact if_neg h2
theorem numP_bad {t : List UInt8} (h : ∀ v, Lib.parseIntB 64 t ≠ .ok v) : numP t = none := by
 unfold numP
 cases hp : Lib.parseIntB 64 t with
 | ok v => exact absurd hp (h v)
 | range => rfl
 | _ => rfl
/-- what the walk reads and writes of the reader's cells -/
theorem rd_facts {w : World} {g : Nat} {s : ByteArray} {a e c : Int} {t : ByteArray} {v : Int} (h : w.heap[g]? = some (.cells (rdc s a e c t v) 71 (0, 0))) :
  w.cell? ⟨g, 0, none⟩ = some (.string s) ∧ w.cell? ⟨g, 1, none⟩ = some (.int .i64 a) ∧ w.cell? ⟨g, 2, none⟩ = some (.int .i64 e) ∧ w.cell? ⟨g, 3, none⟩ = some (.int .u8 c) ∧ w.cell? ⟨g, 4, none⟩ = some (.string t) ∧ w.cell? ⟨g, 5, none⟩ = some (.int .i64 v) :=
 ⟨(blk_cell h 0).trans rfl, (blk_cell h 1).trans rfl, (blk_cell h 2).trans rfl, (blk_cell h 3).trans rfl, (blk_cell h 4).trans rfl, (blk_cell h 5).trans rfl⟩
theorem rd_free {w : World} {g : Nat} {s : ByteArray} {a e c : Int} {t : ByteArray} {v : Int} (h : w.heap[g]? = some (.cells (rdc s a e c t v) 71 (0, 0))) :
  w.frozen? ⟨g, 1, none⟩ = false ∧ w.frozen? ⟨g, 2, none⟩ = false ∧ w.frozen? ⟨g, 3, none⟩ = false ∧ w.frozen? ⟨g, 4, none⟩ = false ∧ w.frozen? ⟨g, 5, none⟩ = false :=
 ⟨blk_frozen h 1, blk_frozen h 2, blk_frozen h 3, blk_frozen h 4, blk_frozen h 5⟩
/-- strconv.ParseInt at base 10 -/
theorem pint_ok (s : ByteArray) (hs : s.size ≤ 600000) (v : Int) (h : Lib.parseIntB 64 s.data.toList = .ok v) (w : World) :
  Calls Tryd.prog 61 #[.string s, .int .i64 10, .int .i64 64] w fun e w' => e = .returned (.tuple #[.int .i64 v, .nilIface]) ∧ Below w.heap.size w w' := by
 refine (Tryd.strconv_ParseInt_10_at64_ok s (by omega) v h w).mono ?_
 rintro e w' ⟨rfl, h⟩
 refine ⟨rfl, ?_⟩
 rcases h with rfl | ⟨t, rfl⟩
 ·exact Below.refl _ _
 ·exact Lib.bytesWorld_below _ _ _
theorem pint_bad (s : ByteArray) (hs : s.size ≤ 600000) (w : World) (hE : Env w) (h : ∀ v, Lib.parseIntB 64 s.data.toList ≠ .ok v) :
  Calls Tryd.prog 61 #[.string s, .int .i64 10, .int .i64 64] w fun e w' => ∃ x t p, e = .returned (.tuple #[.int .i64 x, .iface t p]) ∧ Below w.heap.size w w' := by
 obtain ⟨t1, p1, h1⟩ := hE.syn
 obtain ⟨t2, p2, h2⟩ := hE.rng
 cases hp : Lib.parseIntB 64 s.data.toList with
 | ok v => exact absurd hp (h v)
 | range =>
  refine (Tryd.strconv_ParseInt_10_at64_range s (by omega) hp _ w h2 (.inr ⟨_, _, rfl⟩)).mono ?_
  rintro e w' ⟨N, rfl, _, _, hb⟩
  exact ⟨_, _, _, rfl, hb⟩
 | _ =>
  refine (Tryd.strconv_ParseInt_10_at64_syntax s (by omega) hp _ w h1 (.inr ⟨_, _, rfl⟩)).mono ?_
  rintro e w' ⟨N, rfl, _, _, hb⟩
  exact ⟨_, _, _, rfl, hb⟩
/-- strconv.FormatInt at base 10 -/
theorem fint_calls (v : Int) (h0 : -9223372036854775808 ≤ v) (h1 : v ≤ 9223372036854775807) (w : World) (hE : Env w) :
  Calls Tryd.prog 50 #[.int .i64 v, .int .i64 10] w fun e w' => e = .returned (.string ⟨(Lib.itoa v).toArray⟩) ∧ Below w.heap.size w w' := by
 refine (Tryd.strconv_FormatInt_10 v h0 h1 w hE.pow).mono ?_
 rintro e w' ⟨rfl, k, os, rfl⟩
 exact ⟨rfl, Lib.below_grow _ _ (Nat.le_refl _) _ _⟩
end Go.Proofs.YtlaijeeeblcinaaDoor.A
set_option linter.all false
set_option linter.unusedVariables false
set_option maxRecDepth 100000
namespace Go.Proofs.YtlaijeeeblcinaaDoor.A
open Go.RowKit Go.Proofs.YtlaijeeeblcinaaDoorW.PrintWords Go.Proofs.YtlaijeeeblcinaaDoorW.PrintLast Go.Proofs.YtlaijeeeblcinaaDoorW.PrintMore
set_option maxHeartbeats 8000000
theorem next_calls (g i : Nat) (s t : ByteArray) (a c v : Int) (w : World) (hR : w.heap[g]? = some (.cells (rdc s a i c t v) 71 (0, 0))) (hi : i ≤ s.size) (hs : s.size ≤ 600000) (hE : Env w) (hg : 8 ≤ g) :
  Calls Tryd.prog 35 #[.pointer (some ⟨g, 0, none⟩)] w fun e w' => NextEnd g s i w e w' := by
 have c0 : w.cell? ⟨g, 0, none⟩ = some (.string s) := (blk_cell hR 0).trans rfl
 have c2 : w.cell? ⟨g, 2, none⟩ = some (.int .i64 i) := (blk_cell hR 2).trans rfl
 have HR := Aside0.mk hR
 have HE := Aside0.mk hE
 have HI := Aside0.mk hi
 have HS := Aside0.mk hs
 clear hR hE hi hs
 go_enter Tryd.func35, Tryd.ntmps35
 go_wp2_with (fail)
 go_quiet (fail)
 go_wp2
 go_loopg [3] (s.size + 1) (fun kq v wr => ∃ x : Int, v = .int .i64 x ∧ Aside0 (0 ≤ x ∧ x ≤ (s.size : Int) ∧ skipP s x.toNat = skipP s i ∧ s.size - x.toNat < kq) ∧ Drawn0 w wr)
 case atStart => exact ⟨(i : Int), rfl, ⟨by omega, by have := HI.out; omega, rfl, by omega⟩, by repeat (first | exact Drawn0.refl _ | apply Drawn0.step)⟩
 case round =>
  obtain ⟨x, rfl, HX, HD⟩ := hrel
  have hR : wr.heap[g]? = some (.cells (rdc s a i c t v) 71 (0, 0)) := by
   obtain ⟨n, rfl⟩ := HD.out
   exact HR.out
  have e1 : wr.cell? ⟨g, 1, none⟩ = some (.int .i64 a) := (blk_cell hR 1).trans rfl
  have e2 : wr.cell? ⟨g, 2, none⟩ = some (.int .i64 i) := (blk_cell hR 2).trans rfl
  have e3 : wr.cell? ⟨g, 3, none⟩ = some (.int .u8 c) := (blk_cell hR 3).trans rfl
  have e4 : wr.cell? ⟨g, 4, none⟩ = some (.string t) := (blk_cell hR 4).trans rfl
  have e5 : wr.cell? ⟨g, 5, none⟩ = some (.int .i64 v) := (blk_cell hR 5).trans rfl
  have f1 : wr.frozen? ⟨g, 1, none⟩ = false := blk_frozen hR 1
  have f2 : wr.frozen? ⟨g, 2, none⟩ = false := blk_frozen hR 2
  have f3 : wr.frozen? ⟨g, 3, none⟩ = false := blk_frozen hR 3
  have f4 : wr.frozen? ⟨g, 4, none⟩ = false := blk_frozen hR 4
  have f5 : wr.frozen? ⟨g, 5, none⟩ = false := blk_frozen hR 5
  have HR2 := Aside0.mk hR
  clear hR
  cases gk with
  | zero => exact absurd HX.out.2.2.2 (Nat.not_lt_zero _)
  | succ k1 =>
   have hX := HX.out
   obtain ⟨x0, x1, x2, x3⟩ := hX
   have hbr := bt_range s x
   by_cases d1 : x < (s.size : Int)
   ·have d1b : decide (x < (s.size : Int)) = true := decide_eq_true d1
    have p := eq_true x0
    have q := eq_true d1
    have hx := bt_at s x
    have hx' : x.toNat < s.size := by omega
    have hs := HS.out
    cases d2 : (isBlk (bt s x) || bt s x == 35) with
    | true =>
     by_cases d3 : bt s x = 35
     ·have d3b : (bt s x != 35) = false := bne_eq_false_iff_eq.mpr d3
      have D3 := Aside0.mk d3
      clear d3
      go_wp2_with (go_at_call 58; refine (skipIdx_calls (bt s x) hbr _).mono ?_; rintro e w2 ⟨v2, rfl, rfl, hv2⟩; rw [d2] at hv2)
      clear p q hx
      go_loopg [3] (s.size + 1) (fun kq v wr2 => ∃ y : Int, v = .int .i64 y ∧ Aside0 (x ≤ y ∧ y ≤ (s.size : Int) ∧ lineEnd s y.toNat = lineEnd s x.toNat ∧ s.size - y.toNat < kq) ∧ Drawn0 w wr2)
      case atStart => exact ⟨x, rfl, ⟨by omega, by omega, rfl, by omega⟩, HD⟩
      case round =>
       obtain ⟨y, rfl, HY, HD2⟩ := hrel
       cases gk with
       | zero => exact absurd HY.out.2.2.2 (Nat.not_lt_zero _)
       | succ k3 =>
        have hY := HY.out
        obtain ⟨y0, y1, y2, y3⟩ := hY
        by_cases g1 : y < (s.size : Int)
        ·have g1b : decide (y < (s.size : Int)) = true := decide_eq_true g1
         have y00 : 0 ≤ y := by omega
         have p := eq_true y00
         have q := eq_true g1
         have hx := bt_at s y
         by_cases g2 : bt s y = 10
         ·have g2b : (bt s y != 10) = false := bne_eq_false_iff_eq.mpr g2
          have G2 := Aside0.mk g2
          clear g2
          go_wp2
          go_roundg k1
          case measure => omega
          case rel =>
           have le : lineEnd s y.toNat = y.toNat := endOf_stop (by rw [bt_nat]; exact g2b)
           have lx : skipP s x.toNat = skipP s (lineEnd s x.toNat) := skip_hash hx' (by rw [bt_nat]; exact D3.out)
           have lg := line_gt hx' (by rw [bt_nat]; exact D3.out)
           rw [← y2, le] at lx lg
           exact ⟨y, rfl, ⟨by omega, y1, lx.symm.trans x2, by omega⟩, by repeat (first | exact HD2 | apply Drawn0.step)⟩
         ·have g2b : (bt s y != 10) = true := bne_iff_ne.mpr g2
          go_wp2
          go_roundg k3
          case measure => omega
          case rel =>
           refine ⟨y + 1, by first | rfl | simp [*], ⟨by omega, by omega, ?_, by omega⟩, by repeat (first | exact HD2 | apply Drawn0.step)⟩
           rw [show (y + 1).toNat = y.toNat + 1 by omega, ← y2]
           exact (endOf_step (show y.toNat < s.size by omega) (by rw [bt_nat]; exact g2b)).symm
        ·have g1b : decide (y < (s.size : Int)) = false := decide_eq_false g1
         go_wp2
         go_roundg k1
         case measure => omega
         case rel =>
          have le : lineEnd s y.toNat = y.toNat := endOf_end (by omega)
          have lx : skipP s x.toNat = skipP s (lineEnd s x.toNat) := skip_hash hx' (by rw [bt_nat]; exact D3.out)
          have lg := line_gt hx' (by rw [bt_nat]; exact D3.out)
          rw [← y2, le] at lx lg
          exact ⟨y, rfl, ⟨by omega, y1, lx.symm.trans x2, by omega⟩, by repeat (first | exact HD2 | apply Drawn0.step)⟩
     ·have d3b : (bt s x != 35) = true := bne_iff_ne.mpr d3
      go_wp2_with (go_at_call 58; refine (skipIdx_calls (bt s x) hbr _).mono ?_; rintro e w2 ⟨v2, rfl, rfl, hv2⟩; rw [d2] at hv2)
      go_roundg k1
      case measure => omega
      case rel =>
       refine ⟨x + 1, by first | rfl | simp [*], ⟨by omega, by omega, ?_, by omega⟩, by repeat (first | exact HD | apply Drawn0.step)⟩
       rw [show (x + 1).toNat = x.toNat + 1 by omega, ← skip_blank hx' (by rw [bt_nat]; cases h : isBlk (bt s x) <;> simp_all)]
       exact x2
    | false =>
     have hblk : isBlk (bt s x) = false ∧ (bt s x == 35) = false := by
      cases h1 : isBlk (bt s x) <;> cases h2 : (bt s x == 35) <;> simp_all
     have d4b : (x == (s.size : Int)) = false := beq_eq_false_iff_ne.mpr (by omega)
     have ha : skipP s x.toNat = x.toNat := skip_stop (by rw [bt_nat]; exact hblk.1) (by rw [bt_nat]; simpa using hblk.2)
     have HA := Aside0.mk (x2.symm.trans ha)
     have HXN : Aside0 (x.toNat ≠ s.size) := ⟨by omega⟩
     have HBN := Aside0.mk (bt_nat s x)
     have hw1 : wrap64 (x + 1) = x + 1 := by unfold wrap64; omega
     have hx1 : (0 : Int) ≤ x + 1 := by omega
     clear ha hblk
     cases l1 : isLow (bt s x) with
     | true =>
      go_wp2_with (first | (go_at_call 58; refine (skipIdx_calls (bt s x) hbr _).mono ?_; rintro e w2 ⟨v2, rfl, rfl, hv2⟩; rw [d2] at hv2) | (go_at_call 59; refine (lower_calls (bt s x) _).mono ?_; rintro e w2 ⟨rfl, rfl⟩; try rw [l1]))
      clear p q hx e1 e2 e3 e4 e5 f1 f2 f3 f4 f5
      go_loopg [4] (s.size + 1) (fun kq v wr2 => ∃ y : Int, v = .int .i64 y ∧ Aside0 (x + 1 ≤ y ∧ y ≤ (s.size : Int) ∧ wordEnd s y.toNat = wordEnd s (x.toNat + 1) ∧ s.size - y.toNat < kq) ∧ Aside0 (wr2.heap[g]? = some (.cells (rdc s x x 0 ByteArray.empty 0) 71 (0, 0))) ∧ Aside0 (Chg (· = g) w wr2))
      case atStart => exact ⟨x + 1, by first | rfl | simp [*], ⟨by omega, by omega, by rw [show (x + 1).toNat = x.toNat + 1 by omega], by omega⟩, ⟨tokSet_blk HR2.out _ _ _ _ _⟩, ⟨tokSet_chg (Chg.of_drawn _ HD) _ _ _ _ _⟩⟩
      case round =>
       obtain ⟨y, rfl, HY, HB, HC⟩ := hrel
       cases gk with
       | zero => exact absurd HY.out.2.2.2 (Nat.not_lt_zero _)
       | succ k3 =>
        have hY := HY.out
        obtain ⟨y0, y1, y2, y3⟩ := hY
        have y00 : 0 ≤ y := by omega
        have hb2 := bt_range s y
        by_cases g1 : y < (s.size : Int)
        ·have g1b : decide (y < (s.size : Int)) = true := decide_eq_true g1
         have p := eq_true y00
         have q := eq_true g1
         have hx := bt_at s y
         cases m1 : isLow (bt s y) <;> cases m2 : isDig (bt s y)
         ·have le : wordEnd s y.toNat = y.toNat := endOf_stop (by rw [bt_nat, m1, m2]; rfl)
          have LE := Aside0.mk (y2.symm.trans le)
          clear le
          have hbk := HB.out
          obtain ⟨_, _, e2, e3, e4, e5⟩ := rd_facts hbk
          obtain ⟨_, f2, f3, f4, f5⟩ := rd_free hbk
          have hsb := rd_sort hbk (97)
          obtain ⟨_, _, e2', _, e4', _⟩ := rd_facts hsb
          obtain ⟨_, f2', _, f4', _⟩ := rd_free hsb
          have HSB := Aside0.mk hsb
          clear hbk hsb e2 e4 e5 f2 f4 f5
          have hxy : x ≤ y := by omega
          go_wp2_with (first | (go_at_call 59; refine (lower_calls (bt s y) _).mono ?_; rintro e w2 ⟨rfl, rfl⟩; try rw [m1]) | (go_at_call 60; refine (digit_calls (bt s y) _).mono ?_; rintro e w2 ⟨rfl, rfl⟩; try rw [m2]))
          go_region
          all_goals
           go_end0
           exact next_fin x y 97 0 x0 y00 ((tok_low HA.out HXN.out (by rw [HBN.out]; exact l1)).trans (by rw [LE.out])) (blk_drew (rd_end HSB.out _ _)) (((HC.out.setCell rfl _).setCell rfl _).setCell rfl _).drew
         all_goals
          go_wp2_with (first | (go_at_call 59; refine (lower_calls (bt s y) _).mono ?_; rintro e w2 ⟨rfl, rfl⟩; try rw [m1]) | (go_at_call 60; refine (digit_calls (bt s y) _).mono ?_; rintro e w2 ⟨rfl, rfl⟩; try rw [m2]))
          go_roundg k3
          case measure => omega
          case rel =>
           refine ⟨y + 1, by first | rfl | simp [*], ⟨by omega, by omega, ?_, by omega⟩, HB, HC⟩
           rw [show (y + 1).toNat = y.toNat + 1 by omega, ← y2]
           exact (endOf_step (show y.toNat < s.size by omega) (by rw [bt_nat, m1, m2]; rfl)).symm
        ·have g1b : decide (y < (s.size : Int)) = false := decide_eq_false g1
         have le : wordEnd s y.toNat = y.toNat := endOf_end (by omega)
         have LE := Aside0.mk (y2.symm.trans le)
         clear le
         have y1' := eq_true y1
         have hbk := HB.out
         obtain ⟨_, _, e2, e3, e4, e5⟩ := rd_facts hbk
         obtain ⟨_, f2, f3, f4, f5⟩ := rd_free hbk
         have hsb := rd_sort hbk (97)
         obtain ⟨_, _, e2', _, e4', _⟩ := rd_facts hsb
         obtain ⟨_, f2', _, f4', _⟩ := rd_free hsb
         have HSB := Aside0.mk hsb
         clear hbk hsb e2 e4 e5 f2 f4 f5
         have hxy : x ≤ y := by omega
         go_wp2
         go_region
         all_goals
          go_end0
          exact next_fin x y 97 0 x0 y00 ((tok_low HA.out HXN.out (by rw [HBN.out]; exact l1)).trans (by rw [LE.out])) (blk_drew (rd_end HSB.out _ _)) (((HC.out.setCell rfl _).setCell rfl _).setCell rfl _).drew
     | false =>
      by_cases l2c : (isDig (bt s x) || bt s x == 45) = true
      ·have L2C := Aside0.mk l2c
       clear l2c
       go_upto_region 15 with (first | (go_at_call 58; refine (skipIdx_calls (bt s x) hbr _).mono ?_; rintro e w2 ⟨v2, rfl, rfl, hv2⟩; rw [d2] at hv2) | (go_at_call 59; refine (lower_calls (bt s x) _).mono ?_; rintro e w2 ⟨rfl, rfl⟩; try rw [l1]))
       (try simp only [Act.put, List.setIfInBounds_toArray, List.set_cons_zero, List.set_cons_succ])
       go_cut [88] (fun v88 wc => v88 = .bool true ∧ Aside0 (wc.heap[g]? = some (.cells (rdc s x x 0 ByteArray.empty 0) 71 (0, 0))) ∧ Aside0 (Chg (· = g) w wc))
       case first =>
        cases l2 : isDig (bt s x) <;> cases l3 : (bt s x == 45)
        ·exact absurd L2C.out (by rw [l2, l3]; decide)
        all_goals
         go_wp2_with (first | (go_at_call 58; refine (skipIdx_calls (bt s x) hbr _).mono ?_; rintro e w2 ⟨v2, rfl, rfl, hv2⟩; rw [d2] at hv2) | (go_at_call 59; refine (lower_calls (bt s x) _).mono ?_; rintro e w2 ⟨rfl, rfl⟩; try rw [l1]) | (go_at_call 60; refine (digit_calls (bt s x) _).mono ?_; rintro e w2 ⟨rfl, rfl⟩; try rw [l2]))
         go_meet
         case rel => exact ⟨rfl, ⟨tokSet_blk HR2.out _ _ _ _ _⟩, ⟨tokSet_chg (Chg.of_drawn _ HD) _ _ _ _ _⟩⟩
       case rest =>
        obtain ⟨rfl, HB, HC⟩ := hcut
        clear p q hx e1 e2 e3 e4 e5 f1 f2 f3 f4 f5
        go_wp2_with (fail)
        go_loopg [4] (s.size + 1) (fun kq v wr2 => ∃ y : Int, v = .int .i64 y ∧ Aside0 (x + 1 ≤ y ∧ y ≤ (s.size : Int) ∧ digEnd s y.toNat = digEnd s (x.toNat + 1) ∧ s.size - y.toNat < kq) ∧ Aside0 (wr2.heap[g]? = some (.cells (rdc s x x 0 ByteArray.empty 0) 71 (0, 0))) ∧ Aside0 (Chg (· = g) w wr2))
        case atStart => exact ⟨x + 1, by first | rfl | simp [*], ⟨by omega, by omega, by rw [show (x + 1).toNat = x.toNat + 1 by omega], by omega⟩, HB, HC⟩
        case round =>
         clear HB HC
         obtain ⟨y, rfl, HY, HB, HC⟩ := hrel
         cases gk with
         | zero => exact absurd HY.out.2.2.2 (Nat.not_lt_zero _)
         | succ k3 =>
          have hY := HY.out
          obtain ⟨y0, y1, y2, y3⟩ := hY
          have y00 : 0 ≤ y := by omega
          have hb2 := bt_range s y
          go_upto_region 16 with (fail)
          (try simp only [Act.put, List.setIfInBounds_toArray, List.set_cons_zero, List.set_cons_succ])
          go_cut [104] (fun v wc => v = .bool (decide (y < (s.size : Int)) && isDig (bt s y)) ∧ Aside0 (wc.heap[g]? = some (.cells (rdc s x x 0 ByteArray.empty 0) 71 (0, 0))) ∧ Aside0 (Chg (· = g) w wc))
          case first =>
           by_cases g1 : y < (s.size : Int)
           ·have g1b : decide (y < (s.size : Int)) = true := decide_eq_true g1
            have p := eq_true y00
            have q := eq_true g1
            have hx := bt_at s y
            cases m2 : isDig (bt s y)
            all_goals
             go_wp2_with ((go_at_call 60; refine (digit_calls (bt s y) _).mono ?_; rintro e w2 ⟨rfl, rfl⟩; try rw [m2]))
             go_meet
             case rel => exact ⟨by first | (rw [g1b]; rfl) | (rw [g1b, m2]; rfl), HB, HC⟩
           ·have g1b : decide (y < (s.size : Int)) = false := decide_eq_false g1
            go_wp2
            go_meet
            case rel => exact ⟨by first | (rw [g1b]; rfl) | (rw [g1b, m2]; rfl), HB, HC⟩
          case rest =>
           clear HB HC
           obtain ⟨rfl, HB, HC⟩ := hcut
           cases m3 : (decide (y < (s.size : Int)) && isDig (bt s y)) with
           | true =>
            have m3' := Aside0.mk m3
            go_wp2
            go_roundg k3
            case measure => omega
            case rel =>
             have m4 : y < (s.size : Int) ∧ isDig (bt s y) = true := by simpa using m3'.out
             refine ⟨y + 1, by first | rfl | simp [*], ⟨by omega, by omega, ?_, by omega⟩, HB, HC⟩
             rw [show (y + 1).toNat = y.toNat + 1 by omega, ← y2]
             exact (endOf_step (show y.toNat < s.size by omega) (by rw [bt_nat]; exact m4.2)).symm
           | false =>
            have le : digEnd s y.toNat = y.toNat := by
             by_cases g1 : y < (s.size : Int)
             ·exact endOf_stop (by rw [bt_nat]; simpa [g1] using m3)
             ·exact endOf_end (by omega)
            have LE := Aside0.mk (y2.symm.trans le)
            have hw : wrap64 (y + 1) = y + 1 := by have := HS.out; unfold wrap64; omega
            clear le
            have hxy : x ≤ y := by omega
            have y1' := eq_true y1
            have hsz : (s.extract x.toNat y.toNat).size ≤ 600000 := by rw [ByteArray.size_extract]; have := HS.out; omega
            have HTN := Aside0.mk (tok_num HA.out HXN.out (by rw [HBN.out]; exact l1) (by rw [HBN.out]; exact L2C.out))
            rw [LE.out] at HTN
            cases hp : (Lib.parseIntB 64 (s.extract x.toNat y.toNat).data.toList) with
            | ok v9 =>
             have hbd := Lib.parseIntB_bounds hp
             have hv0 : -9223372036854775808 ≤ v9 := by have := hbd.1; simpa using this
             have hv1 : v9 ≤ 9223372036854775807 := by have := hbd.2; have e : ((2 ^ (64 - 1) : Nat) : Int) = 9223372036854775808 := (by decide +kernel); rw [e] at this; omega
             have HP := Aside0.mk hp
             clear hbd hp
             go_wp2_with (go_at_call 61; refine (pint_ok _ hsz v9 HP.out _).mono ?_; rintro e w5 ⟨rfl, hb5⟩)
             have HB5 := Aside0.mk (blk_below HB.out hb5)
             have HC5 := Aside0.mk (HC.out.trans (Chg.of_below hb5))
             have HE5 := Aside0.mk (HE.out.chg HC5.out (fun k hk e => by omega))
             have hca : ∃ A : ByteArray, A = ⟨(Lib.itoa v9).toArray⟩ ∧ ∀ W, Env W → Calls Tryd.prog 50 #[.int .i64 v9, .int .i64 10] W fun e w' => e = .returned (.string A) ∧ Below W.heap.size W w' := ⟨_, rfl, fun W hE => fint_calls v9 hv0 hv1 W hE⟩
             obtain ⟨A, hA, HF⟩ := hca
             have HAA := Aside0.mk hA
             have HFF := Aside0.mk HF
             clear hb5 hA HF hv0 hv1
             cases hq : (A.toList == (s.extract x.toNat y.toNat).toList)
             all_goals
              have HQ := Aside0.mk hq
              go_region_held3 (fun w' => Env w') (first | assumption | exact HE5.out | exact HE5.out.below (by repeat (first | exact Below.refl _ _ | apply below_drew1 | apply pw_below_drewN)) HE5.out.big) (first | (go_at_call 50; refine (HFF.out _ (by first | assumption | exact HE5.out | exact HE5.out.below (by repeat (first | exact Below.refl _ _ | apply below_drew1 | apply pw_below_drewN)) HE5.out.big)).mono ?_; rintro e w6 ⟨rfl, hb6⟩; have hz1 : w6.heap[g]? = some (.cells (rdc s x x 0 ByteArray.empty 0) 71 (0, 0)) := (by first | exact blk_below HB5.out hb6 | exact blk_below (blk_drew HB5.out) hb6); have HB6 := Aside0.mk hz1; have hz2 : Chg (· = g) w w6 := (by first | exact HC5.out.trans (Chg.of_below hb6) | exact HC5.out.drew.trans (Chg.of_below hb6)); have HC6 := Aside0.mk hz2; have HE6 := HE.out.chg HC6.out (fun k hk e => by omega); clear hb6 hz1 hz2))
             ·-- not canonical: fail
              go_wp2_with (go_at_call 39; refine (fail_calls (a := x) (by first | exact HB6.out | exact blk_drew HB6.out)).mono ?_; rintro e w7 ⟨rfl, rfl⟩)
              all_goals
               have hn : ¬ Lib.itoa v9 = (s.extract x.toNat y.toNat).data.toList := by have := HQ.out; rw [HAA.out, str_beq] at this; simpa using this
               exact ⟨rfl, next_failed x x0 HA.out (by rw [HTN.out, numP_ne HP.out hn]) (by first | exact HC6.out | exact HC6.out.drew)⟩
             ·have hn : Lib.itoa v9 = (s.extract x.toNat y.toNat).data.toList := by have := HQ.out; rw [HAA.out, str_beq] at this; simpa using this
              have HN := Aside0.mk hn
              have hb6 := HB6.out
              have hb7 := rd_val (rd_sort hb6 48) v9
              obtain ⟨_, e1, e2, e3, e4, e5⟩ := rd_facts hb6
              obtain ⟨f1, f2, f3, f4, f5⟩ := rd_free hb6
              obtain ⟨_, _, q2, _, q4, _⟩ := rd_facts hb7
              obtain ⟨_, r2, _, r4, _⟩ := rd_free hb7
              have HB7 := Aside0.mk hb7
              clear hb6 hb7 hn
              go_wp2_with (fail)
              go_region
              all_goals
               go_end0
               exact next_fin x y 48 v9 x0 y00 (by rw [HTN.out, numP_ok HP.out HN.out]) (blk_drew (rd_end HB7.out _ _)) (((((HC6.out.setCell (a := ⟨g, 3, none⟩) rfl _).setCell (a := ⟨g, 5, none⟩) rfl _).setCell (a := ⟨g, 2, none⟩) rfl _).setCell (a := ⟨g, 4, none⟩) rfl _).drew)
            | range =>
             have hpb : ∀ v, Lib.parseIntB 64 (s.extract x.toNat y.toNat).data.toList ≠ .ok v := fun v e => by rw [hp] at e; cases e
             have HPB := Aside0.mk hpb
             have HE4 := Aside0.mk (HE.out.chg HC.out (fun k hk e => by omega))
             clear hpb hp
             go_wp2_with (go_at_call 61; refine (pint_bad _ hsz _ HE4.out HPB.out).mono ?_; rintro e w5 ⟨xb, tb, pb, rfl, hb5⟩)
             have HB5 := Aside0.mk (blk_below HB.out hb5)
             have HC5 := Aside0.mk (HC.out.trans (Chg.of_below hb5))
             clear hb5
             go_quiet (fail)
             go_wp2_with (go_at_call 39; refine (fail_calls (a := x) (by first | exact HB5.out | exact blk_drew HB5.out | exact blk_drewN HB5.out _)).mono ?_; rintro e w7 ⟨rfl, rfl⟩)
             all_goals exact ⟨rfl, next_failed x x0 HA.out (by rw [HTN.out, numP_bad HPB.out]) (by first | exact HC5.out | exact HC5.out.drew | exact HC5.out.drewN _)⟩
            | _ =>
             have hpb : ∀ v, Lib.parseIntB 64 (s.extract x.toNat y.toNat).data.toList ≠ .ok v := fun v e => by rw [hp] at e; cases e
             have HPB := Aside0.mk hpb
             have HE4 := Aside0.mk (HE.out.chg HC.out (fun k hk e => by omega))
             clear hpb hp
             go_wp2_with (go_at_call 61; refine (pint_bad _ hsz _ HE4.out HPB.out).mono ?_; rintro e w5 ⟨xb, tb, pb, rfl, hb5⟩)
             have HB5 := Aside0.mk (blk_below HB.out hb5)
             have HC5 := Aside0.mk (HC.out.trans (Chg.of_below hb5))
             clear hb5
             go_quiet (fail)
             go_wp2_with (go_at_call 39; refine (fail_calls (a := x) (by first | exact HB5.out | exact blk_drew HB5.out | exact blk_drewN HB5.out _)).mono ?_; rintro e w7 ⟨rfl, rfl⟩)
             all_goals exact ⟨rfl, next_failed x x0 HA.out (by rw [HTN.out, numP_bad HPB.out]) (by first | exact HC5.out | exact HC5.out.drew | exact HC5.out.drewN _)⟩
      ·have l2c' : (isDig (bt s x) || bt s x == 45) = false := by simpa using l2c
       have L2C := Aside0.mk l2c'
       have l2 : isDig (bt s x) = false := by cases h : isDig (bt s x) <;> simp_all
       have l3 : (bt s x == 45) = false := by cases h : (bt s x == 45) <;> simp_all
       clear l2c l2c'
       cases l4 : (bt s x == 44 || bt s x == 59 || bt s x == 40 || bt s x == 41)
       ·go_wp2_with (first | (go_at_call 39; refine (fail_calls (a := x) (tokSet_blk HR2.out x x 0 ByteArray.empty 0)).mono ?_; rintro e w3 ⟨rfl, rfl⟩) | (go_at_call 58; refine (signIdx_calls (bt s x) hbr _).mono ?_; rintro e w2 ⟨v3, rfl, rfl, hv3⟩; rw [l4] at hv3) | (go_at_call 58; refine (skipIdx_calls (bt s x) hbr _).mono ?_; rintro e w2 ⟨v2, rfl, rfl, hv2⟩; rw [d2] at hv2) | (go_at_call 59; refine (lower_calls (bt s x) _).mono ?_; rintro e w2 ⟨rfl, rfl⟩; try rw [l1]) | (go_at_call 60; refine (digit_calls (bt s x) _).mono ?_; rintro e w2 ⟨rfl, rfl⟩; try rw [l2]))
        exact ⟨rfl, next_failed x x0 HA.out (tok_bad HA.out HXN.out (by rw [HBN.out]; exact l1) (by rw [HBN.out]; exact L2C.out) (by rw [HBN.out]; exact l4)) (tokSet_chg (Chg.of_drawn _ HD) _ _ _ _ _)⟩
       ·go_wp2_with (first | (go_at_call 58; refine (signIdx_calls (bt s x) hbr _).mono ?_; rintro e w2 ⟨v3, rfl, rfl, hv3⟩; rw [l4] at hv3) | (go_at_call 58; refine (skipIdx_calls (bt s x) hbr _).mono ?_; rintro e w2 ⟨v2, rfl, rfl, hv2⟩; rw [d2] at hv2) | (go_at_call 59; refine (lower_calls (bt s x) _).mono ?_; rintro e w2 ⟨rfl, rfl⟩; try rw [l1]) | (go_at_call 60; refine (digit_calls (bt s x) _).mono ?_; rintro e w2 ⟨rfl, rfl⟩; try rw [l2]))
        have hW : ∃ W3, W3 = ((((((w2.setCell ⟨g, 1, none⟩ (.int .i64 x)).setCell ⟨g, 2, none⟩ (.int .i64 x)).setCell ⟨g, 3, none⟩ (.int .u8 0)).setCell ⟨g, 4, none⟩ (.string ⟨#[]⟩)).setCell ⟨g, 5, none⟩ (.int .i64 0)).setCell ⟨g, 3, none⟩ (.int .u8 (bt s x))) ∧ W3.heap[g]? = some (.cells (rdc s x x (bt s x) ByteArray.empty 0) 71 (0, 0)) ∧ Chg (· = g) w W3 :=
         ⟨_, rfl, rd_sort (tokSet_blk HR2.out x x 0 ByteArray.empty 0) (bt s x), (tokSet_chg (g := g) (Chg.of_drawn _ HD) _ _ _ _ _).setCell (a := ⟨g, 3, none⟩) rfl _⟩
        obtain ⟨W3, eW, hb3, hc3⟩ := hW
        rw [← eW]
        obtain ⟨_, _, q2, _, q4, _⟩ := rd_facts hb3
        obtain ⟨_, r2, _, r4, _⟩ := rd_free hb3
        have HB3 := Aside0.mk hb3
        have HC3 := Aside0.mk hc3
        have hx2 : x + 1 ≤ (s.size : Int) := by omega
        have hx3 : x ≤ x + 1 := by omega
        clear e1 e2 e3 e4 e5 f1 f2 f3 f4 f5 hb3 hc3 eW p q hx
        go_region
        all_goals
         go_end0
         exact next_fin x (x + 1) (bt s x) 0 x0 hx1 ((tok_sign HA.out HXN.out (by rw [HBN.out]; exact l1) (by rw [HBN.out]; exact L2C.out) (by rw [HBN.out]; exact l4)).trans (by rw [HBN.out, show (x + 1).toNat = x.toNat + 1 by omega])) (blk_drew (rd_end HB3.out _ _)) ((HC3.out.setCell rfl _).setCell rfl _).drew
   ·have d1b : decide (x < (s.size : Int)) = false := decide_eq_false d1
    have hxe : x = (s.size : Int) := by omega
    have d4b : (x == (s.size : Int)) = true := beq_iff_eq.mpr hxe
    go_wp2
    refine bodyPost_ret (results_none rfl _ _ _) rfl ?_
    exact nextEnd_some (tok_end (x2.symm.trans ((skip_end (by omega)).trans (by omega)))) rfl (tokSet_blk HR2.out _ _ _ _ _) (tokSet_chg (Chg.of_drawn _ HD) _ _ _ _ _)
end Go.Proofs.YtlaijeeeblcinaaDoor.A
