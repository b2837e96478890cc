/- target.named: the line of a word. -/
import Derived.Test.YtlaijeeeblcinaaDoorTgtFind
import Derived.Test.YtlaijeeeblcinaaDoorAx1
import Derived.Deep.RegionHeld3
import Derived.Deep.QuietTactic
import Derived.BigQuiet
set_option linter.all false
set_option linter.unusedVariables false
set_option linter.unusedSimpArgs false
set_option maxRecDepth 100000
namespace Go.Proofs.YtlaijeeeblcinaaDoor.A
open Go.RowKit Go.Proofs.YtlaijeeeblcinaaDoorW.PrintWords Go.Proofs.YtlaijeeeblcinaaDoorW.PrintLast Go.Proofs.YtlaijeeeblcinaaDoorW.PrintMore
set_option maxHeartbeats 8000000
/-- the first row with a word, of n from i on -/
def rowFrom (s : ByteArray) : Nat → Nat → Option Nat
 | 0, _ => none
 | n + 1, i => if (trowAt i).2.1.toList = s.toList then some i else rowFrom s n (i + 1)
/-- the place of a word among those of the operations -/
def idxFrom (s : ByteArray) : Nat → Nat → Int
 | 0, _ => -1
 | n + 1, i => if s.toList = (opAt i).toList then i else idxFrom s n (i + 1)
def opIdx (s : ByteArray) : Int := idxFrom s 14 0
def trimI (s : ByteArray) : ByteArray := if 1 ≤ s.size ∧ (s.extract (s.size - 1) s.size).toList = [105] then s.extract 0 (s.size - 1) else s
def namedP (s : ByteArray) : Row20 × Bool :=
 match rowFrom s 14 0 with
 | some i => (((i : Int) + 1, (trowAt i).2), true)
 | none =>
  if 0 ≤ opIdx s then ((16 + opIdx s, opAt (opIdx s).toNat, true, true, true, 0), true)
  else if 0 ≤ opIdx (trimI s) then ((36 + opIdx (trimI s), opAt (opIdx (trimI s)).toNat ++ ⟨#[105]⟩, true, true, false, 1), true)
  else ((0, ByteArray.empty, false, false, false, 0), false)
theorem idxFrom_lt (s : ByteArray) : ∀ n i : Nat, idxFrom s n i < (i : Int) + n ∨ idxFrom s n i = -1 := by
 intro n
 induction n with
 | zero => intro i; exact .inr rfl
 | succ n ih =>
  intro i
  unfold idxFrom
  split
  ·left; omega
  ·rcases ih (i + 1) with h | h
   ·left; omega
   ·exact .inr h
theorem opIdx_lt (s : ByteArray) : opIdx s < 14 := by
 unfold opIdx
 rcases idxFrom_lt s 14 0 with h | h <;> omega
theorem opWords_len : opWords.length = 14 := by rfl
theorem rdOf_op (i : Nat) : rdOf ByteArray.empty opWords (i : Int) = opAt i := by
 unfold rdOf opAt; simp
theorem index_eq (s : ByteArray) : slices_Index_string_string.f 20 opWords s = some (opIdx s) := by
 have : ∀ n i k : Nat, i + n = 14 → n < k → slices_Index_string_string.l0 k opWords s 14 (i : Int) = some (idxFrom s n i) := by
  intro n
  induction n with
  | zero =>
   intro i k h hk
   obtain ⟨k, rfl⟩ : ∃ m, k = m + 1 := ⟨k - 1, by omega⟩
   obtain rfl : i = 14 := by omega
   simp only [slices_Index_string_string.l0]
   rw [if_neg (by omega)]; rfl
  | succ n ih =>
   intro i k h hk
   obtain ⟨k, rfl⟩ : ∃ m, k = m + 1 := ⟨k - 1, by omega⟩
   simp only [slices_Index_string_string.l0]
   rw [if_pos (by omega), if_pos (by omega), if_pos (by rw [opWords_len]; omega), rdOf_op]
   unfold idxFrom
   by_cases c : s.toList = (opAt i).toList
   ·rw [if_pos c, if_pos c]
   ·rw [if_neg c, if_neg c]
    have hw : wrap64 ((i : Int) + 1) = ((i + 1 : Nat) : Int) := by unfold wrap64; omega
    rw [hw]
    exact ih (i + 1) k (by omega) (by omega)
 exact this 14 0 20 rfl (by omega)
theorem bin_C {w : World} (hT : Tab w) : Kd.C Kd.string w (some ⟨1, 0, none⟩) opWords.length opWords := by
 obtain ⟨_, fr, h⟩ := hT
 refine ⟨rfl, by rw [opWords_len]; omega, fun _ => ⟨_, rfl, fun j p hj => ?_⟩⟩
 have hl : j < 14 := by have := (List.getElem?_eq_some_iff.1 hj).1; rw [opWords_len] at this; exact this
 refine ⟨[.string p], rfl, rfl, fun i u hu => ?_⟩
 have hi : i = 0 := by cases i with | zero => rfl | succ i => simp at hu
 subst hi
 simp at hu
 subst hu
 have hc : operationsCells[j]? = some (.string p) := by
  have hp : p = opWords.getD j ByteArray.empty := by simp [List.getD_eq_getElem?_getD, hj]
  have : ∀ j : Nat, j < 14 → operationsCells[j]? = some (.string (opWords.getD j ByteArray.empty)) := by
   intro j hj
   rcases j with _|_|_|_|_|_|_|_|_|_|_|_|_|_|j <;> first | rfl | omega
  rw [this j hl, hp]
 have ha : ((⟨1, 0, none⟩ : Addr).add (j * Kd.string.sz + 0)) = ⟨1, j, none⟩ := by
  have : Kd.string.sz = 1 := rfl
  rw [this]; simp [Addr.add]; omega
 rw [ha]
 simp only [World.cell?, h]
 simpa using hc
theorem trim_eq (s : ByteArray) (hs : s.size ≤ 600000) : strings_TrimSuffix.f s ⟨#[105]⟩ = some (trimI s) := by
 have h1 : (⟨#[105]⟩ : ByteArray).size = 1 := rfl
 unfold strings_TrimSuffix.f stringslite_TrimSuffix.f stringslite_HasSuffix.f
 rw [h1]
 have h2 : (⟨#[105]⟩ : ByteArray).toList = [105] := by rw [Go.ByteArray.toList_eq]
 rw [h2]
 by_cases c : 1 ≤ s.size
 ·have hw : wrap64 ((s.size : Int) - ((1 : Nat) : Int)) = ((s.size - 1 : Nat) : Int) := by unfold wrap64; omega
  have e1 : ((s.size : Int) ≥ ((1 : Nat) : Int)) = True := eq_true (by omega)
  have e2 : (0 ≤ ((s.size - 1 : Nat) : Int)) = True := eq_true (by omega)
  have e3 : (((s.size - 1 : Nat) : Int) ≤ (s.size : Int)) = True := eq_true (by omega)
  simp only [hw, e1, e2, e3, if_true, Option.bind_some, Int.toNat_natCast]
  unfold trimI
  by_cases c2 : (s.extract (s.size - 1) s.size).toList = [105]
  ·have c3 : ((s.extract (s.size - 1) s.size).toList == [105]) = true := beq_iff_eq.mpr c2
   simp [c3, c, c2]
  ·have c3 : ((s.extract (s.size - 1) s.size).toList == [105]) = false := beq_eq_false_iff_ne.mpr c2
   simp [c3, c, c2]
 ·have e1 : ((s.size : Int) ≥ ((1 : Nat) : Int)) = False := eq_false (by omega)
  simp only [e1, if_false, Option.bind_some]
  unfold trimI
  simp [c]
theorem rw_facts {w : World} {b : Nat} {x0 x5 : Int} {x1 : ByteArray} {x2 x3 x4 : Bool} (h : w.heap[b]? = some (.cells #[.int .i64 x0, .string x1, .bool x2, .bool x3, .bool x4, .int .i64 x5] 50 (0, 0))) :
  w.cell? ⟨b, 0, none⟩ = some (.int .i64 x0) ∧ w.cell? ⟨b, 1, none⟩ = some (.string x1) ∧ w.cell? ⟨b, 2, none⟩ = some (.bool x2) ∧ w.cell? ⟨b, 3, none⟩ = some (.bool x3) ∧ w.cell? ⟨b, 4, none⟩ = some (.bool x4) ∧ w.cell? ⟨b, 5, none⟩ = some (.int .i64 x5) :=
 ⟨(blk_cell h 0).trans rfl, (blk_cell h 1).trans rfl, (blk_cell h 2).trans rfl, (blk_cell h 3).trans rfl, (blk_cell h 4).trans rfl, (blk_cell h 5).trans rfl⟩
theorem rw_free {w : World} {b : Nat} {cs : Array Value} (h : w.heap[b]? = some (.cells cs 50 (0, 0))) :
  w.frozen? ⟨b, 0, none⟩ = false ∧ w.frozen? ⟨b, 1, none⟩ = false ∧ w.frozen? ⟨b, 2, none⟩ = false ∧ w.frozen? ⟨b, 3, none⟩ = false ∧ w.frozen? ⟨b, 4, none⟩ = false ∧ w.frozen? ⟨b, 5, none⟩ = false :=
 ⟨blk_frozen h 0, blk_frozen h 1, blk_frozen h 2, blk_frozen h 3, blk_frozen h 4, blk_frozen h 5⟩
def rowSet (w : World) (b : Nat) (x : Row20) : World := (((((w.setCell ⟨b, 0, none⟩ (.int .i64 x.1)).setCell ⟨b, 1, none⟩ (.string x.2.1)).setCell ⟨b, 2, none⟩ (.bool x.2.2.1)).setCell ⟨b, 3, none⟩ (.bool x.2.2.2.1)).setCell ⟨b, 4, none⟩ (.bool x.2.2.2.2.1)).setCell ⟨b, 5, none⟩ (.int .i64 x.2.2.2.2.2)
theorem rowSet_blk {w : World} {b : Nat} {x0 x5 : Int} {x1 : ByteArray} {x2 x3 x4 : Bool} (h : w.heap[b]? = some (.cells #[.int .i64 x0, .string x1, .bool x2, .bool x3, .bool x4, .int .i64 x5] 50 (0, 0))) (x : Row20) :
  (rowSet w b x).heap[b]? = some (.cells #[.int .i64 x.1, .string x.2.1, .bool x.2.2.1, .bool x.2.2.2.1, .bool x.2.2.2.2.1, .int .i64 x.2.2.2.2.2] 50 (0, 0)) :=
 (blk_set (blk_set (blk_set (blk_set (blk_set (blk_set h 0 _) 1 _) 2 _) 3 _) 4 _) 5 _).trans rfl
theorem rowSet_below {w w1 : World} {b : Nat} (h : Below w.heap.size w w1) (hb : w.heap.size ≤ b) (x : Row20) : Below w.heap.size w (rowSet w1 b x) :=
 below_set (below_set (below_set (below_set (below_set (below_set h hb) hb) hb) hb) hb) hb
theorem sz50 : (Tryd.prog.info? 50).map (·.size) = some 6 := by kernel_rfl
def rowv (x : Row20) : Value := .agg #[.int .i64 x.1, .string x.2.1, .bool x.2.2.1, .bool x.2.2.2.1, .bool x.2.2.2.2.1, .int .i64 x.2.2.2.2.2]
theorem trim_q (s : ByteArray) (hs : s.size ≤ 600000) (w : World) : Calls Tryd.prog 63 #[.string s, .string ⟨#[105]⟩] w fun e w' => e = .returned (.string (trimI s)) ∧ ∃ m, w' = w.drewN m :=
 (strings_TrimSuffix.calls s _ _ w (trim_eq s hs)).mono fun _ _ ⟨he, hd⟩ => ⟨he, hd.out⟩
theorem idx_q (s : ByteArray) (w : World) (hT : Tab w) : Calls Tryd.prog 62 #[.slice (some ⟨1, 0, none⟩) 14 14, .string s] w fun e w' => e = .returned (.int .i64 (opIdx s)) ∧ ∃ m, w' = w.drewN m :=
 (slices_Index_string_string.calls 20 (some ⟨1, 0, none⟩) 14 opWords s _ w (bin_C hT) (by rw [opWords_len]; exact Nat.le_refl _) (index_eq s)).mono fun _ _ ⟨he, hd⟩ => ⟨he, hd.out⟩
theorem Tab.drewN {w : World} (h : Tab w) (n : Nat) : Tab (w.drewN n) := h.below (pw_below_drewN (Below.refl _ _) n)
theorem find_op (x : Int) (h0 : 0 ≤ x) (h1 : x < 14) : cupelref20_find.f (16 + x) = some (16 + x, opAt x.toNat, true, true, true, 0, true) := by
 have := find_bin x.toNat (by omega)
 rw [show ((x.toNat : Nat) : Int) = x by omega] at this
 exact this
theorem find_opi (x : Int) (h0 : 0 ≤ x) (h1 : x < 14) : cupelref20_find.f (36 + x) = some (36 + x, opAt x.toNat ++ ⟨#[105]⟩, true, true, false, 1, true) := by
 have := find_bini x.toNat (by omega)
 rw [show ((x.toNat : Nat) : Int) = x by omega] at this
 exact this
theorem named_calls (s : ByteArray) (hs : s.size ≤ 600000) (w : World) (hT : Tab w) :
  Calls Tryd.prog 38 #[.string s] w fun e w' => e = .returned (.tuple #[rowv (namedP s).1, .bool (namedP s).2]) ∧ Below w.heap.size w w' := by
 obtain ⟨R, hR⟩ : ∃ R, R = namedP s := ⟨_, rfl⟩
 rw [← hR]
 have HR0 := Aside0.mk hR
 clear hR
 have HT := Aside0.mk hT
 have HS := Aside0.mk hs
 obtain ⟨⟨fr, hT⟩, fr2, hT2⟩ := hT
 have hall := Aside0.mk tab_at
 have hi1 := info124
 clear hs hT2
 generalize tableCells = TC at hT hall hi1
 go_enter Tryd.func38, Tryd.ntmps38
 go_wp2_with (refine wpList_load_row rfl 97 _ rfl 0 rfl 97 TC fr _ (blk_alloc hT _) Tryd.underlying97 rfl hi1 ?_)
 clear hT hi1
 go_loopg [9] 14 (fun kq v9 w' => ∃ i : Nat, v9 = .int .i64 (i : Int) ∧ i + kq = 14 ∧ Aside0 (rowFrom s 14 0 = rowFrom s kq i) ∧ Aside0 (w'.heap[w.heap.size]? = some (.cells #[.int .i64 0, .string ⟨#[]⟩, .bool false, .bool false, .bool false, .int .i64 0] 50 (0, 0))) ∧ Aside0 (Below w.heap.size w w'))
 case atStart => exact ⟨0, rfl, rfl, ⟨rfl⟩, ⟨heap_alloc_last _ _⟩, ⟨below_alloc (Below.refl _ _) _⟩⟩
 case round =>
  obtain ⟨i, rfl, hi, HN, HZ, HB⟩ := hrel
  have hw : wrap64 ((i : Int) + 1) = ((i + 1 : Nat) : Int) := by unfold wrap64; omega
  by_cases ci : i < 14
  ·have ci0 : decide ((i : Int) < 14) = true := decide_eq_true (by omega)
   have hix := hall.out i ci
   obtain ⟨k3, rfl⟩ : ∃ m, gk = m + 1 := ⟨gk - 1, by omega⟩
   by_cases c : (trowAt i).2.1.toList = s.toList
   ·have c0 : ((trowAt i).2.1.toList == s.toList) = true := beq_iff_eq.mpr c
    have hr : rowFrom s 14 0 = some i := by rw [HN.out]; unfold rowFrom; exact if_pos c
    have hn : namedP s = (((i : Int) + 1, (trowAt i).2), true) := by unfold namedP; rw [hr]
    have hn' := HR0.out.trans hn
    subst hn'
    clear hr hn c HN hw
    have z := fun o => rw_facts (blk_alloc HZ.out o)
    have y := fun o => rw_free (blk_alloc HZ.out o)
    have z0 := fun o => (z o).1
    have z1 := fun o => (z o).2.1
    have z2 := fun o => (z o).2.2.1
    have z3 := fun o => (z o).2.2.2.1
    have z4 := fun o => (z o).2.2.2.2.1
    have z5 := fun o => (z o).2.2.2.2.2
    have y0 := fun o => (y o).1
    have y1 := fun o => (y o).2.1
    have y2 := fun o => (y o).2.2.1
    have y3 := fun o => (y o).2.2.2.1
    have y4 := fun o => (y o).2.2.2.2.1
    have y5 := fun o => (y o).2.2.2.2.2
    clear z y
    go_wp2
    refine bodyPost_ret (results_ct (fn := Tryd.f38) rfl _ _ w.heap.size 50 #[.int .i64 ((i : Int) + 1), .string (trowAt i).2.1, .bool (trowAt i).2.2.1, .bool (trowAt i).2.2.2.1, .bool (trowAt i).2.2.2.2.1, .int .i64 (trowAt i).2.2.2.2.2] (0, 0) _ rfl (rowSet_blk (blk_alloc HZ.out _) ((i : Int) + 1, (trowAt i).2)) Tryd.underlying50 rfl sz50) rfl ?_
    exact ⟨rfl, rowSet_below (below_alloc HB.out _) (Nat.le_refl _) ((i : Int) + 1, (trowAt i).2)⟩
   ·have c0 : ((trowAt i).2.1.toList == s.toList) = false := beq_eq_false_iff_ne.mpr c
    go_wp2
    go_roundg k3
    case measure => omega
    case rel => exact ⟨i + 1, by first | rfl | (simp; done) | (rw [hw]; done), by omega, ⟨by rw [HN.out]; show (if _ then _ else _) = _; exact if_neg c⟩, ⟨blk_alloc HZ.out _⟩, ⟨below_alloc HB.out _⟩⟩
  ·have ci0 : decide ((i : Int) < 14) = false := decide_eq_false (by omega)
   obtain rfl : gk = 0 := by omega
   have HR : Aside0 (rowFrom s 14 0 = none) := ⟨HN.out⟩
   clear HN hi hw hall
   have HTw : Aside0 (Tab wr) := ⟨HT.out.below HB.out⟩
   have hlt := opIdx_lt s
   have hlt2 := opIdx_lt (trimI s)
   have HTD : Aside0 (∀ n, Tab (wr.drewN n)) := ⟨fun n => HTw.out.drewN n⟩
   by_cases h1 : 0 ≤ opIdx s
   ·have h1b : decide (0 ≤ opIdx s) = true := decide_eq_true h1
    have hw : wrap64 (16 + opIdx s) = 16 + opIdx s := by unfold wrap64; omega
    have hn : namedP s = ((16 + opIdx s, opAt (opIdx s).toNat, true, true, true, 0), true) := by unfold namedP; rw [HR.out]; exact if_pos h1
    have HF := Aside0.mk (find_op (opIdx s) h1 hlt)
    have hn' := HR0.out.trans hn
    subst hn'
    clear hn hlt hlt2
    go_wp2_with (first | (go_at_call 62; refine (idx_q s _ HTw.out).mono ?_; rintro e w3 ⟨rfl, m3, rfl⟩) | (go_at_call 24; refine (target_find.calls _ _ _ _ _ _ _ _ _ (HTD.out _) HF.out).mono ?_; rintro e w4 ⟨rfl, hb4⟩; (have hz : w4.heap[w.heap.size]? = some (.cells #[.int .i64 0, .string ⟨#[]⟩, .bool false, .bool false, .bool false, .int .i64 0] 50 (0, 0)) := blk_below (blk_drewN HZ.out _) hb4; have HB4 : Aside0 (Below w.heap.size w w4) := ⟨below_step (pw_below_drewN HB.out _) hb4⟩; clear hb4; obtain ⟨z0, z1, z2, z3, z4, z5⟩ := rw_facts hz; obtain ⟨y0, y1, y2, y3, y4, y5⟩ := rw_free hz; have HZ4 := Aside0.mk hz; clear hz)))
    refine bodyPost_ret (results_ct (fn := Tryd.f38) rfl _ _ w.heap.size 50 #[.int .i64 (16 + opIdx s, opAt (opIdx s).toNat, true, true, true, 0).1, .string (16 + opIdx s, opAt (opIdx s).toNat, true, true, true, 0).2.1, .bool (16 + opIdx s, opAt (opIdx s).toNat, true, true, true, 0).2.2.1, .bool (16 + opIdx s, opAt (opIdx s).toNat, true, true, true, 0).2.2.2.1, .bool (16 + opIdx s, opAt (opIdx s).toNat, true, true, true, 0).2.2.2.2.1, .int .i64 (16 + opIdx s, opAt (opIdx s).toNat, true, true, true, 0).2.2.2.2.2] (0, 0) _ rfl (rowSet_blk HZ4.out (16 + opIdx s, opAt (opIdx s).toNat, true, true, true, 0)) Tryd.underlying50 rfl sz50) rfl ?_
    exact ⟨rfl, rowSet_below HB4.out (Nat.le_refl _) (16 + opIdx s, opAt (opIdx s).toNat, true, true, true, 0)⟩
   ·have h1b : decide (0 ≤ opIdx s) = false := decide_eq_false h1
    have H1N := Aside0.mk h1
    clear h1
    go_wp2_with (first | (go_at_call 62; refine (idx_q s _ HTw.out).mono ?_; rintro e w3 ⟨rfl, hm3⟩; have HM3 := Aside0.mk hm3; clear hm3))
    have HT3 : Aside0 (∀ n, Tab (w3.drewN n)) := ⟨fun n => by obtain ⟨m, rfl⟩ := HM3.out; rw [World.drewN_drewN]; exact HTD.out _⟩
    have HZ3 : Aside0 (w3.heap[w.heap.size]? = some (.cells #[.int .i64 0, .string ⟨#[]⟩, .bool false, .bool false, .bool false, .int .i64 0] 50 (0, 0))) := ⟨by obtain ⟨m, rfl⟩ := HM3.out; exact blk_drewN HZ.out _⟩
    have HB3 : Aside0 (Below w.heap.size w w3) := ⟨by obtain ⟨m, rfl⟩ := HM3.out; exact pw_below_drewN HB.out _⟩
    go_quiet ((first | (go_at_call 63; exact Calls.quiet_of (trim_q s HS.out _)) | (go_at_call 62; exact Calls.quiet_of (idx_q (trimI s) _ (HT3.out _)))))
    by_cases h2 : 0 ≤ opIdx (trimI s)
    ·have h2b : decide (0 ≤ opIdx (trimI s)) = true := decide_eq_true h2
     have hw : wrap64 (36 + opIdx (trimI s)) = 36 + opIdx (trimI s) := by unfold wrap64; omega
     obtain ⟨O, hO⟩ : ∃ O, O = opAt (opIdx (trimI s)).toNat ++ ⟨#[105]⟩ := ⟨_, rfl⟩
     have hn : namedP s = ((36 + opIdx (trimI s), O, true, true, false, 1), true) := by unfold namedP; rw [HR.out, hO]; exact (if_neg (Int.not_le.mpr H1N.out)).trans (if_pos h2)
     have HF := Aside0.mk (find_opi (opIdx (trimI s)) h2 hlt2)
     rw [← hO] at HF
     clear hO
     have hn' := HR0.out.trans hn
     subst hn'
     clear hn hlt hlt2
     go_wp2_with (fail)
     refine (target_find.calls _ _ _ _ _ _ _ _ _ (HT3.out _) HF.out).mono ?_
     rintro e w4 ⟨rfl, hb4⟩
     have hz : w4.heap[w.heap.size]? = some (.cells #[.int .i64 0, .string ⟨#[]⟩, .bool false, .bool false, .bool false, .int .i64 0] 50 (0, 0)) := blk_below (blk_drewN HZ3.out _) hb4
     have HB4 : Aside0 (Below w.heap.size w w4) := ⟨below_step (pw_below_drewN HB3.out _) hb4⟩
     obtain ⟨z0, z1, z2, z3, z4, z5⟩ := rw_facts hz
     obtain ⟨y0, y1, y2, y3, y4, y5⟩ := rw_free hz
     have HZ4 := Aside0.mk hz
     clear hz hb4
     go_wp2
     refine bodyPost_ret (results_ct (fn := Tryd.f38) rfl _ _ w.heap.size 50 #[.int .i64 (36 + opIdx (trimI s), O, true, true, false, 1).1, .string (36 + opIdx (trimI s), O, true, true, false, 1).2.1, .bool (36 + opIdx (trimI s), O, true, true, false, 1).2.2.1, .bool (36 + opIdx (trimI s), O, true, true, false, 1).2.2.2.1, .bool (36 + opIdx (trimI s), O, true, true, false, 1).2.2.2.2.1, .int .i64 (36 + opIdx (trimI s), O, true, true, false, 1).2.2.2.2.2] (0, 0) _ rfl (rowSet_blk HZ4.out (36 + opIdx (trimI s), O, true, true, false, 1)) Tryd.underlying50 rfl sz50) rfl ?_
     exact ⟨rfl, rowSet_below HB4.out (Nat.le_refl _) (36 + opIdx (trimI s), O, true, true, false, 1)⟩
    ·have h2b : decide (0 ≤ opIdx (trimI s)) = false := decide_eq_false h2
     have hn : namedP s = ((0, ByteArray.empty, false, false, false, 0), false) := by unfold namedP; rw [HR.out]; exact (if_neg (Int.not_le.mpr H1N.out)).trans (if_neg (by first | exact h2 | exact Int.not_le.mpr h2))
     have hn' := HR0.out.trans hn
     subst hn'
     clear hn hlt hlt2
     obtain ⟨z0, z1, z2, z3, z4, z5⟩ := rw_facts HZ3.out
     obtain ⟨y0, y1, y2, y3, y4, y5⟩ := rw_free HZ3.out
     have HZ4 := HZ3
     go_wp2
     refine bodyPost_ret (results_ct (fn := Tryd.f38) rfl _ _ w.heap.size 50 #[.int .i64 (0, ByteArray.empty, false, false, false, 0).1, .string (0, ByteArray.empty, false, false, false, 0).2.1, .bool (0, ByteArray.empty, false, false, false, 0).2.2.1, .bool (0, ByteArray.empty, false, false, false, 0).2.2.2.1, .bool (0, ByteArray.empty, false, false, false, 0).2.2.2.2.1, .int .i64 (0, ByteArray.empty, false, false, false, 0).2.2.2.2.2] (0, 0) _ rfl (rowSet_blk (blk_drewN HZ4.out _) (0, ByteArray.empty, false, false, false, 0)) Tryd.underlying50 rfl sz50) rfl ?_
     exact ⟨rfl, rowSet_below (pw_below_drewN HB3.out _) (Nat.le_refl _) (0, ByteArray.empty, false, false, false, 0)⟩
end Go.Proofs.YtlaijeeeblcinaaDoor.A
