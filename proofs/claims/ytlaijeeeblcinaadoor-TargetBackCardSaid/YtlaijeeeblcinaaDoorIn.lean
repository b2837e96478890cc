/- target's reader, walked: instr. -/
import Derived.Test.YtlaijeeeblcinaaDoorRw
import Derived.Test.YtlaijeeeblcinaaDoorNm
import Derived.Deep.RegionHeld3
set_option linter.all false
set_option linter.unusedVariables false
set_option linter.unusedSimpArgs false
set_option maxRecDepth 100000
namespace Go.Proofs.YtlaijeeeblcinaaDoor.A
open Go.RowKit Go.Proofs.YtlaijeeeblcinaaDoorW.PrintWords Go.Proofs.YtlaijeeeblcinaaDoorW.PrintLast Go.Proofs.YtlaijeeeblcinaaDoorW.PrintMore
set_option maxHeartbeats 8000000
theorem RdAt.alloc {w : World} {g : Nat} {s : ByteArray} {t : Tok} (h : RdAt w g s t) (o : Obj) : RdAt (w.alloc o) g s t :=
 h.chg ((Chg.refl _ _).alloc o) (blk_alloc h.blk o) h.le
theorem Chg.setNew {P : Nat → Prop} {w w1 : World} (h : Chg P w w1) {a : Addr} (hb : w.heap.size ≤ a.block) (v : Value) : Chg P w (w1.setCell a v) :=
 ⟨h.os, h.tape, h.output, by simpa using h.size, fun k hk hn => (Below.heap_setCell w1 a v k (fun e => by omega)).trans (h.block k hk hn)⟩
/-- of a step over two blocks the second of which is new -/
theorem Chg.drop {g b : Nat} {w w1 w2 : World} (h : Chg (· = g) w w1) (k : Chg (fun k => k = g ∨ k = b) w1 w2) (hb : w.heap.size ≤ b) : Chg (· = g) w w2 :=
 ⟨k.os.trans h.os, k.tape.trans h.tape, k.output.trans h.output, Nat.le_trans h.size k.size, fun i hi hn => (k.block i (Nat.lt_of_lt_of_le hi h.size) (fun e => by rcases e with e | e; (· exact hn e); (· omega))).trans (h.block i hi hn)⟩
def miv (x : MI) : Value := .agg #[.int .i64 x.1, .int .i64 x.2.1, .int .i64 x.2.2.1, .int .i64 x.2.2.2.1, .int .i64 x.2.2.2.2]
def IOr (g : Nat) (s : ByteArray) (w : World) (r : Except Int (MI × Tok)) (e : Ending) (w' : World) : Prop :=
 (∃ x k, e = .returned (miv x) ∧ Aside0 (r = .ok (x, k)) ∧ Aside0 (RdAt w' g s k) ∧ Aside0 (Chg (· = g) w w')) ∨ (∃ p, e = failed p ∧ Aside0 (r = .error p) ∧ Aside0 (Chg (· = g) w w'))
theorem new2 (w : World) (o1 o2 : Obj) : ((w.alloc o1).alloc o2).heap[w.heap.size + 1]? = some o2 := by
 have := blk_new (w.alloc o1) o2
 simpa using this
def miSet (w : World) (b : Nat) (x : MI) : World := ((((w.setCell ⟨b, 0, none⟩ (.int .i64 x.1)).setCell ⟨b, 1, none⟩ (.int .i64 x.2.1)).setCell ⟨b, 2, none⟩ (.int .i64 x.2.2.1)).setCell ⟨b, 3, none⟩ (.int .i64 x.2.2.2.1)).setCell ⟨b, 4, none⟩ (.int .i64 x.2.2.2.2)
theorem miSet_blk {w : World} {b : Nat} {a1 a2 a3 a4 a5 : Int} (h : w.heap[b]? = some (mic a1 a2 a3 a4 a5)) (x : MI) : (miSet w b x).heap[b]? = some (.cells #[.int .i64 x.1, .int .i64 x.2.1, .int .i64 x.2.2.1, .int .i64 x.2.2.2.1, .int .i64 x.2.2.2.2] 26 (0, 0)) := mi_imm (mi_b (mi_a (mi_d (mi_op h _) _) _) _) _
theorem miSet_rd {w : World} {g b : Nat} {s : ByteArray} {t : Tok} (h : RdAt w g s t) (hne : b ≠ g) (hb : 8 ≤ b) (x : MI) : RdAt (miSet w b x) g s t := ((((h.set hne hb 0 _).set hne hb 1 _).set hne hb 2 _).set hne hb 3 _).set hne hb 4 _
theorem miSet_chg {P : Nat → Prop} {w w1 : World} (h : Chg P w w1) {b : Nat} (hb : w.heap.size ≤ b) (x : MI) : Chg P w (miSet w1 b x) :=
 ((((h.setNew (a := ⟨b, 0, none⟩) hb _).setNew (a := ⟨b, 1, none⟩) hb _).setNew (a := ⟨b, 2, none⟩) hb _).setNew (a := ⟨b, 3, none⟩) hb _).setNew (a := ⟨b, 4, none⟩) hb _
theorem sz26 : (Tryd.prog.info? 26).map (·.size) = some 5 := by kernel_rfl
theorem two_new {P : Nat → Prop} (w : World) (o1 o2 : Obj) : Chg P w ((w.alloc o1).alloc o2) := ((Chg.refl P w).alloc o1).alloc o2
theorem instr_load {w : World} {g : Nat} {s : ByteArray} {t : Tok} (x : Row20) (h : RdAt w g s t) (hx : x.1 = 4) : Calls Tryd.prog 40 #[.pointer (some ⟨g, 0, none⟩), rowv x] w (IOr g s w (instrP s x t)) := by
 obtain ⟨x0, x1, x2, x3, x4, x5⟩ := x
 obtain rfl : x0 = 4 := hx
 have H := Aside0.mk h
 have hlt := blk_lt h.blk
 have HN : Aside0 (w.heap.size + 1 ≠ g) := ⟨by omega⟩
 have H8 : Aside0 (8 ≤ w.heap.size + 1) := ⟨by have := h.env.big; omega⟩
 have HZ : Aside0 (w.heap.size ≤ w.heap.size + 1) := ⟨by omega⟩
 clear h hlt
 unfold rowv
 dsimp only
 go_enter Tryd.func40, Tryd.ntmps40
 go_wp2_with (first | (go_at_call 36; refine (want_or ⟨#[59]⟩ hR5.out).mono ?_; rintro e w6 (⟨k6, rfl, hr6, hR6, hC6⟩ | ⟨p, rfl, hr, hC⟩); (have hb := hC6.out.blk hb5.out HN.out; obtain ⟨z0, z1, z2, z3, z4⟩ := mi_facts hb; obtain ⟨y0, y1, y2, y3, y4⟩ := mi_free hb; have HB6 := Aside0.mk hb; clear hb)) | (go_at_call 65; refine (place_or hR4.out HB4.out HN.out H8.out).mono ?_; rintro e w5 (⟨i5, a5, k5, rfl, hr5, hR5, hb5, hC5⟩ | ⟨p, rfl, hr, hC⟩)) | (go_at_call 36; refine (want_or ⟨#[44]⟩ (hR2.out.set HN.out H8.out 1 (.int .i64 v2))).mono ?_; rintro e w4 (⟨k4, rfl, hr4, hR4, hC4⟩ | ⟨p, rfl, hr, hC⟩); (have HB4 := Aside0.mk (hC4.out.blk (mi_d HB2.out v2) HN.out))) | (go_at_call 64; refine (register_or ((H.out.alloc _).alloc _)).mono ?_; rintro e w2 (⟨v2, k2, rfl, hr2, hR2, hC2⟩ | ⟨p, rfl, hr, hC⟩); (have hb := hC2.out.blk (new2 w _ _) HN.out; obtain ⟨z0, z1, z2, z3, z4⟩ := mi_facts hb; obtain ⟨y0, y1, y2, y3, y4⟩ := mi_free hb; have HB2 := Aside0.mk hb; clear hb)))
 ·refine bodyPost_ret (results_cell_row rfl _ _ (w.heap.size + 1) 26 #[.int .i64 4, .int .i64 v2, .int .i64 a5, .int .i64 0, .int .i64 i5] (0, 0) _ rfl (miSet_blk HB6.out (4, v2, a5, 0, i5)) Tryd.underlying26 rfl sz26) rfl ?_
  exact .inl ⟨(4, v2, a5, 0, i5), k6, rfl, ⟨by unfold instrP; rw [if_pos rfl, hr2.out]; simp only [Except.bind]; rw [hr4.out]; simp only [Except.bind]; rw [hr5.out]; simp only [Except.bind]; rw [hr6.out]⟩, ⟨miSet_rd hR6.out HN.out H8.out (4, v2, a5, 0, i5)⟩, ⟨miSet_chg (((((two_new w _ _).trans hC2.out).setNew (a := ⟨w.heap.size + 1, 1, none⟩) HZ.out _).trans hC4.out).drop hC5.out HZ.out |>.trans hC6.out) HZ.out (4, v2, a5, 0, i5)⟩⟩
 ·exact ⟨rfl, .inr ⟨p, rfl, ⟨by unfold instrP; rw [if_pos rfl, hr2.out]; simp only [Except.bind]; rw [hr4.out]; simp only [Except.bind]; rw [hr5.out]; simp only [Except.bind]; rw [hr.out]⟩, ⟨((((two_new w _ _).trans hC2.out).setNew (a := ⟨w.heap.size + 1, 1, none⟩) HZ.out _).trans hC4.out).drop hC5.out HZ.out |>.trans hC.out⟩⟩⟩
 ·exact ⟨rfl, .inr ⟨p, rfl, ⟨by unfold instrP; rw [if_pos rfl, hr2.out]; simp only [Except.bind]; rw [hr4.out]; simp only [Except.bind]; rw [hr.out]⟩, ⟨((((two_new w _ _).trans hC2.out).setNew (a := ⟨w.heap.size + 1, 1, none⟩) HZ.out _).trans hC4.out).drop hC.out HZ.out⟩⟩⟩
 ·exact ⟨rfl, .inr ⟨p, rfl, ⟨by unfold instrP; rw [if_pos rfl, hr2.out]; simp only [Except.bind]; rw [hr.out]⟩, ⟨(((two_new w _ _).trans hC2.out).setNew (a := ⟨w.heap.size + 1, 1, none⟩) HZ.out _).trans hC.out⟩⟩⟩
 ·exact ⟨rfl, .inr ⟨p, rfl, ⟨by unfold instrP; rw [if_pos rfl, hr.out]; rfl⟩, ⟨(two_new w _ _).trans hC.out⟩⟩⟩
theorem instr_store {w : World} {g : Nat} {s : ByteArray} {t : Tok} (x : Row20) (h : RdAt w g s t) (hx : x.1 = 5) : Calls Tryd.prog 40 #[.pointer (some ⟨g, 0, none⟩), rowv x] w (IOr g s w (instrP s x t)) := by
 obtain ⟨x0, x1, x2, x3, x4, x5⟩ := x
 obtain rfl : x0 = 5 := hx
 have H := Aside0.mk h
 have hlt := blk_lt h.blk
 have HN : Aside0 (w.heap.size + 1 ≠ g) := ⟨by omega⟩
 have H8 : Aside0 (8 ≤ w.heap.size + 1) := ⟨by have := h.env.big; omega⟩
 have HZ : Aside0 (w.heap.size ≤ w.heap.size + 1) := ⟨by omega⟩
 clear h hlt
 unfold rowv
 dsimp only
 go_enter Tryd.func40, Tryd.ntmps40
 go_wp2_with (first | (go_at_call 36; refine (want_or ⟨#[59]⟩ (hR5.out.set HN.out H8.out 3 (.int .i64 v5))).mono ?_; rintro e w6 (⟨k6, rfl, hr6, hR6, hC6⟩ | ⟨p, rfl, hr, hC⟩); (have hb := hC6.out.blk (mi_b HB5.out v5) HN.out; obtain ⟨z0, z1, z2, z3, z4⟩ := mi_facts hb; obtain ⟨y0, y1, y2, y3, y4⟩ := mi_free hb; have HB6 := Aside0.mk hb; clear hb)) | (go_at_call 64; refine (register_or hR4.out).mono ?_; rintro e w5 (⟨v5, k5, rfl, hr5, hR5, hC5⟩ | ⟨p, rfl, hr, hC⟩); (have hb := hC5.out.blk HB4.out HN.out; obtain ⟨z0, z1, z2, z3, z4⟩ := mi_facts hb; obtain ⟨y0, y1, y2, y3, y4⟩ := mi_free hb; have HB5 := Aside0.mk hb; clear hb)) | (go_at_call 36; refine (want_or ⟨#[44]⟩ hR2.out).mono ?_; rintro e w4 (⟨k4, rfl, hr4, hR4, hC4⟩ | ⟨p, rfl, hr, hC⟩); (have HB4 := Aside0.mk (hC4.out.blk hb2.out HN.out))) | (go_at_call 65; refine (place_or ((H.out.alloc _).alloc _) (new2 w _ _) HN.out H8.out).mono ?_; rintro e w2 (⟨i2, a2, k2, rfl, hr2, hR2, hb2, hC2⟩ | ⟨p, rfl, hr, hC⟩)))
 ·refine bodyPost_ret (results_cell_row rfl _ _ (w.heap.size + 1) 26 #[.int .i64 5, .int .i64 0, .int .i64 a2, .int .i64 v5, .int .i64 i2] (0, 0) _ rfl (miSet_blk HB6.out (5, 0, a2, v5, i2)) Tryd.underlying26 rfl sz26) rfl ?_
  exact .inl ⟨(5, 0, a2, v5, i2), k6, rfl, ⟨by unfold instrP; rw [if_neg (show ¬ ((5 : Int) = 4) by decide), if_pos rfl, hr2.out]; simp only [Except.bind]; rw [hr4.out]; simp only [Except.bind]; rw [hr5.out]; simp only [Except.bind]; rw [hr6.out]⟩, ⟨miSet_rd hR6.out HN.out H8.out (5, 0, a2, v5, i2)⟩, ⟨miSet_chg ((((((two_new w _ _).drop hC2.out HZ.out).trans hC4.out).trans hC5.out).setNew (a := ⟨w.heap.size + 1, 3, none⟩) HZ.out _).trans hC6.out) HZ.out (5, 0, a2, v5, i2)⟩⟩
 ·exact ⟨rfl, .inr ⟨p, rfl, ⟨by unfold instrP; rw [if_neg (show ¬ ((5 : Int) = 4) by decide), if_pos rfl, hr2.out]; simp only [Except.bind]; rw [hr4.out]; simp only [Except.bind]; rw [hr5.out]; simp only [Except.bind]; rw [hr.out]⟩, ⟨(((((two_new w _ _).drop hC2.out HZ.out).trans hC4.out).trans hC5.out).setNew (a := ⟨w.heap.size + 1, 3, none⟩) HZ.out _).trans hC.out⟩⟩⟩
 ·exact ⟨rfl, .inr ⟨p, rfl, ⟨by unfold instrP; rw [if_neg (show ¬ ((5 : Int) = 4) by decide), if_pos rfl, hr2.out]; simp only [Except.bind]; rw [hr4.out]; simp only [Except.bind]; rw [hr.out]⟩, ⟨(((two_new w _ _).drop hC2.out HZ.out).trans hC4.out).trans hC.out⟩⟩⟩
 ·exact ⟨rfl, .inr ⟨p, rfl, ⟨by unfold instrP; rw [if_neg (show ¬ ((5 : Int) = 4) by decide), if_pos rfl, hr2.out]; simp only [Except.bind]; rw [hr.out]⟩, ⟨((two_new w _ _).drop hC2.out HZ.out).trans hC.out⟩⟩⟩
 ·exact ⟨rfl, .inr ⟨p, rfl, ⟨by unfold instrP; rw [if_neg (show ¬ ((5 : Int) = 4) by decide), if_pos rfl, hr.out]; rfl⟩, ⟨(two_new w _ _).drop hC.out HZ.out⟩⟩⟩
end Go.Proofs.YtlaijeeeblcinaaDoor.A
