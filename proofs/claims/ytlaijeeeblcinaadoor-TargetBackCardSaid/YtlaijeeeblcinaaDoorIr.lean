/- target's reader, walked: instr at an instruction that is no load and no store. -/
import Derived.Test.YtlaijeeeblcinaaDoorIn
set_option linter.all false
set_option linter.unusedVariables false
set_option linter.unusedSimpArgs false
set_option maxRecDepth 100000
namespace Go.Proofs.YtlaijeeeblcinaaDoor.A
open Go.RowKit Go.Proofs.YtlaijeeeblcinaaDoorW.PrintWords Go.Proofs.YtlaijeeeblcinaaDoorW.PrintLast Go.Proofs.YtlaijeeeblcinaaDoorW.PrintMore
set_option maxHeartbeats 8000000
theorem register_ok {w : World} {g : Nat} {s : ByteArray} {t : Tok} (h : RdAt w g s t) {v : Int} {k : Tok} (hr : registerP s t = .ok (v, k)) :
  Calls Tryd.prog 64 #[.pointer (some ⟨g, 0, none⟩)] w fun e w' => e = .returned (.int .i64 v) ∧ Aside0 (RdAt w' g s k) ∧ Aside0 (Chg (· = g) w w') := by
 refine (register_or h).mono ?_
 rintro e w' (⟨v', k', rfl, h1, h2, h3⟩ | ⟨p, rfl, h1, h2⟩)
 ·have := h1.out; rw [hr] at this; cases this; exact ⟨rfl, h2, h3⟩
 ·have := h1.out; rw [hr] at this; cases this
theorem register_bad {w : World} {g : Nat} {s : ByteArray} {t : Tok} (h : RdAt w g s t) {p : Int} (hr : registerP s t = .error p) :
  Calls Tryd.prog 64 #[.pointer (some ⟨g, 0, none⟩)] w fun e w' => e = failed p ∧ Aside0 (Chg (· = g) w w') := by
 refine (register_or h).mono ?_
 rintro e w' (⟨v', k', rfl, h1, h2, h3⟩ | ⟨p, rfl, h1, h2⟩)
 ·have := h1.out; rw [hr] at this; cases this
 ·have := h1.out; rw [hr] at this; cases this; exact ⟨rfl, h2⟩
theorem RdAt.drew {w : World} {g : Nat} {s : ByteArray} {t : Tok} (h : RdAt w g s t) : RdAt w.drew g s t := h.chg ((Chg.refl _ _).drew) (blk_drew h.blk) h.le
/-- what is read behind i of the three registers -/
def St (s : ByteArray) (d a b : Bool) (t : Tok) : Nat → Int → Int → Int → Bool → Tok → Prop
 | 0, v0, v1, v2, f, k => v0 = 0 ∧ v1 = 0 ∧ v2 = 0 ∧ f = true ∧ k = t
 | 1, v0, v1, v2, f, k => v1 = 0 ∧ v2 = 0 ∧ optRegP s d true t = .ok (v0, f, k)
 | 2, v0, v1, v2, f, k => v2 = 0 ∧ ∃ f1 k1, optRegP s d true t = .ok (v0, f1, k1) ∧ optRegP s a f1 k1 = .ok (v1, f, k)
 | _, v0, v1, v2, f, k => ∃ f1 k1 f2 k2, optRegP s d true t = .ok (v0, f1, k1) ∧ optRegP s a f1 k1 = .ok (v1, f2, k2) ∧ optRegP s b f2 k2 = .ok (v2, f, k)
def rowo (x : Row20) : Obj := .cells #[.int .i64 x.1, .string x.2.1, .bool x.2.2.1, .bool x.2.2.2.1, .bool x.2.2.2.2.1, .int .i64 x.2.2.2.2.2] 50 (0, 0)
theorem row_facts {w : World} {b : Nat} {x : Row20} (h : w.heap[b]? = some (rowo x)) :
  w.cell? ⟨b, 0, none⟩ = some (.int .i64 x.1) ∧ w.cell? ⟨b, 2, none⟩ = some (.bool x.2.2.1) ∧ w.cell? ⟨b, 3, none⟩ = some (.bool x.2.2.2.1) ∧ w.cell? ⟨b, 4, none⟩ = some (.bool x.2.2.2.2.1) ∧ w.cell? ⟨b, 5, none⟩ = some (.int .i64 x.2.2.2.2.2) :=
 ⟨(blk_cell h 0).trans rfl, (blk_cell h 2).trans rfl, (blk_cell h 3).trans rfl, (blk_cell h 4).trans rfl, (blk_cell h 5).trans rfl⟩
def tailP (s : ByteArray) (op v0 v1 v2 im : Int) (f : Bool) (k : Tok) : Except Int (MI × Tok) :=
 (if im = 0 then .ok (0, k) else (commaP s f k).bind fun k => numberP s im k).bind fun d => (wantP s ⟨#[59]⟩ d.2).bind fun e => .ok ((op, v0, v1, v2, d.1), e)
section
variable {s : ByteArray} {op : Int} {wd : ByteArray} {d a b : Bool} {im : Int} {t : Tok} {p : Int} {v0 v1 v2 : Int} {f1 f2 f3 : Bool} {k1 k2 k3 : Tok}
theorem instr_err0 (h : op ≠ 4 ∧ op ≠ 5) (h1 : optRegP s d true t = .error p) : instrP s (op, wd, d, a, b, im) t = .error p := by
 unfold instrP; rw [if_neg h.1, if_neg h.2]; simp only [h1]; rfl
theorem instr_err1 (h : op ≠ 4 ∧ op ≠ 5) (h1 : optRegP s d true t = .ok (v0, f1, k1)) (h2 : optRegP s a f1 k1 = .error p) : instrP s (op, wd, d, a, b, im) t = .error p := by
 unfold instrP; rw [if_neg h.1, if_neg h.2]; simp only [h1, Except.bind, h2]
theorem instr_err2 (h : op ≠ 4 ∧ op ≠ 5) (h1 : optRegP s d true t = .ok (v0, f1, k1)) (h2 : optRegP s a f1 k1 = .ok (v1, f2, k2)) (h3 : optRegP s b f2 k2 = .error p) : instrP s (op, wd, d, a, b, im) t = .error p := by
 unfold instrP; rw [if_neg h.1, if_neg h.2]; simp only [h1, Except.bind, h2, h3]
theorem instr_tail (h : op ≠ 4 ∧ op ≠ 5) (h1 : optRegP s d true t = .ok (v0, f1, k1)) (h2 : optRegP s a f1 k1 = .ok (v1, f2, k2)) (h3 : optRegP s b f2 k2 = .ok (v2, f3, k3)) : instrP s (op, wd, d, a, b, im) t = tailP s op v0 v1 v2 im f3 k3 := by
 unfold instrP; rw [if_neg h.1, if_neg h.2]; simp only [h1, Except.bind, h2, h3]; rfl
end
theorem trio_0 (d a b : Bool) (p q r : Option Addr) (W : World) : (Instr.index 115 (.agg #[.bool d, .pointer p, .bool a, .pointer q, .bool b, .pointer r]) (.int .i64 0)).run Tryd.prog W = .ok (.agg #[.bool d, .pointer p]) W := by kernel_rfl
theorem trio_1 (d a b : Bool) (p q r : Option Addr) (W : World) : (Instr.index 115 (.agg #[.bool d, .pointer p, .bool a, .pointer q, .bool b, .pointer r]) (.int .i64 1)).run Tryd.prog W = .ok (.agg #[.bool a, .pointer q]) W := by kernel_rfl
theorem trio_2 (d a b : Bool) (p q r : Option Addr) (W : World) : (Instr.index 115 (.agg #[.bool d, .pointer p, .bool a, .pointer q, .bool b, .pointer r]) (.int .i64 2)).run Tryd.prog W = .ok (.agg #[.bool b, .pointer r]) W := by kernel_rfl
theorem instr_rest {w : World} {g : Nat} {s : ByteArray} {t : Tok} (op : Int) (wd : ByteArray) (d a b : Bool) (im : Int) (h : RdAt w g s t) (h4 : op ≠ 4) (h5 : op ≠ 5) : Calls Tryd.prog 40 #[.pointer (some ⟨g, 0, none⟩), rowv (op, wd, d, a, b, im)] w (IOr g s w (instrP s (op, wd, d, a, b, im) t)) := by
 have H := Aside0.mk h
 have hlt := blk_lt h.blk
 have HG : Aside0 (g < w.heap.size) := ⟨hlt⟩
 have HN : Aside0 (w.heap.size + 1 ≠ g) := ⟨by omega⟩
 have HN3 : Aside0 (w.heap.size ≠ g) := ⟨by omega⟩
 have H8 : Aside0 (8 ≤ w.heap.size + 1) := ⟨by have := h.env.big; omega⟩
 have HZ : Aside0 (w.heap.size ≤ w.heap.size + 1) := ⟨by omega⟩
 have h4b : (op == 4) = false := beq_eq_false_iff_ne.mpr h4
 have h5b : (op == 5) = false := beq_eq_false_iff_ne.mpr h5
 have H45 : Aside0 (op ≠ 4 ∧ op ≠ 5) := ⟨h4, h5⟩
 clear h hlt h4 h5
 have i0 := trio_0
 have i1 := trio_1
 have i2 := trio_2
 unfold rowv
 dsimp only
 go_enter Tryd.func40, Tryd.ntmps40
 go_wp2_with (fail)
 go_loopg [5, 26] 4 (fun kq v5 v26 wr => ∃ (i : Nat) (v0 v1 v2 : Int) (f : Bool) (k : Tok), v5 = .bool f ∧ v26 = .int .i64 (i : Int) ∧ Aside0 (i ≤ 3 ∧ 3 - i < kq) ∧ Aside0 (St s d a b t i v0 v1 v2 f k) ∧ Aside0 (RdAt wr g s k) ∧ Aside0 (wr.heap[w.heap.size]? = some (rowo (op, wd, d, a, b, im))) ∧ Aside0 (wr.heap[w.heap.size + 1]? = some (mic op v0 v1 v2 0)) ∧ Aside0 (Chg (· = g) w wr))
 case atStart => exact ⟨0, 0, 0, 0, true, t, rfl, rfl, ⟨by omega⟩, ⟨rfl, rfl, rfl, rfl, rfl⟩, ⟨(H.out.alloc _).alloc _⟩, ⟨blk_alloc (blk_new w _) _⟩, ⟨new2 w _ _⟩, ⟨two_new w _ _⟩⟩
 case round =>
  obtain ⟨i, v0, v1, v2, f, k, rfl, rfl, HI, HS, HR, HB3, HB4, HC⟩ := hrel
  cases gk with
  | zero => exact absurd HI.out.2 (Nat.not_lt_zero _)
  | succ k3 =>
   have hi : i = 0 ∨ i = 1 ∨ i = 2 ∨ i = 3 := by have := HI.out.1; omega
   obtain ⟨p0, p2, p3, p4, p5⟩ := row_facts HB3.out
   obtain ⟨z0, z1, z2, z3, z4⟩ := mi_facts HB4.out
   obtain ⟨y0, y1, y2, y3, y4⟩ := mi_free HB4.out
   rcases hi with rfl | rfl | rfl | rfl
   ·cases hd : d
    ·subst hd
     obtain ⟨e0, e1, e2, ef, ek⟩ := HS.out
     subst e0 e1 e2 ef ek
     go_wp2_with (fail)
     go_roundg k3
     case measure => omega
     case rel => exact ⟨1, 0, 0, 0, true, k, rfl, by first | rfl | simp, ⟨by have := HI.out; omega⟩, ⟨⟨rfl, rfl, by unfold optRegP; rfl⟩⟩, ⟨HR.out.alloc _⟩, ⟨blk_alloc HB3.out _⟩, ⟨blk_alloc HB4.out _⟩, ⟨HC.out.alloc _⟩⟩
    ·subst hd
     have HP := Aside0.mk (blk_new wr (.cells #[.bool true, .pointer (some ⟨w.heap.size + 1, 1, none⟩)] 114 (0, 0)))
     have HPN : Aside0 (wr.heap.size ≠ g) := ⟨by have := HC.out.size; have := HG.out; omega⟩
     have HP4 : Aside0 (wr.heap.size ≠ w.heap.size + 1) := ⟨by have := blk_lt HB4.out; omega⟩
     have HNE : Aside0 (w.heap.size ≠ w.heap.size + 1) := ⟨by omega⟩
     have HRa := Aside0.mk (HR.out.alloc (.cells #[.bool true, .pointer (some ⟨w.heap.size + 1, 1, none⟩)] 114 (0, 0)))
     have HBa := Aside0.mk (blk_alloc HB4.out (.cells #[.bool true, .pointer (some ⟨w.heap.size + 1, 1, none⟩)] 114 (0, 0)))
     have HB3a := Aside0.mk (blk_alloc HB3.out (.cells #[.bool true, .pointer (some ⟨w.heap.size + 1, 1, none⟩)] 114 (0, 0)))
     obtain ⟨e0, e1, e2, ef, ek⟩ := HS.out
     subst e0 e1 e2 ef ek
     go_wp2_with (fail)
     obtain ⟨z0, z1, z2, z3, z4⟩ := mi_facts HBa.out
     obtain ⟨y0, y1, y2, y3, y4⟩ := mi_free HBa.out
     have c1 := (blk_cell HP.out 1).trans rfl
     cases hrg : registerP s k with
     | error p =>
      have HRG := Aside0.mk hrg
      have HERR := Aside0.mk (show instrP s (op, wd, true, a, b, im) k = .error p from instr_err0 H45.out (by unfold optRegP commaP; simp [hrg, Except.bind]))
      clear hrg
      refine wp_region_held_drew (S := (fun w' => w'.cell? ⟨wr.heap.size, 1, none⟩ = some (.pointer (some ⟨w.heap.size + 1, 1, none⟩)))) (by kernel_rfl) (by exact c1) (fun hHeld => ?_)
      refine wpAnyH_take (i := 0) (v := ?v0_1) rfl (by kernel_rfl) (by kernel_rfl) (by kernel_rfl) (fun _ _ _ h => h) (Or.inl ⟨by rfl, ?y0_1⟩) (by assumption) ?s0_1
      case y0_1 => (intro w hSw; (try dsimp only at hSw); go_simp; try with_reducible rfl)
      try simp only [Act.put, List.setIfInBounds_toArray, List.set_cons_zero, List.set_cons_succ]
      refine wpAnyH_take (i := 1) (v := ?v1_1) rfl (by kernel_rfl) (by kernel_rfl) (by kernel_rfl) (fun _ _ _ h => h) (Or.inl ⟨by rfl, ?y1_1⟩) (by assumption) ?s1_1
      case y1_1 => (intro w hSw; (try dsimp only at hSw); go_simp; try with_reducible rfl)
      try simp only [Act.put, List.setIfInBounds_toArray, List.set_cons_zero, List.set_cons_succ]
      refine wpAnyH_take (i := 2) (v := ?v2_1) rfl (by kernel_rfl) (by kernel_rfl) (by kernel_rfl) (fun _ _ _ h => h) (Or.inl ⟨by rfl, ?y2_1⟩) (by assumption) ?s2_1
      case y2_1 => (intro w hSw; (try dsimp only at hSw); go_simp; try with_reducible rfl)
      try simp only [Act.put, List.setIfInBounds_toArray, List.set_cons_zero, List.set_cons_succ]
      refine wpAnyH_ready (rs := [3]) (by kernel_rfl) (by simp) ?_
      refine AllReadyH.cons rfl (fun K hK => ?_) AllReadyH.nil
      go_simp
      go_at_call 64; refine (register_bad (by first | exact HRa.out | exact HRa.out.drew) HRG.out).mono ?_; rintro e w5 ⟨rfl, hC5⟩
      exact ⟨rfl, .inr ⟨_, rfl, HERR, ⟨by first | exact (HC.out.alloc (.cells #[.bool true, .pointer (some ⟨w.heap.size + 1, 1, none⟩)] 114 (0, 0))).trans hC5.out | exact ((HC.out.alloc (.cells #[.bool true, .pointer (some ⟨w.heap.size + 1, 1, none⟩)] 114 (0, 0))).drew).trans hC5.out⟩⟩⟩
     | ok vk =>
      obtain ⟨v5, k5⟩ := vk
      have HRG := Aside0.mk hrg
      have HOK := Aside0.mk (show St s true a b k 1 v5 0 0 false k5 from ⟨rfl, rfl, by unfold optRegP commaP; simp [hrg, Except.bind]⟩)
      clear hrg
      go_region_held3 (fun w' => w'.cell? ⟨wr.heap.size, 1, none⟩ = some (.pointer (some ⟨w.heap.size + 1, 1, none⟩))) (first | exact c1 | exact c5 | exact c6) (first | (go_at_call 64; refine (register_ok (by first | exact HRa.out | exact HRa.out.drew) HRG.out).mono ?_; rintro e w5 ⟨rfl, hR5, hC5⟩; (have hb5 : w5.heap[w.heap.size + 1]? = some (mic op 0 0 0 0) := hC5.out.blk (by first | exact HBa.out | exact blk_drew HBa.out) HN.out; have hp5 : w5.heap[wr.heap.size]? = some (Obj.cells #[.bool true, .pointer (some ⟨w.heap.size + 1, 1, none⟩)] 114 (0, 0)) := hC5.out.blk (by first | exact HP.out | exact blk_drew HP.out) HPN.out; have hr5 : w5.heap[w.heap.size]? = some (rowo (op, wd, true, a, b, im)) := hC5.out.blk (by first | exact HB3a.out | exact blk_drew HB3a.out) HN3.out; have HR3 := Aside0.mk hr5; have HC6 : Aside0 (Chg (· = g) w w5) := ⟨by first | exact (HC.out.alloc (.cells #[.bool true, .pointer (some ⟨w.heap.size + 1, 1, none⟩)] 114 (0, 0))).trans hC5.out | exact ((HC.out.alloc (.cells #[.bool true, .pointer (some ⟨w.heap.size + 1, 1, none⟩)] 114 (0, 0))).drew).trans hC5.out⟩; have c5 := (blk_cell hp5 1).trans rfl; have c6 : (w5.setCell ⟨w.heap.size + 1, 1, none⟩ (.int .i64 v5)).cell? ⟨wr.heap.size, 1, none⟩ = some (.pointer (some ⟨w.heap.size + 1, 1, none⟩)) := (blk_cell (blk_far hp5 (p := ⟨w.heap.size + 1, 1, none⟩) HP4.out (.int .i64 v5)) 1).trans rfl; obtain ⟨z0, z1, z2, z3, z4⟩ := mi_facts hb5; obtain ⟨y0, y1, y2, y3, y4⟩ := mi_free hb5; have HB5 := Aside0.mk hb5; clear hb5 hp5 hr5)))
      all_goals
       go_wp2_with (fail)
       go_roundg k3
       case measure => omega
       case rel => exact ⟨1, v5, 0, 0, false, k5, rfl, by first | rfl | simp, ⟨by have := HI.out; omega⟩, HOK, ⟨by first | exact hR5.out.set HN.out H8.out 1 _ | exact (hR5.out.set HN.out H8.out 1 _).drew⟩, ⟨by first | exact blk_far HR3.out (p := ⟨w.heap.size + 1, 1, none⟩) HNE.out _ | exact blk_drew (blk_far HR3.out (p := ⟨w.heap.size + 1, 1, none⟩) HNE.out _)⟩, ⟨by first | exact mi_d HB5.out v5 | exact blk_drew (mi_d HB5.out v5)⟩, ⟨by first | exact HC6.out.setNew (a := ⟨w.heap.size + 1, 1, none⟩) HZ.out _ | exact (HC6.out.setNew (a := ⟨w.heap.size + 1, 1, none⟩) HZ.out _).drew⟩⟩
   ·cases ha : a
    ·subst ha
     obtain ⟨e1, e2, hs1⟩ := HS.out
     subst e1 e2
     have HS1 := Aside0.mk hs1
     clear hs1
     go_wp2_with (fail)
     go_roundg k3
     case measure => omega
     case rel => exact ⟨2, v0, 0, 0, f, k, rfl, by first | rfl | simp, ⟨by have := HI.out; omega⟩, ⟨⟨rfl, _, _, HS1.out, by unfold optRegP; rfl⟩⟩, ⟨HR.out.alloc _⟩, ⟨blk_alloc HB3.out _⟩, ⟨blk_alloc HB4.out _⟩, ⟨HC.out.alloc _⟩⟩
    ·subst ha
     have HP := Aside0.mk (blk_new wr (.cells #[.bool true, .pointer (some ⟨w.heap.size + 1, 2, none⟩)] 114 (0, 0)))
     have HPN : Aside0 (wr.heap.size ≠ g) := ⟨by have := HC.out.size; have := HG.out; omega⟩
     have HP4 : Aside0 (wr.heap.size ≠ w.heap.size + 1) := ⟨by have := blk_lt HB4.out; omega⟩
     have HNE : Aside0 (w.heap.size ≠ w.heap.size + 1) := ⟨by omega⟩
     have HRa := Aside0.mk (HR.out.alloc (.cells #[.bool true, .pointer (some ⟨w.heap.size + 1, 2, none⟩)] 114 (0, 0)))
     have HBa := Aside0.mk (blk_alloc HB4.out (.cells #[.bool true, .pointer (some ⟨w.heap.size + 1, 2, none⟩)] 114 (0, 0)))
     have HB3a := Aside0.mk (blk_alloc HB3.out (.cells #[.bool true, .pointer (some ⟨w.heap.size + 1, 2, none⟩)] 114 (0, 0)))
     obtain ⟨e1, e2, hs1⟩ := HS.out
     subst e1 e2
     have HS1 := Aside0.mk hs1
     clear hs1
     cases hf : f
     ·subst hf
      go_wp2_with (go_at_call 36; refine (want_or ⟨#[44]⟩ HRa.out).mono ?_; rintro e w4 (⟨k4, rfl, hr4, hR4, hC4⟩ | ⟨p, rfl, hr, hC⟩))
      ·have HB4b : Aside0 (w4.heap[w.heap.size + 1]? = some (mic op v0 0 0 0)) := ⟨hC4.out.blk HBa.out HN.out⟩
       have HB3b : Aside0 (w4.heap[w.heap.size]? = some (rowo (op, wd, d, true, b, im))) := ⟨hC4.out.blk HB3a.out HN3.out⟩
       have HPb : Aside0 (w4.heap[wr.heap.size]? = some (Obj.cells #[.bool true, .pointer (some ⟨w.heap.size + 1, 2, none⟩)] 114 (0, 0))) := ⟨hC4.out.blk HP.out HPN.out⟩
       obtain ⟨z0, z1, z2, z3, z4⟩ := mi_facts HB4b.out
       obtain ⟨y0, y1, y2, y3, y4⟩ := mi_free HB4b.out
       have c1 := (blk_cell HPb.out 1).trans rfl
       cases hrg : registerP s k4 with
       | error p =>
        have HRG := Aside0.mk hrg
        have HERR := Aside0.mk (show instrP s (op, wd, d, true, b, im) t = .error p from instr_err1 H45.out HS1.out (by unfold optRegP commaP; simp [hr4.out, hrg, Except.bind]))
        clear hrg
        refine wp_region_held_drew (S := (fun w' => w'.cell? ⟨wr.heap.size, 1, none⟩ = some (.pointer (some ⟨w.heap.size + 1, 2, none⟩)))) (by kernel_rfl) (by exact c1) (fun hHeld => ?_)
        refine wpAnyH_take (i := 0) (v := ?v0_2) rfl (by kernel_rfl) (by kernel_rfl) (by kernel_rfl) (fun _ _ _ h => h) (Or.inl ⟨by rfl, ?y0_2⟩) (by assumption) ?s0_2
        case y0_2 => (intro w hSw; (try dsimp only at hSw); go_simp; try with_reducible rfl)
        try simp only [Act.put, List.setIfInBounds_toArray, List.set_cons_zero, List.set_cons_succ]
        refine wpAnyH_take (i := 1) (v := ?v1_2) rfl (by kernel_rfl) (by kernel_rfl) (by kernel_rfl) (fun _ _ _ h => h) (Or.inl ⟨by rfl, ?y1_2⟩) (by assumption) ?s1_2
        case y1_2 => (intro w hSw; (try dsimp only at hSw); go_simp; try with_reducible rfl)
        try simp only [Act.put, List.setIfInBounds_toArray, List.set_cons_zero, List.set_cons_succ]
        refine wpAnyH_take (i := 2) (v := ?v2_2) rfl (by kernel_rfl) (by kernel_rfl) (by kernel_rfl) (fun _ _ _ h => h) (Or.inl ⟨by rfl, ?y2_2⟩) (by assumption) ?s2_2
        case y2_2 => (intro w hSw; (try dsimp only at hSw); go_simp; try with_reducible rfl)
        try simp only [Act.put, List.setIfInBounds_toArray, List.set_cons_zero, List.set_cons_succ]
        refine wpAnyH_ready (rs := [3]) (by kernel_rfl) (by simp) ?_
        refine AllReadyH.cons rfl (fun K hK => ?_) AllReadyH.nil
        go_simp
        go_at_call 64; refine (register_bad (by first | exact hR4.out | exact hR4.out.drew) HRG.out).mono ?_; rintro e w5 ⟨rfl, hC5⟩
        exact ⟨rfl, .inr ⟨_, rfl, HERR, ⟨by first | exact ((HC.out.alloc (.cells #[.bool true, .pointer (some ⟨w.heap.size + 1, 2, none⟩)] 114 (0, 0))).trans hC4.out).trans hC5.out | exact (((HC.out.alloc (.cells #[.bool true, .pointer (some ⟨w.heap.size + 1, 2, none⟩)] 114 (0, 0))).trans hC4.out).drew).trans hC5.out⟩⟩⟩
       | ok vk =>
        obtain ⟨v5, k5⟩ := vk
        have HRG := Aside0.mk hrg
        have HOK := Aside0.mk (show St s d true b t 2 v0 v5 0 false k5 from ⟨rfl, _, _, HS1.out, by unfold optRegP commaP; simp [hr4.out, hrg, Except.bind]⟩)
        clear hrg
        go_region_held3 (fun w' => w'.cell? ⟨wr.heap.size, 1, none⟩ = some (.pointer (some ⟨w.heap.size + 1, 2, none⟩))) (first | exact c1 | exact c5 | exact c6) (first | (go_at_call 64; refine (register_ok (by first | exact hR4.out | exact hR4.out.drew) HRG.out).mono ?_; rintro e w5 ⟨rfl, hR5, hC5⟩; (have hb5 : w5.heap[w.heap.size + 1]? = some (mic op v0 0 0 0) := hC5.out.blk (by first | exact HB4b.out | exact blk_drew HB4b.out) HN.out; have hp5 : w5.heap[wr.heap.size]? = some (Obj.cells #[.bool true, .pointer (some ⟨w.heap.size + 1, 2, none⟩)] 114 (0, 0)) := hC5.out.blk (by first | exact HPb.out | exact blk_drew HPb.out) HPN.out; have hr5 : w5.heap[w.heap.size]? = some (rowo (op, wd, d, true, b, im)) := hC5.out.blk (by first | exact HB3b.out | exact blk_drew HB3b.out) HN3.out; have HR3 := Aside0.mk hr5; have HC6 : Aside0 (Chg (· = g) w w5) := ⟨by first | exact ((HC.out.alloc (.cells #[.bool true, .pointer (some ⟨w.heap.size + 1, 2, none⟩)] 114 (0, 0))).trans hC4.out).trans hC5.out | exact (((HC.out.alloc (.cells #[.bool true, .pointer (some ⟨w.heap.size + 1, 2, none⟩)] 114 (0, 0))).trans hC4.out).drew).trans hC5.out⟩; have c5 := (blk_cell hp5 1).trans rfl; have c6 : (w5.setCell ⟨w.heap.size + 1, 2, none⟩ (.int .i64 v5)).cell? ⟨wr.heap.size, 1, none⟩ = some (.pointer (some ⟨w.heap.size + 1, 2, none⟩)) := (blk_cell (blk_far hp5 (p := ⟨w.heap.size + 1, 2, none⟩) HP4.out (.int .i64 v5)) 1).trans rfl; obtain ⟨z0, z1, z2, z3, z4⟩ := mi_facts hb5; obtain ⟨y0, y1, y2, y3, y4⟩ := mi_free hb5; have HB5 := Aside0.mk hb5; clear hb5 hp5 hr5)))
        all_goals
         go_wp2_with (fail)
         go_roundg k3
         case measure => omega
         case rel => exact ⟨2, v0, v5, 0, false, k5, rfl, by first | rfl | simp, ⟨by have := HI.out; omega⟩, HOK, ⟨by first | exact hR5.out.set HN.out H8.out 2 _ | exact (hR5.out.set HN.out H8.out 2 _).drew⟩, ⟨by first | exact blk_far HR3.out (p := ⟨w.heap.size + 1, 2, none⟩) HNE.out _ | exact blk_drew (blk_far HR3.out (p := ⟨w.heap.size + 1, 2, none⟩) HNE.out _)⟩, ⟨by first | exact mi_a HB5.out v5 | exact blk_drew (mi_a HB5.out v5)⟩, ⟨by first | exact HC6.out.setNew (a := ⟨w.heap.size + 1, 2, none⟩) HZ.out _ | exact (HC6.out.setNew (a := ⟨w.heap.size + 1, 2, none⟩) HZ.out _).drew⟩⟩
      ·exact ⟨rfl, .inr ⟨p, rfl, ⟨show instrP s (op, wd, d, true, b, im) t = .error p from instr_err1 H45.out HS1.out (by unfold optRegP commaP; simp [hr.out, Except.bind])⟩, ⟨(HC.out.alloc _).trans hC.out⟩⟩⟩
     ·subst hf
      go_wp2_with (fail)
      obtain ⟨z0, z1, z2, z3, z4⟩ := mi_facts HBa.out
      obtain ⟨y0, y1, y2, y3, y4⟩ := mi_free HBa.out
      have c1 := (blk_cell HP.out 1).trans rfl
      cases hrg : registerP s k with
      | error p =>
       have HRG := Aside0.mk hrg
       have HERR := Aside0.mk (show instrP s (op, wd, d, true, b, im) t = .error p from instr_err1 H45.out HS1.out (by unfold optRegP commaP; simp [hrg, Except.bind]))
       clear hrg
       refine wp_region_held_drew (S := (fun w' => w'.cell? ⟨wr.heap.size, 1, none⟩ = some (.pointer (some ⟨w.heap.size + 1, 2, none⟩)))) (by kernel_rfl) (by exact c1) (fun hHeld => ?_)
       refine wpAnyH_take (i := 0) (v := ?v0_3) rfl (by kernel_rfl) (by kernel_rfl) (by kernel_rfl) (fun _ _ _ h => h) (Or.inl ⟨by rfl, ?y0_3⟩) (by assumption) ?s0_3
       case y0_3 => (intro w hSw; (try dsimp only at hSw); go_simp; try with_reducible rfl)
       try simp only [Act.put, List.setIfInBounds_toArray, List.set_cons_zero, List.set_cons_succ]
       refine wpAnyH_take (i := 1) (v := ?v1_3) rfl (by kernel_rfl) (by kernel_rfl) (by kernel_rfl) (fun _ _ _ h => h) (Or.inl ⟨by rfl, ?y1_3⟩) (by assumption) ?s1_3
       case y1_3 => (intro w hSw; (try dsimp only at hSw); go_simp; try with_reducible rfl)
       try simp only [Act.put, List.setIfInBounds_toArray, List.set_cons_zero, List.set_cons_succ]
       refine wpAnyH_take (i := 2) (v := ?v2_3) rfl (by kernel_rfl) (by kernel_rfl) (by kernel_rfl) (fun _ _ _ h => h) (Or.inl ⟨by rfl, ?y2_3⟩) (by assumption) ?s2_3
       case y2_3 => (intro w hSw; (try dsimp only at hSw); go_simp; try with_reducible rfl)
       try simp only [Act.put, List.setIfInBounds_toArray, List.set_cons_zero, List.set_cons_succ]
       refine wpAnyH_ready (rs := [3]) (by kernel_rfl) (by simp) ?_
       refine AllReadyH.cons rfl (fun K hK => ?_) AllReadyH.nil
       go_simp
       go_at_call 64; refine (register_bad (by first | exact HRa.out | exact HRa.out.drew) HRG.out).mono ?_; rintro e w5 ⟨rfl, hC5⟩
       exact ⟨rfl, .inr ⟨_, rfl, HERR, ⟨by first | exact (HC.out.alloc (.cells #[.bool true, .pointer (some ⟨w.heap.size + 1, 2, none⟩)] 114 (0, 0))).trans hC5.out | exact ((HC.out.alloc (.cells #[.bool true, .pointer (some ⟨w.heap.size + 1, 2, none⟩)] 114 (0, 0))).drew).trans hC5.out⟩⟩⟩
      | ok vk =>
       obtain ⟨v5, k5⟩ := vk
       have HRG := Aside0.mk hrg
       have HOK := Aside0.mk (show St s d true b t 2 v0 v5 0 false k5 from ⟨rfl, _, _, HS1.out, by unfold optRegP commaP; simp [hrg, Except.bind]⟩)
       clear hrg
       go_region_held3 (fun w' => w'.cell? ⟨wr.heap.size, 1, none⟩ = some (.pointer (some ⟨w.heap.size + 1, 2, none⟩))) (first | exact c1 | exact c5 | exact c6) (first | (go_at_call 64; refine (register_ok (by first | exact HRa.out | exact HRa.out.drew) HRG.out).mono ?_; rintro e w5 ⟨rfl, hR5, hC5⟩; (have hb5 : w5.heap[w.heap.size + 1]? = some (mic op v0 0 0 0) := hC5.out.blk (by first | exact HBa.out | exact blk_drew HBa.out) HN.out; have hp5 : w5.heap[wr.heap.size]? = some (Obj.cells #[.bool true, .pointer (some ⟨w.heap.size + 1, 2, none⟩)] 114 (0, 0)) := hC5.out.blk (by first | exact HP.out | exact blk_drew HP.out) HPN.out; have hr5 : w5.heap[w.heap.size]? = some (rowo (op, wd, d, true, b, im)) := hC5.out.blk (by first | exact HB3a.out | exact blk_drew HB3a.out) HN3.out; have HR3 := Aside0.mk hr5; have HC6 : Aside0 (Chg (· = g) w w5) := ⟨by first | exact (HC.out.alloc (.cells #[.bool true, .pointer (some ⟨w.heap.size + 1, 2, none⟩)] 114 (0, 0))).trans hC5.out | exact ((HC.out.alloc (.cells #[.bool true, .pointer (some ⟨w.heap.size + 1, 2, none⟩)] 114 (0, 0))).drew).trans hC5.out⟩; have c5 := (blk_cell hp5 1).trans rfl; have c6 : (w5.setCell ⟨w.heap.size + 1, 2, none⟩ (.int .i64 v5)).cell? ⟨wr.heap.size, 1, none⟩ = some (.pointer (some ⟨w.heap.size + 1, 2, none⟩)) := (blk_cell (blk_far hp5 (p := ⟨w.heap.size + 1, 2, none⟩) HP4.out (.int .i64 v5)) 1).trans rfl; obtain ⟨z0, z1, z2, z3, z4⟩ := mi_facts hb5; obtain ⟨y0, y1, y2, y3, y4⟩ := mi_free hb5; have HB5 := Aside0.mk hb5; clear hb5 hp5 hr5)))
       all_goals
        go_wp2_with (fail)
        go_roundg k3
        case measure => omega
        case rel => exact ⟨2, v0, v5, 0, false, k5, rfl, by first | rfl | simp, ⟨by have := HI.out; omega⟩, HOK, ⟨by first | exact hR5.out.set HN.out H8.out 2 _ | exact (hR5.out.set HN.out H8.out 2 _).drew⟩, ⟨by first | exact blk_far HR3.out (p := ⟨w.heap.size + 1, 2, none⟩) HNE.out _ | exact blk_drew (blk_far HR3.out (p := ⟨w.heap.size + 1, 2, none⟩) HNE.out _)⟩, ⟨by first | exact mi_a HB5.out v5 | exact blk_drew (mi_a HB5.out v5)⟩, ⟨by first | exact HC6.out.setNew (a := ⟨w.heap.size + 1, 2, none⟩) HZ.out _ | exact (HC6.out.setNew (a := ⟨w.heap.size + 1, 2, none⟩) HZ.out _).drew⟩⟩
   ·cases hb : b
    ·subst hb
     obtain ⟨e2, f1, k1, hs1, hs2⟩ := HS.out
     subst e2
     have HS1 := Aside0.mk hs1
     have HS2 := Aside0.mk hs2
     clear hs1 hs2
     go_wp2_with (fail)
     go_roundg k3
     case measure => omega
     case rel => exact ⟨3, v0, v1, 0, f, k, rfl, by first | rfl | simp, ⟨by have := HI.out; omega⟩, ⟨⟨_, _, _, _, HS1.out, HS2.out, by unfold optRegP; rfl⟩⟩, ⟨HR.out.alloc _⟩, ⟨blk_alloc HB3.out _⟩, ⟨blk_alloc HB4.out _⟩, ⟨HC.out.alloc _⟩⟩
    ·subst hb
     have HP := Aside0.mk (blk_new wr (.cells #[.bool true, .pointer (some ⟨w.heap.size + 1, 3, none⟩)] 114 (0, 0)))
     have HPN : Aside0 (wr.heap.size ≠ g) := ⟨by have := HC.out.size; have := HG.out; omega⟩
     have HP4 : Aside0 (wr.heap.size ≠ w.heap.size + 1) := ⟨by have := blk_lt HB4.out; omega⟩
     have HNE : Aside0 (w.heap.size ≠ w.heap.size + 1) := ⟨by omega⟩
     have HRa := Aside0.mk (HR.out.alloc (.cells #[.bool true, .pointer (some ⟨w.heap.size + 1, 3, none⟩)] 114 (0, 0)))
     have HBa := Aside0.mk (blk_alloc HB4.out (.cells #[.bool true, .pointer (some ⟨w.heap.size + 1, 3, none⟩)] 114 (0, 0)))
     have HB3a := Aside0.mk (blk_alloc HB3.out (.cells #[.bool true, .pointer (some ⟨w.heap.size + 1, 3, none⟩)] 114 (0, 0)))
     obtain ⟨e2, f1, k1, hs1, hs2⟩ := HS.out
     subst e2
     have HS1 := Aside0.mk hs1
     have HS2 := Aside0.mk hs2
     clear hs1 hs2
     cases hf : f
     ·subst hf
      go_wp2_with (go_at_call 36; refine (want_or ⟨#[44]⟩ HRa.out).mono ?_; rintro e w4 (⟨k4, rfl, hr4, hR4, hC4⟩ | ⟨p, rfl, hr, hC⟩))
      ·have HB4b : Aside0 (w4.heap[w.heap.size + 1]? = some (mic op v0 v1 0 0)) := ⟨hC4.out.blk HBa.out HN.out⟩
       have HB3b : Aside0 (w4.heap[w.heap.size]? = some (rowo (op, wd, d, a, true, im))) := ⟨hC4.out.blk HB3a.out HN3.out⟩
       have HPb : Aside0 (w4.heap[wr.heap.size]? = some (Obj.cells #[.bool true, .pointer (some ⟨w.heap.size + 1, 3, none⟩)] 114 (0, 0))) := ⟨hC4.out.blk HP.out HPN.out⟩
       obtain ⟨z0, z1, z2, z3, z4⟩ := mi_facts HB4b.out
       obtain ⟨y0, y1, y2, y3, y4⟩ := mi_free HB4b.out
       have c1 := (blk_cell HPb.out 1).trans rfl
       cases hrg : registerP s k4 with
       | error p =>
        have HRG := Aside0.mk hrg
        have HERR := Aside0.mk (show instrP s (op, wd, d, a, true, im) t = .error p from instr_err2 H45.out HS1.out HS2.out (by unfold optRegP commaP; simp [hr4.out, hrg, Except.bind]))
        clear hrg
        refine wp_region_held_drew (S := (fun w' => w'.cell? ⟨wr.heap.size, 1, none⟩ = some (.pointer (some ⟨w.heap.size + 1, 3, none⟩)))) (by kernel_rfl) (by exact c1) (fun hHeld => ?_)
        refine wpAnyH_take (i := 0) (v := ?v0_4) rfl (by kernel_rfl) (by kernel_rfl) (by kernel_rfl) (fun _ _ _ h => h) (Or.inl ⟨by rfl, ?y0_4⟩) (by assumption) ?s0_4
        case y0_4 => (intro w hSw; (try dsimp only at hSw); go_simp; try with_reducible rfl)
        try simp only [Act.put, List.setIfInBounds_toArray, List.set_cons_zero, List.set_cons_succ]
        refine wpAnyH_take (i := 1) (v := ?v1_4) rfl (by kernel_rfl) (by kernel_rfl) (by kernel_rfl) (fun _ _ _ h => h) (Or.inl ⟨by rfl, ?y1_4⟩) (by assumption) ?s1_4
        case y1_4 => (intro w hSw; (try dsimp only at hSw); go_simp; try with_reducible rfl)
        try simp only [Act.put, List.setIfInBounds_toArray, List.set_cons_zero, List.set_cons_succ]
        refine wpAnyH_take (i := 2) (v := ?v2_4) rfl (by kernel_rfl) (by kernel_rfl) (by kernel_rfl) (fun _ _ _ h => h) (Or.inl ⟨by rfl, ?y2_4⟩) (by assumption) ?s2_4
        case y2_4 => (intro w hSw; (try dsimp only at hSw); go_simp; try with_reducible rfl)
        try simp only [Act.put, List.setIfInBounds_toArray, List.set_cons_zero, List.set_cons_succ]
        refine wpAnyH_ready (rs := [3]) (by kernel_rfl) (by simp) ?_
        refine AllReadyH.cons rfl (fun K hK => ?_) AllReadyH.nil
        go_simp
        go_at_call 64; refine (register_bad (by first | exact hR4.out | exact hR4.out.drew) HRG.out).mono ?_; rintro e w5 ⟨rfl, hC5⟩
        exact ⟨rfl, .inr ⟨_, rfl, HERR, ⟨by first | exact ((HC.out.alloc (.cells #[.bool true, .pointer (some ⟨w.heap.size + 1, 3, none⟩)] 114 (0, 0))).trans hC4.out).trans hC5.out | exact (((HC.out.alloc (.cells #[.bool true, .pointer (some ⟨w.heap.size + 1, 3, none⟩)] 114 (0, 0))).trans hC4.out).drew).trans hC5.out⟩⟩⟩
       | ok vk =>
        obtain ⟨v5, k5⟩ := vk
        have HRG := Aside0.mk hrg
        have HOK := Aside0.mk (show St s d a true t 3 v0 v1 v5 false k5 from ⟨_, _, _, _, HS1.out, HS2.out, by unfold optRegP commaP; simp [hr4.out, hrg, Except.bind]⟩)
        clear hrg
        go_region_held3 (fun w' => w'.cell? ⟨wr.heap.size, 1, none⟩ = some (.pointer (some ⟨w.heap.size + 1, 3, none⟩))) (first | exact c1 | exact c5 | exact c6) (first | (go_at_call 64; refine (register_ok (by first | exact hR4.out | exact hR4.out.drew) HRG.out).mono ?_; rintro e w5 ⟨rfl, hR5, hC5⟩; (have hb5 : w5.heap[w.heap.size + 1]? = some (mic op v0 v1 0 0) := hC5.out.blk (by first | exact HB4b.out | exact blk_drew HB4b.out) HN.out; have hp5 : w5.heap[wr.heap.size]? = some (Obj.cells #[.bool true, .pointer (some ⟨w.heap.size + 1, 3, none⟩)] 114 (0, 0)) := hC5.out.blk (by first | exact HPb.out | exact blk_drew HPb.out) HPN.out; have hr5 : w5.heap[w.heap.size]? = some (rowo (op, wd, d, a, true, im)) := hC5.out.blk (by first | exact HB3b.out | exact blk_drew HB3b.out) HN3.out; have HR3 := Aside0.mk hr5; have HC6 : Aside0 (Chg (· = g) w w5) := ⟨by first | exact ((HC.out.alloc (.cells #[.bool true, .pointer (some ⟨w.heap.size + 1, 3, none⟩)] 114 (0, 0))).trans hC4.out).trans hC5.out | exact (((HC.out.alloc (.cells #[.bool true, .pointer (some ⟨w.heap.size + 1, 3, none⟩)] 114 (0, 0))).trans hC4.out).drew).trans hC5.out⟩; have c5 := (blk_cell hp5 1).trans rfl; have c6 : (w5.setCell ⟨w.heap.size + 1, 3, none⟩ (.int .i64 v5)).cell? ⟨wr.heap.size, 1, none⟩ = some (.pointer (some ⟨w.heap.size + 1, 3, none⟩)) := (blk_cell (blk_far hp5 (p := ⟨w.heap.size + 1, 3, none⟩) HP4.out (.int .i64 v5)) 1).trans rfl; obtain ⟨z0, z1, z2, z3, z4⟩ := mi_facts hb5; obtain ⟨y0, y1, y2, y3, y4⟩ := mi_free hb5; have HB5 := Aside0.mk hb5; clear hb5 hp5 hr5)))
        all_goals
         go_wp2_with (fail)
         go_roundg k3
         case measure => omega
         case rel => exact ⟨3, v0, v1, v5, false, k5, rfl, by first | rfl | simp, ⟨by have := HI.out; omega⟩, HOK, ⟨by first | exact hR5.out.set HN.out H8.out 3 _ | exact (hR5.out.set HN.out H8.out 3 _).drew⟩, ⟨by first | exact blk_far HR3.out (p := ⟨w.heap.size + 1, 3, none⟩) HNE.out _ | exact blk_drew (blk_far HR3.out (p := ⟨w.heap.size + 1, 3, none⟩) HNE.out _)⟩, ⟨by first | exact mi_b HB5.out v5 | exact blk_drew (mi_b HB5.out v5)⟩, ⟨by first | exact HC6.out.setNew (a := ⟨w.heap.size + 1, 3, none⟩) HZ.out _ | exact (HC6.out.setNew (a := ⟨w.heap.size + 1, 3, none⟩) HZ.out _).drew⟩⟩
      ·exact ⟨rfl, .inr ⟨p, rfl, ⟨show instrP s (op, wd, d, a, true, im) t = .error p from instr_err2 H45.out HS1.out HS2.out (by unfold optRegP commaP; simp [hr.out, Except.bind])⟩, ⟨(HC.out.alloc _).trans hC.out⟩⟩⟩
     ·subst hf
      go_wp2_with (fail)
      obtain ⟨z0, z1, z2, z3, z4⟩ := mi_facts HBa.out
      obtain ⟨y0, y1, y2, y3, y4⟩ := mi_free HBa.out
      have c1 := (blk_cell HP.out 1).trans rfl
      cases hrg : registerP s k with
      | error p =>
       have HRG := Aside0.mk hrg
       have HERR := Aside0.mk (show instrP s (op, wd, d, a, true, im) t = .error p from instr_err2 H45.out HS1.out HS2.out (by unfold optRegP commaP; simp [hrg, Except.bind]))
       clear hrg
       refine wp_region_held_drew (S := (fun w' => w'.cell? ⟨wr.heap.size, 1, none⟩ = some (.pointer (some ⟨w.heap.size + 1, 3, none⟩)))) (by kernel_rfl) (by exact c1) (fun hHeld => ?_)
       refine wpAnyH_take (i := 0) (v := ?v0_5) rfl (by kernel_rfl) (by kernel_rfl) (by kernel_rfl) (fun _ _ _ h => h) (Or.inl ⟨by rfl, ?y0_5⟩) (by assumption) ?s0_5
       case y0_5 => (intro w hSw; (try dsimp only at hSw); go_simp; try with_reducible rfl)
       try simp only [Act.put, List.setIfInBounds_toArray, List.set_cons_zero, List.set_cons_succ]
       refine wpAnyH_take (i := 1) (v := ?v1_5) rfl (by kernel_rfl) (by kernel_rfl) (by kernel_rfl) (fun _ _ _ h => h) (Or.inl ⟨by rfl, ?y1_5⟩) (by assumption) ?s1_5
       case y1_5 => (intro w hSw; (try dsimp only at hSw); go_simp; try with_reducible rfl)
       try simp only [Act.put, List.setIfInBounds_toArray, List.set_cons_zero, List.set_cons_succ]
       refine wpAnyH_take (i := 2) (v := ?v2_5) rfl (by kernel_rfl) (by kernel_rfl) (by kernel_rfl) (fun _ _ _ h => h) (Or.inl ⟨by rfl, ?y2_5⟩) (by assumption) ?s2_5
       case y2_5 => (intro w hSw; (try dsimp only at hSw); go_simp; try with_reducible rfl)
       try simp only [Act.put, List.setIfInBounds_toArray, List.set_cons_zero, List.set_cons_succ]
       refine wpAnyH_ready (rs := [3]) (by kernel_rfl) (by simp) ?_
       refine AllReadyH.cons rfl (fun K hK => ?_) AllReadyH.nil
       go_simp
       go_at_call 64; refine (register_bad (by first | exact HRa.out | exact HRa.out.drew) HRG.out).mono ?_; rintro e w5 ⟨rfl, hC5⟩
       exact ⟨rfl, .inr ⟨_, rfl, HERR, ⟨by first | exact (HC.out.alloc (.cells #[.bool true, .pointer (some ⟨w.heap.size + 1, 3, none⟩)] 114 (0, 0))).trans hC5.out | exact ((HC.out.alloc (.cells #[.bool true, .pointer (some ⟨w.heap.size + 1, 3, none⟩)] 114 (0, 0))).drew).trans hC5.out⟩⟩⟩
      | ok vk =>
       obtain ⟨v5, k5⟩ := vk
       have HRG := Aside0.mk hrg
       have HOK := Aside0.mk (show St s d a true t 3 v0 v1 v5 false k5 from ⟨_, _, _, _, HS1.out, HS2.out, by unfold optRegP commaP; simp [hrg, Except.bind]⟩)
       clear hrg
       go_region_held3 (fun w' => w'.cell? ⟨wr.heap.size, 1, none⟩ = some (.pointer (some ⟨w.heap.size + 1, 3, none⟩))) (first | exact c1 | exact c5 | exact c6) (first | (go_at_call 64; refine (register_ok (by first | exact HRa.out | exact HRa.out.drew) HRG.out).mono ?_; rintro e w5 ⟨rfl, hR5, hC5⟩; (have hb5 : w5.heap[w.heap.size + 1]? = some (mic op v0 v1 0 0) := hC5.out.blk (by first | exact HBa.out | exact blk_drew HBa.out) HN.out; have hp5 : w5.heap[wr.heap.size]? = some (Obj.cells #[.bool true, .pointer (some ⟨w.heap.size + 1, 3, none⟩)] 114 (0, 0)) := hC5.out.blk (by first | exact HP.out | exact blk_drew HP.out) HPN.out; have hr5 : w5.heap[w.heap.size]? = some (rowo (op, wd, d, a, true, im)) := hC5.out.blk (by first | exact HB3a.out | exact blk_drew HB3a.out) HN3.out; have HR3 := Aside0.mk hr5; have HC6 : Aside0 (Chg (· = g) w w5) := ⟨by first | exact (HC.out.alloc (.cells #[.bool true, .pointer (some ⟨w.heap.size + 1, 3, none⟩)] 114 (0, 0))).trans hC5.out | exact ((HC.out.alloc (.cells #[.bool true, .pointer (some ⟨w.heap.size + 1, 3, none⟩)] 114 (0, 0))).drew).trans hC5.out⟩; have c5 := (blk_cell hp5 1).trans rfl; have c6 : (w5.setCell ⟨w.heap.size + 1, 3, none⟩ (.int .i64 v5)).cell? ⟨wr.heap.size, 1, none⟩ = some (.pointer (some ⟨w.heap.size + 1, 3, none⟩)) := (blk_cell (blk_far hp5 (p := ⟨w.heap.size + 1, 3, none⟩) HP4.out (.int .i64 v5)) 1).trans rfl; obtain ⟨z0, z1, z2, z3, z4⟩ := mi_facts hb5; obtain ⟨y0, y1, y2, y3, y4⟩ := mi_free hb5; have HB5 := Aside0.mk hb5; clear hb5 hp5 hr5)))
       all_goals
        go_wp2_with (fail)
        go_roundg k3
        case measure => omega
        case rel => exact ⟨3, v0, v1, v5, false, k5, rfl, by first | rfl | simp, ⟨by have := HI.out; omega⟩, HOK, ⟨by first | exact hR5.out.set HN.out H8.out 3 _ | exact (hR5.out.set HN.out H8.out 3 _).drew⟩, ⟨by first | exact blk_far HR3.out (p := ⟨w.heap.size + 1, 3, none⟩) HNE.out _ | exact blk_drew (blk_far HR3.out (p := ⟨w.heap.size + 1, 3, none⟩) HNE.out _)⟩, ⟨by first | exact mi_b HB5.out v5 | exact blk_drew (mi_b HB5.out v5)⟩, ⟨by first | exact HC6.out.setNew (a := ⟨w.heap.size + 1, 3, none⟩) HZ.out _ | exact (HC6.out.setNew (a := ⟨w.heap.size + 1, 3, none⟩) HZ.out _).drew⟩⟩
   ·obtain ⟨f1, k1, f2, k2, hs1, hs2, hs3⟩ := HS.out
    have HT := Aside0.mk (show instrP s (op, wd, d, a, b, im) t = tailP s op v0 v1 v2 im f k from instr_tail H45.out hs1 hs2 hs3)
    clear hs1 hs2 hs3
    by_cases hm : im = 0
    ·subst hm
     go_wp2_with (first | (go_at_call 36; refine (want_or ⟨#[59]⟩ HR.out).mono ?_; rintro e w6 (⟨k6, rfl, hr6, hR6, hC6⟩ | ⟨p, rfl, hr, hC⟩); (have hb := hC6.out.blk HB4.out HN.out; obtain ⟨z0, z1, z2, z3, z4⟩ := mi_facts hb; obtain ⟨y0, y1, y2, y3, y4⟩ := mi_free hb; have HB6 := Aside0.mk hb; clear hb)))
     ·refine bodyPost_ret (results_cell_row rfl _ _ (w.heap.size + 1) 26 #[.int .i64 op, .int .i64 v0, .int .i64 v1, .int .i64 v2, .int .i64 0] (0, 0) _ rfl (miSet_blk HB6.out (op, v0, v1, v2, 0)) Tryd.underlying26 rfl sz26) rfl ?_
      exact .inl ⟨(op, v0, v1, v2, 0), k6, rfl, ⟨by rw [HT.out]; unfold tailP; simp [hr6.out, Except.bind]⟩, ⟨miSet_rd hR6.out HN.out H8.out (op, v0, v1, v2, 0)⟩, ⟨miSet_chg (HC.out.trans hC6.out) HZ.out (op, v0, v1, v2, 0)⟩⟩
     ·exact ⟨rfl, .inr ⟨p, rfl, ⟨by rw [HT.out]; unfold tailP; simp [hr.out, Except.bind]⟩, ⟨HC.out.trans hC.out⟩⟩⟩
    ·have hmb : (im != 0) = true := bne_iff_ne.mpr hm
     have HM := Aside0.mk hm
     clear hm
     cases hf : f
     ·subst hf
      go_wp2_with (first | (go_at_call 36; refine (want_or ⟨#[59]⟩ (hR5.out.set HN.out H8.out 4 (.int .i64 v5))).mono ?_; rintro e w6 (⟨k6, rfl, hr6, hR6, hC6⟩ | ⟨p, rfl, hr, hC⟩); (have hb := hC6.out.blk (mi_imm HB5.out v5) HN.out; obtain ⟨z0, z1, z2, z3, z4⟩ := mi_facts hb; obtain ⟨y0, y1, y2, y3, y4⟩ := mi_free hb; have HB6 := Aside0.mk hb; clear hb)) | (go_at_call 37; refine (number_or im hR4.out).mono ?_; rintro e w5 (⟨v5, k5, rfl, hr5, hR5, hC5⟩ | ⟨p, rfl, hr, hC⟩); (have hb := hC5.out.blk HB4b.out HN.out; obtain ⟨z0, z1, z2, z3, z4⟩ := mi_facts hb; obtain ⟨y0, y1, y2, y3, y4⟩ := mi_free hb; have HB5 := Aside0.mk hb; clear hb)) | (go_at_call 36; refine (want_or ⟨#[44]⟩ HR.out).mono ?_; rintro e w4 (⟨k4, rfl, hr4, hR4, hC4⟩ | ⟨p, rfl, hr, hC⟩); (have HB4b := Aside0.mk (hC4.out.blk HB4.out HN.out); have hr3 := hC4.out.blk HB3.out HN3.out; obtain ⟨p0, p2, p3, p4, p5⟩ := row_facts hr3; clear hr3)))
      ·refine bodyPost_ret (results_cell_row rfl _ _ (w.heap.size + 1) 26 #[.int .i64 op, .int .i64 v0, .int .i64 v1, .int .i64 v2, .int .i64 v5] (0, 0) _ rfl (miSet_blk HB6.out (op, v0, v1, v2, v5)) Tryd.underlying26 rfl sz26) rfl ?_
       exact .inl ⟨(op, v0, v1, v2, v5), k6, rfl, ⟨by rw [HT.out]; unfold tailP commaP; simp [HM.out, hr4.out, hr5.out, hr6.out, Except.bind]⟩, ⟨miSet_rd hR6.out HN.out H8.out (op, v0, v1, v2, v5)⟩, ⟨miSet_chg ((((HC.out.trans hC4.out).trans hC5.out).setNew (a := ⟨w.heap.size + 1, 4, none⟩) HZ.out _).trans hC6.out) HZ.out (op, v0, v1, v2, v5)⟩⟩
      ·exact ⟨rfl, .inr ⟨p, rfl, ⟨by rw [HT.out]; unfold tailP commaP; simp [HM.out, hr4.out, hr5.out, hr.out, Except.bind]⟩, ⟨(((HC.out.trans hC4.out).trans hC5.out).setNew (a := ⟨w.heap.size + 1, 4, none⟩) HZ.out _).trans hC.out⟩⟩⟩
      ·exact ⟨rfl, .inr ⟨p, rfl, ⟨by rw [HT.out]; unfold tailP commaP; simp [HM.out, hr4.out, hr.out, Except.bind]⟩, ⟨(HC.out.trans hC4.out).trans hC.out⟩⟩⟩
      ·exact ⟨rfl, .inr ⟨p, rfl, ⟨by rw [HT.out]; unfold tailP commaP; simp [HM.out, hr.out, Except.bind]⟩, ⟨HC.out.trans hC.out⟩⟩⟩
     ·subst hf
      go_wp2_with (first | (go_at_call 36; refine (want_or ⟨#[59]⟩ (hR5.out.set HN.out H8.out 4 (.int .i64 v5))).mono ?_; rintro e w6 (⟨k6, rfl, hr6, hR6, hC6⟩ | ⟨p, rfl, hr, hC⟩); (have hb := hC6.out.blk (mi_imm HB5.out v5) HN.out; obtain ⟨z0, z1, z2, z3, z4⟩ := mi_facts hb; obtain ⟨y0, y1, y2, y3, y4⟩ := mi_free hb; have HB6 := Aside0.mk hb; clear hb)) | (go_at_call 37; refine (number_or im HR.out).mono ?_; rintro e w5 (⟨v5, k5, rfl, hr5, hR5, hC5⟩ | ⟨p, rfl, hr, hC⟩); (have hb := hC5.out.blk HB4.out HN.out; obtain ⟨z0, z1, z2, z3, z4⟩ := mi_facts hb; obtain ⟨y0, y1, y2, y3, y4⟩ := mi_free hb; have HB5 := Aside0.mk hb; clear hb)))
      ·refine bodyPost_ret (results_cell_row rfl _ _ (w.heap.size + 1) 26 #[.int .i64 op, .int .i64 v0, .int .i64 v1, .int .i64 v2, .int .i64 v5] (0, 0) _ rfl (miSet_blk HB6.out (op, v0, v1, v2, v5)) Tryd.underlying26 rfl sz26) rfl ?_
       exact .inl ⟨(op, v0, v1, v2, v5), k6, rfl, ⟨by rw [HT.out]; unfold tailP commaP; simp [HM.out, hr5.out, hr6.out, Except.bind]⟩, ⟨miSet_rd hR6.out HN.out H8.out (op, v0, v1, v2, v5)⟩, ⟨miSet_chg (((HC.out.trans hC5.out).setNew (a := ⟨w.heap.size + 1, 4, none⟩) HZ.out _).trans hC6.out) HZ.out (op, v0, v1, v2, v5)⟩⟩
      ·exact ⟨rfl, .inr ⟨p, rfl, ⟨by rw [HT.out]; unfold tailP commaP; simp [HM.out, hr5.out, hr.out, Except.bind]⟩, ⟨((HC.out.trans hC5.out).setNew (a := ⟨w.heap.size + 1, 4, none⟩) HZ.out _).trans hC.out⟩⟩⟩
      ·exact ⟨rfl, .inr ⟨p, rfl, ⟨by rw [HT.out]; unfold tailP commaP; simp [HM.out, hr.out, Except.bind]⟩, ⟨HC.out.trans hC.out⟩⟩⟩
theorem instr_or {w : World} {g : Nat} {s : ByteArray} {t : Tok} (x : Row20) (h : RdAt w g s t) : Calls Tryd.prog 40 #[.pointer (some ⟨g, 0, none⟩), rowv x] w (IOr g s w (instrP s x t)) := by
 by_cases h4 : x.1 = 4
 ·exact instr_load x h h4
 ·by_cases h5 : x.1 = 5
  ·exact instr_store x h h5
  ·exact instr_rest x.1 x.2.1 x.2.2.1 x.2.2.2.1 x.2.2.2.2.1 x.2.2.2.2.2 h h4 h5
end Go.Proofs.YtlaijeeeblcinaaDoor.A
