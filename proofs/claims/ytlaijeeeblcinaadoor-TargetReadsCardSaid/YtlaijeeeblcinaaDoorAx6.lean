/- Written by wip/tools/xprint.py, a program of this session that drives the kit's printer. Not trusted: Lean checks it. -/
import Derived.Test.YtlaijeeeblcinaaDoorAx0
import Derived.Test.YtlaijeeeblcinaaDoorAx4
import Derived.Test.YtlaijeeeblcinaaDoorAx5
set_option linter.all false
set_option maxHeartbeats 8000000
set_option maxRecDepth 100000
namespace Go.Proofs.YtlaijeeeblcinaaDoor.A
open Go.RowKit Go.Proofs.YtlaijeeeblcinaaDoorW.PrintWords Go.Proofs.YtlaijeeeblcinaaDoorW.PrintLast Go.Proofs.YtlaijeeeblcinaaDoorW.PrintMore
attribute [local go_sem] max2_int min2_int max_two min_two max_three min_three max_four min_four   -- for this text's walks alone
set_option linter.unusedVariables false
set_option linter.unusedSimpArgs false
/-! ### cupelref20_read: function 66 -/
mutual
def cupelref20_read.l0 : Nat → ByteArray → Int → Int → Option (Int × Int × Int × ByteArray × Int)
 | 0, _, _, _ => none
 | k + 1, x0, x1, x6 => if x6 < (x0.size : Int) then (if 0 ≤ x6 then ((cupelref20_lower.f (bt x0 x6)).bind fun t205 => (if t205 = true then (cupelref20_read.l0 k x0 x1 (wrap64 (x6 + 1))) else ((cupelref20_digit.f (bt x0 x6)).bind fun t206 => (if t206 = true then (cupelref20_read.l0 k x0 x1 (wrap64 (x6 + 1))) else (if 0 ≤ x1 then (if x1 ≤ x6 then (if x6 ≤ (x0.size : Int) then (some (x1, x6, 97, x0.extract (x1 : Int).toNat (x6 : Int).toNat, 0)) else (none)) else (none)) else (none)))))) else (none)) else (if 0 ≤ x1 then (if x1 ≤ x6 then (if x6 ≤ (x0.size : Int) then (some (x1, x6, 97, x0.extract (x1 : Int).toNat (x6 : Int).toNat, 0)) else (none)) else (none)) else (none))
def cupelref20_read.j1 : Nat → ByteArray → Int → Int → Int → Int → Option (Int × Int × Int × ByteArray × Int)
 | 0, _, _, _, _, _ => none
 | k + 1, x0, x1, x5, x6, x7 => if x7 < (x0.size : Int) then (if 0 ≤ x7 then ((cupelref20_digit.f (bt x0 x7)).bind fun t207 => (cupelref20_read.j2 k x0 x1 x5 x6 x7 t207)) else (none)) else (cupelref20_read.j2 k x0 x1 x5 x6 x7 false)
def cupelref20_read.j2 : Nat → ByteArray → Int → Int → Int → Int → Bool → Option (Int × Int × Int × ByteArray × Int)
 | 0, _, _, _, _, _, _ => none
 | k + 1, x0, x1, x5, x6, x7, x66 => if x66 = true then (cupelref20_read.l1 k x0 x1 x5 x7 x7) else (if x5 = 44 then (if 0 ≤ x1 then (if x1 ≤ x6 then (if x6 ≤ (x0.size : Int) then (some (x1, x6, 115, x0.extract (x1 : Int).toNat (x6 : Int).toNat, 0)) else (none)) else (none)) else (none)) else (if x5 = 59 then (if 0 ≤ x1 then (if x1 ≤ x6 then (if x6 ≤ (x0.size : Int) then (some (x1, x6, 115, x0.extract (x1 : Int).toNat (x6 : Int).toNat, 0)) else (none)) else (none)) else (none)) else (if x5 = 40 then (if 0 ≤ x1 then (if x1 ≤ x6 then (if x6 ≤ (x0.size : Int) then (some (x1, x6, 115, x0.extract (x1 : Int).toNat (x6 : Int).toNat, 0)) else (none)) else (none)) else (none)) else (if x5 = 41 then (if 0 ≤ x1 then (if x1 ≤ x6 then (if x6 ≤ (x0.size : Int) then (some (x1, x6, 115, x0.extract (x1 : Int).toNat (x6 : Int).toNat, 0)) else (none)) else (none)) else (none)) else (some (x1, x1, 33, (⟨#[]⟩ : ByteArray), 0))))))
def cupelref20_read.j4 : Nat → ByteArray → Int → Int → Int → Int → Option (Int × Int × Int × ByteArray × Int)
 | 0, _, _, _, _, _ => none
 | k + 1, x0, x1, x5, x6, x7 => if 0 ≤ x7 then (if x7 ≤ x6 then (if x6 ≤ (x0.size : Int) then ((cupelref20_integer.f k (x0.extract (x7 : Int).toNat (x6 : Int).toNat) (x5 == 45)).bind fun bt209 => (if bt209.2 = true then (if x7 < (x0.size : Int) then (if (bt x0 x7) = 48 then (if x6 > (wrap64 (x7 + 1)) then (cupelref20_read.j5 k x1 x6 bt209.1 true) else (cupelref20_read.j5 k x1 x6 bt209.1 (x5 == 45))) else (cupelref20_read.j5 k x1 x6 bt209.1 false)) else (none)) else (cupelref20_read.j5 k x1 x6 bt209.1 true))) else (none)) else (none)) else (none)
def cupelref20_read.j5 : Nat → Int → Int → Int → Bool → Option (Int × Int × Int × ByteArray × Int)
 | 0, _, _, _, _ => none
 | k + 1, x1, x6, x8, x107 => if x107 = true then (some (x1, x1, 33, (⟨#[]⟩ : ByteArray), 0)) else (some (x1, x6, 48, (⟨#[]⟩ : ByteArray), x8))
def cupelref20_read.l1 : Nat → ByteArray → Int → Int → Int → Int → Option (Int × Int × Int × ByteArray × Int)
 | 0, _, _, _, _, _ => none
 | k + 1, x0, x1, x5, x6, x7 => if x6 < (x0.size : Int) then (if 0 ≤ x6 then ((cupelref20_digit.f (bt x0 x6)).bind fun t208 => (if t208 = true then (cupelref20_read.l1 k x0 x1 x5 (wrap64 (x6 + 1)) x7) else (cupelref20_read.j4 k x0 x1 x5 x6 x7))) else (none)) else (cupelref20_read.j4 k x0 x1 x5 x6 x7)
end
def cupelref20_read.f (k : Nat) (a0 : ByteArray) (a1 : Int) : Option (Int × Int × Int × ByteArray × Int) := (cupelref20_skip.f k a0 a1).bind fun t203 => (if t203 = (a0.size : Int) then (some (t203, t203, 46, (⟨#[]⟩ : ByteArray), 0)) else (if 0 ≤ t203 then (if t203 < (a0.size : Int) then ((cupelref20_lower.f (bt a0 t203)).bind fun t204 => (if t204 = true then (cupelref20_read.l0 k a0 t203 (wrap64 (t203 + 1))) else (if (bt a0 t203) = 45 then (cupelref20_read.j1 k a0 t203 (bt a0 t203) (wrap64 (t203 + 1)) (wrap64 (t203 + 1))) else (cupelref20_read.j1 k a0 t203 (bt a0 t203) (wrap64 (t203 + 1)) t203)))) else (none)) else (none)))
theorem cupelref20_read.mono_l : ∀ k, (∀ y0 y1 y2, LeO (cupelref20_read.l0 k y0 y1 y2) (cupelref20_read.l0 (k + 1) y0 y1 y2)) ∧ (∀ y0 y1 y2 y3 y4, LeO (cupelref20_read.j1 k y0 y1 y2 y3 y4) (cupelref20_read.j1 (k + 1) y0 y1 y2 y3 y4)) ∧ (∀ y0 y1 y2 y3 y4 y5, LeO (cupelref20_read.j2 k y0 y1 y2 y3 y4 y5) (cupelref20_read.j2 (k + 1) y0 y1 y2 y3 y4 y5)) ∧ (∀ y0 y1 y2 y3 y4, LeO (cupelref20_read.j4 k y0 y1 y2 y3 y4) (cupelref20_read.j4 (k + 1) y0 y1 y2 y3 y4)) ∧ (∀ y0 y1 y2 y3, LeO (cupelref20_read.j5 k y0 y1 y2 y3) (cupelref20_read.j5 (k + 1) y0 y1 y2 y3)) ∧ (∀ y0 y1 y2 y3 y4, LeO (cupelref20_read.l1 k y0 y1 y2 y3 y4) (cupelref20_read.l1 (k + 1) y0 y1 y2 y3 y4))
 | 0 => ⟨fun _ _ _ r h => by simp [cupelref20_read.l0] at h, fun _ _ _ _ _ r h => by simp [cupelref20_read.j1] at h, fun _ _ _ _ _ _ r h => by simp [cupelref20_read.j2] at h, fun _ _ _ _ _ r h => by simp [cupelref20_read.j4] at h, fun _ _ _ _ r h => by simp [cupelref20_read.j5] at h, fun _ _ _ _ _ r h => by simp [cupelref20_read.l1] at h⟩
 | k + 1 => by
  obtain ⟨ih0, ih1, ih2, ih3, ih4, ih5⟩ := cupelref20_read.mono_l k
  refine ⟨?_, ?_, ?_, ?_, ?_, ?_⟩
  ·intro y0 y1 y2
   unfold cupelref20_read.l0
   repeat' first
   | (with_reducible exact ih0 _ _ _)
   | (with_reducible exact ih1 _ _ _ _ _)
   | (with_reducible exact ih2 _ _ _ _ _ _)
   | (with_reducible exact ih3 _ _ _ _ _)
   | (with_reducible exact ih4 _ _ _ _)
   | (with_reducible exact ih5 _ _ _ _ _)
   | (with_reducible exact cupelref20_integer.mono _ _ _)
   | (with_reducible exact cupelref20_skip.mono _ _ _)
   | (with_reducible exact LeO.refl _)
   | (with_reducible exact LeO.none _)
   | (with_reducible refine LeO.ite ?_ ?_)
   | (with_reducible refine LeO.bind ?_ (fun _ => ?_))
   | exact LeO.none _
   | refine LeO.ite ?_ ?_
   | refine LeO.bind ?_ (fun _ => ?_)
  ·intro y0 y1 y2 y3 y4
   unfold cupelref20_read.j1
   repeat' first
   | (with_reducible exact ih0 _ _ _)
   | (with_reducible exact ih1 _ _ _ _ _)
   | (with_reducible exact ih2 _ _ _ _ _ _)
   | (with_reducible exact ih3 _ _ _ _ _)
   | (with_reducible exact ih4 _ _ _ _)
   | (with_reducible exact ih5 _ _ _ _ _)
   | (with_reducible exact cupelref20_integer.mono _ _ _)
   | (with_reducible exact cupelref20_skip.mono _ _ _)
   | (with_reducible exact LeO.refl _)
   | (with_reducible exact LeO.none _)
   | (with_reducible refine LeO.ite ?_ ?_)
   | (with_reducible refine LeO.bind ?_ (fun _ => ?_))
   | exact LeO.none _
   | refine LeO.ite ?_ ?_
   | refine LeO.bind ?_ (fun _ => ?_)
  ·intro y0 y1 y2 y3 y4 y5
   unfold cupelref20_read.j2
   repeat' first
   | (with_reducible exact ih0 _ _ _)
   | (with_reducible exact ih1 _ _ _ _ _)
   | (with_reducible exact ih2 _ _ _ _ _ _)
   | (with_reducible exact ih3 _ _ _ _ _)
   | (with_reducible exact ih4 _ _ _ _)
   | (with_reducible exact ih5 _ _ _ _ _)
   | (with_reducible exact cupelref20_integer.mono _ _ _)
   | (with_reducible exact cupelref20_skip.mono _ _ _)
   | (with_reducible exact LeO.refl _)
   | (with_reducible exact LeO.none _)
   | (with_reducible refine LeO.ite ?_ ?_)
   | (with_reducible refine LeO.bind ?_ (fun _ => ?_))
   | exact LeO.none _
   | refine LeO.ite ?_ ?_
   | refine LeO.bind ?_ (fun _ => ?_)
  ·intro y0 y1 y2 y3 y4
   unfold cupelref20_read.j4
   repeat' first
   | (with_reducible exact ih0 _ _ _)
   | (with_reducible exact ih1 _ _ _ _ _)
   | (with_reducible exact ih2 _ _ _ _ _ _)
   | (with_reducible exact ih3 _ _ _ _ _)
   | (with_reducible exact ih4 _ _ _ _)
   | (with_reducible exact ih5 _ _ _ _ _)
   | (with_reducible exact cupelref20_integer.mono _ _ _)
   | (with_reducible exact cupelref20_skip.mono _ _ _)
   | (with_reducible exact LeO.refl _)
   | (with_reducible exact LeO.none _)
   | (with_reducible refine LeO.ite ?_ ?_)
   | (with_reducible refine LeO.bind ?_ (fun _ => ?_))
   | exact LeO.none _
   | refine LeO.ite ?_ ?_
   | refine LeO.bind ?_ (fun _ => ?_)
  ·intro y0 y1 y2 y3
   unfold cupelref20_read.j5
   repeat' first
   | (with_reducible exact ih0 _ _ _)
   | (with_reducible exact ih1 _ _ _ _ _)
   | (with_reducible exact ih2 _ _ _ _ _ _)
   | (with_reducible exact ih3 _ _ _ _ _)
   | (with_reducible exact ih4 _ _ _ _)
   | (with_reducible exact ih5 _ _ _ _ _)
   | (with_reducible exact cupelref20_integer.mono _ _ _)
   | (with_reducible exact cupelref20_skip.mono _ _ _)
   | (with_reducible exact LeO.refl _)
   | (with_reducible exact LeO.none _)
   | (with_reducible refine LeO.ite ?_ ?_)
   | (with_reducible refine LeO.bind ?_ (fun _ => ?_))
   | exact LeO.none _
   | refine LeO.ite ?_ ?_
   | refine LeO.bind ?_ (fun _ => ?_)
  intro y0 y1 y2 y3 y4
  unfold cupelref20_read.l1
  repeat' first
  | (with_reducible exact ih0 _ _ _)
  | (with_reducible exact ih1 _ _ _ _ _)
  | (with_reducible exact ih2 _ _ _ _ _ _)
  | (with_reducible exact ih3 _ _ _ _ _)
  | (with_reducible exact ih4 _ _ _ _)
  | (with_reducible exact ih5 _ _ _ _ _)
  | (with_reducible exact cupelref20_integer.mono _ _ _)
  | (with_reducible exact cupelref20_skip.mono _ _ _)
  | (with_reducible exact LeO.refl _)
  | (with_reducible exact LeO.none _)
  | (with_reducible refine LeO.ite ?_ ?_)
  | (with_reducible refine LeO.bind ?_ (fun _ => ?_))
  | exact LeO.none _
  | refine LeO.ite ?_ ?_
  | refine LeO.bind ?_ (fun _ => ?_)
theorem cupelref20_read.mono : ∀ a0 a1 k, LeO (cupelref20_read.f k a0 a1) (cupelref20_read.f (k + 1) a0 a1) := by
 intro a0 a1 k
 obtain ⟨ih0, ih1, ih2, ih3, ih4, ih5⟩ := cupelref20_read.mono_l k
 unfold cupelref20_read.f
 repeat' first
   | (with_reducible exact ih0 _ _ _)
   | (with_reducible exact ih1 _ _ _ _ _)
   | (with_reducible exact ih2 _ _ _ _ _ _)
   | (with_reducible exact ih3 _ _ _ _ _)
   | (with_reducible exact ih4 _ _ _ _)
   | (with_reducible exact ih5 _ _ _ _ _)
   | (with_reducible exact cupelref20_integer.mono _ _ _)
   | (with_reducible exact cupelref20_skip.mono _ _ _)
   | (with_reducible exact LeO.refl _)
   | (with_reducible exact LeO.none _)
   | (with_reducible refine LeO.ite ?_ ?_)
   | (with_reducible refine LeO.bind ?_ (fun _ => ?_))
   | exact LeO.none _
   | refine LeO.ite ?_ ?_
   | refine LeO.bind ?_ (fun _ => ?_)
theorem cupelref20_read.calls (k : Nat) (a0 : ByteArray) (a1 : Int) (r1 : Int) (r2 : Int) (r3 : Int) (r4 : ByteArray) (r5 : Int) (w : World) (h : cupelref20_read.f k a0 a1 = some (r1, r2, r3, r4, r5)) :
  Calls Tryd.prog 66 #[.string a0, .int .i64 a1] w fun e w' => e = .returned (.agg #[.int .i64 r1, .int .i64 r2, .int .u8 r3, .string r4, .int .i64 r5]) ∧ Below w.heap.size w w' := by
 have hu78 := Tryd.underlying78
 have HB := Aside0.mk (Below.refl w.heap.size w)
 have H : ((cupelref20_skip.f k a0 a1).bind fun t203 => (if t203 = (a0.size : Int) then (some (t203, t203, 46, (⟨#[]⟩ : ByteArray), 0)) else (if 0 ≤ t203 then (if t203 < (a0.size : Int) then ((cupelref20_lower.f (bt a0 t203)).bind fun t204 => (if t204 = true then (cupelref20_read.l0 k a0 t203 (wrap64 (t203 + 1))) else (if (bt a0 t203) = 45 then (cupelref20_read.j1 k a0 t203 (bt a0 t203) (wrap64 (t203 + 1)) (wrap64 (t203 + 1))) else (cupelref20_read.j1 k a0 t203 (bt a0 t203) (wrap64 (t203 + 1)) t203)))) else (none)) else (none)))) = some (r1, r2, r3, r4, r5) := h
 clear h
 obtain ⟨t203, A3, H⟩ := bsA_ H
 try dsimp only at H
 by_cases c4 : t203 = (a0.size : Int)
 ·rw [if_pos c4] at H
  have c4b0 : (t203 == (a0.size : Int)) = true := beq_iff_eq.mpr c4
  have c4b1 : (t203 != (a0.size : Int)) = false := bne_eq_false_iff_eq.mpr c4
  clear c4
  simp only [Option.some.injEq, Prod.mk.injEq] at H
  obtain ⟨rfl, rfl, rfl, rfl, rfl⟩ := H
  go_enter Tryd.func66, Tryd.ntmps66
  go_wp2_with (first | ((with_reducible refine gate_dst (N := 4) rfl ?_); refine box_event ?hg (N := 4) ?hd (cs := #[.int .i64 0, .int .i64 0, .int .u8 0, .string (⟨#[]⟩ : ByteArray), .int .i64 0]) (t := 78) ?hr ?_; (case hd => rfl); (case hg => rfl); (case hr => exact ts26_); intro gb202 hg w5 hbox hb; have BK202 := Aside0.mk (hbox); have GW202 := Aside0.mk ((ts73_ HB.out : w.heap.size ≤ gb202)); have GE202 := Aside0.mk ((ts73_ HB.out : w.heap.size ≤ gb202)); replace HB := Aside0.mk (below_step (ts54_ HB.out) hb); clear hb hbox hg) | ((with_reducible refine gate_callee (f := 80) rfl ?_); refine goesL_ (some 12) rfl rfl Tryd.func80 (by kernel_rfl) rfl #[.string a0, .int .i64 a1] rfl ts17_ ?_; (with_reducible refine (cupelref20_skip.calls k a0 a1 t203 _ A3.out).mono ?_); rintro e w' ⟨rfl, ⟨nd, rfl⟩⟩; refine ⟨_, rfl, ?_⟩; (try (rw [drewN_self w5]; generalize hq_ : World.drewN w5 _ = w5; have n0_ : Aside0 (w5.heap[gb202]? = some (.cells #[.int .i64 0, .int .i64 0, .int .u8 0, .string (⟨#[]⟩ : ByteArray), .int .i64 0] 78 (0, 0))) := ⟨by rw [← hq_]; exact (ts25_ BK202.out)⟩; have n1_ : Aside0 (Below w.heap.size w w5) := ⟨by rw [← hq_]; exact (ts29_ HB.out GE202.out)⟩; clear BK202 HB hq_; have BK202 := n0_; have HB := n1_; clear n0_ n1_)); have hcz6_0 : w5.cell? ⟨gb202, 0, none⟩ = some (.int .i64 0) := (blk_cell BK202.out 0).trans rfl; have hcz6_1 : w5.cell? ⟨gb202, 1, none⟩ = some (.int .i64 0) := (blk_cell BK202.out 1).trans rfl; have hcz6_2 : w5.cell? ⟨gb202, 2, none⟩ = some (.int .u8 0) := (blk_cell BK202.out 2).trans rfl; have hcz6_3 : w5.cell? ⟨gb202, 3, none⟩ = some (.string (⟨#[]⟩ : ByteArray)) := (blk_cell BK202.out 3).trans rfl; have hcz6_4 : w5.cell? ⟨gb202, 4, none⟩ = some (.int .i64 0) := (blk_cell BK202.out 4).trans rfl; have hfz6_0 := blk_frozen BK202.out 0; have hfz6_1 := blk_frozen BK202.out 1; have hfz6_2 := blk_frozen BK202.out 2; have hfz6_3 := blk_frozen BK202.out 3; have hfz6_4 := blk_frozen BK202.out 4))
  refine bodyPost_ret (results_cell_row rfl _ _ gb202 78 #[.int .i64 t203, .int .i64 t203, .int .u8 46, .string (⟨#[]⟩ : ByteArray), .int .i64 0] (0, 0) _ rfl (by (with_reducible repeat (first | refine blk_drewN ?_ _ | refine blk_drew ?_ | refine blk_alloc ?_ _)); refine blk_put (cs := #[.int .i64 t203, .int .i64 t203, .int .u8 46, .string (⟨#[]⟩ : ByteArray), .int .i64 0]) ?_ 4 _ rfl; (with_reducible repeat (first | refine blk_drewN ?_ _ | refine blk_drew ?_ | refine blk_alloc ?_ _)); refine blk_put (cs := #[.int .i64 t203, .int .i64 t203, .int .u8 46, .string (⟨#[]⟩ : ByteArray), .int .i64 0]) ?_ 3 _ rfl; (with_reducible repeat (first | refine blk_drewN ?_ _ | refine blk_drew ?_ | refine blk_alloc ?_ _)); refine blk_put (cs := #[.int .i64 t203, .int .i64 t203, .int .u8 0, .string (⟨#[]⟩ : ByteArray), .int .i64 0]) ?_ 2 _ rfl; (with_reducible repeat (first | refine blk_drewN ?_ _ | refine blk_drew ?_ | refine blk_alloc ?_ _)); refine blk_put (cs := #[.int .i64 t203, .int .i64 0, .int .u8 0, .string (⟨#[]⟩ : ByteArray), .int .i64 0]) ?_ 1 _ rfl; (with_reducible repeat (first | refine blk_drewN ?_ _ | refine blk_drew ?_ | refine blk_alloc ?_ _)); refine blk_put (cs := #[.int .i64 0, .int .i64 0, .int .u8 0, .string (⟨#[]⟩ : ByteArray), .int .i64 0]) ?_ 0 _ rfl; (with_reducible repeat (first | refine blk_drewN ?_ _ | refine blk_drew ?_ | refine blk_alloc ?_ _)); exact BK202.out) Tryd.underlying78 rfl (by kernel_rfl)) rfl ?_
  exact ⟨ts42_, ts29_ HB.out GE202.out⟩
 rw [if_neg c4] at H
 have c4b0 : (t203 == (a0.size : Int)) = false := beq_eq_false_iff_ne.mpr c4
 have c4b1 : (t203 != (a0.size : Int)) = true := bne_iff_ne.mpr c4
 by_cases c7 : 0 ≤ t203
 ·rw [if_pos c7] at H
  have c7b0 : decide (0 ≤ t203) = true := decide_eq_true c7
  clear c7
  by_cases c8 : t203 < (a0.size : Int)
  ·rw [if_pos c8] at H
   have c8b0 : decide (t203 < (a0.size : Int)) = true := decide_eq_true c8
   clear c8
   obtain ⟨t204, A10, H⟩ := bsA_ H
   try dsimp only at H
   by_cases c11 : t204 = true
   ·subst c11
    rw [if_pos rfl] at H
    have H' := Aside0.mk H
    clear H
    go_enter Tryd.func66, Tryd.ntmps66
    go_wp2_with (first | ((with_reducible refine gate_dst (N := 4) rfl ?_); refine box_event ?hg (N := 4) ?hd (cs := #[.int .i64 0, .int .i64 0, .int .u8 0, .string (⟨#[]⟩ : ByteArray), .int .i64 0]) (t := 78) ?hr ?_; (case hd => rfl); (case hg => rfl); (case hr => exact ts26_); intro gb202 hg w12 hbox hb; have BK202 := Aside0.mk (hbox); have GW202 := Aside0.mk ((ts73_ HB.out : w.heap.size ≤ gb202)); have GE202 := Aside0.mk ((ts73_ HB.out : w.heap.size ≤ gb202)); replace HB := Aside0.mk (below_step (ts54_ HB.out) hb); clear hb hbox hg) | ((with_reducible refine gate_callee (f := 80) rfl ?_); refine goesL_ (some 12) rfl rfl Tryd.func80 (by kernel_rfl) rfl #[.string a0, .int .i64 a1] rfl ts17_ ?_; (with_reducible refine (cupelref20_skip.calls k a0 a1 t203 _ A3.out).mono ?_); rintro e w' ⟨rfl, ⟨nd, rfl⟩⟩; refine ⟨_, rfl, ?_⟩; have p9 : 0 ≤ (t203 : Int) := of_decide_eq_true ts37_; have q9 : t203 < (a0.size : Int) := of_decide_eq_true ts37_; have hx9 := bt_at a0 t203; replace p9 := eq_true p9; replace q9 := eq_true q9) | ((with_reducible refine gate_callee (f := 81) rfl ?_); refine goesL_ (some 26) rfl rfl Tryd.func81 (by kernel_rfl) rfl #[.int .u8 (bt a0 t203)] rfl ts17_ ?_; (with_reducible refine (cupelref20_lower.calls (bt a0 t203) true _ A10.out).mono ?_); rintro e w' ⟨rfl, ⟨nd, rfl⟩⟩; refine ⟨_, rfl, ?_⟩))
    try go_frame
    go_loopg [6] k (fun kq v6 w' => ∃ (x6_1 : Int), v6 = .int .i64 x6_1 ∧ Aside0 (cupelref20_read.l0 kq a0 t203 x6_1 = some (r1, r2, r3, r4, r5)) ∧ Aside0 (kq ≤ k) ∧ Aside0 (w'.heap[gb202]? = some (.cells #[.int .i64 0, .int .i64 0, .int .u8 0, .string (⟨#[]⟩ : ByteArray), .int .i64 0] 78 (0, 0))) ∧ Aside0 (Below w.heap.size w w'))
    case atStart => exact ⟨(wrap64 (t203 + 1)), ts51_, H', ⟨Nat.le_refl _⟩, ⟨ts25_ BK202.out⟩, ⟨ts29_ HB.out GE202.out⟩⟩
    case round =>
     clear H' c4 c4b0 c4b1 c7b0 c8b0 p9 q9 hx9
     obtain ⟨x6_1, rfl, HA, HK1, BK202, HB⟩ := hrel
     cases gk with
     | zero => exact absurd HA.out (by simp [cupelref20_read.l0])
     | succ k1 =>
      have H := HA.out
      clear HA
      simp only [cupelref20_read.l0] at H
      by_cases c13 : x6_1 < (a0.size : Int)
      ·rw [if_pos c13] at H
       have c13b0 : decide (x6_1 < (a0.size : Int)) = true := decide_eq_true c13
       clear c13
       by_cases c14 : 0 ≤ x6_1
       ·rw [if_pos c14] at H
        have c14b0 : decide (0 ≤ x6_1) = true := decide_eq_true c14
        clear c14
        obtain ⟨t205, A16, H⟩ := bsA_ H
        try dsimp only at H
        by_cases c17 : t205 = true
        ·subst c17
         rw [if_pos rfl] at H
         have H' := Aside0.mk H
         clear H
         have p15 : 0 ≤ (x6_1 : Int) := of_decide_eq_true ts37_
         have q15 : x6_1 < (a0.size : Int) := of_decide_eq_true ts37_
         have hx15 := bt_at a0 x6_1
         replace p15 := eq_true p15
         replace q15 := eq_true q15
         go_wp2_with (first | (go_at_call 81; (with_reducible refine (cupelref20_lower.calls (bt a0 x6_1) true _ A16.out).mono ?_); rintro e w' ⟨rfl, ⟨nd, rfl⟩⟩))
         go_roundg k1
         case measure => have := HK1.out; omega
         case rel => exact ⟨(wrap64 (x6_1 + 1)), ts51_, H', ⟨by have := HK1.out; omega⟩, ⟨ts25_ BK202.out⟩, ⟨ts29_ HB.out GE202.out⟩⟩
        replace c17 := Bool.eq_false_iff.mpr c17
        subst c17
        rw [if_neg Bool.false_ne_true] at H
        obtain ⟨t206, A19, H⟩ := bsA_ H
        try dsimp only at H
        by_cases c20 : t206 = true
        ·subst c20
         rw [if_pos rfl] at H
         have H' := Aside0.mk H
         clear H
         have p15 : 0 ≤ (x6_1 : Int) := of_decide_eq_true ts37_
         have q15 : x6_1 < (a0.size : Int) := of_decide_eq_true ts37_
         have hx15 := bt_at a0 x6_1
         replace p15 := eq_true p15
         replace q15 := eq_true q15
         go_wp2_with (first | (go_at_call 81; (with_reducible refine (cupelref20_lower.calls (bt a0 x6_1) false _ A16.out).mono ?_); rintro e w' ⟨rfl, ⟨nd, rfl⟩⟩; have p18 : 0 ≤ (x6_1 : Int) := of_decide_eq_true ts37_; have q18 : x6_1 < (a0.size : Int) := of_decide_eq_true ts37_; have hx18 := bt_at a0 x6_1; replace p18 := eq_true p18; replace q18 := eq_true q18) | (go_at_call 82; (with_reducible refine (cupelref20_digit.calls (bt a0 x6_1) true _ A19.out).mono ?_); rintro e w' ⟨rfl, ⟨nd, rfl⟩⟩))
         go_roundg k1
         case measure => have := HK1.out; omega
         case rel => exact ⟨(wrap64 (x6_1 + 1)), ts51_, H', ⟨by have := HK1.out; omega⟩, ⟨ts25_ BK202.out⟩, ⟨ts29_ HB.out GE202.out⟩⟩
        replace c20 := Bool.eq_false_iff.mpr c20
        subst c20
        rw [if_neg Bool.false_ne_true] at H
        by_cases c21 : 0 ≤ t203
        ·rw [if_pos c21] at H
         have c21b0 := eq_true c21
         have c21b1 : decide (0 ≤ t203) = true := decide_eq_true c21
         clear c21
         by_cases c22 : t203 ≤ x6_1
         ·rw [if_pos c22] at H
          have c22b0 := eq_true c22
          have c22b1 : decide (t203 ≤ x6_1) = true := decide_eq_true c22
          clear c22
          by_cases c23 : x6_1 ≤ (a0.size : Int)
          ·rw [if_pos c23] at H
           have c23b0 := eq_true c23
           have c23b1 : decide (x6_1 ≤ (a0.size : Int)) = true := decide_eq_true c23
           clear c23
           simp only [Option.some.injEq, Prod.mk.injEq] at H
           obtain ⟨rfl, rfl, rfl, rfl, rfl⟩ := H
           have p15 : 0 ≤ (x6_1 : Int) := of_decide_eq_true ts37_
           have q15 : x6_1 < (a0.size : Int) := of_decide_eq_true ts37_
           have hx15 := bt_at a0 x6_1
           replace p15 := eq_true p15
           replace q15 := eq_true q15
           go_wp2_with (first | (go_at_call 81; (with_reducible refine (cupelref20_lower.calls (bt a0 x6_1) false _ A16.out).mono ?_); rintro e w' ⟨rfl, ⟨nd, rfl⟩⟩; (try (rw [drewN_self wr]; generalize hq_ : World.drewN wr _ = wr; have n0_ : Aside0 (wr.heap[gb202]? = some (.cells #[.int .i64 0, .int .i64 0, .int .u8 0, .string (⟨#[]⟩ : ByteArray), .int .i64 0] 78 (0, 0))) := ⟨by rw [← hq_]; exact (ts25_ BK202.out)⟩; have n1_ : Aside0 (Below w.heap.size w wr) := ⟨by rw [← hq_]; exact (ts29_ HB.out GE202.out)⟩; clear BK202 HB hq_; have BK202 := n0_; have HB := n1_; clear n0_ n1_)); have p18 : 0 ≤ (x6_1 : Int) := of_decide_eq_true ts37_; have q18 : x6_1 < (a0.size : Int) := of_decide_eq_true ts37_; have hx18 := bt_at a0 x6_1; replace p18 := eq_true p18; replace q18 := eq_true q18) | (go_at_call 82; (with_reducible refine (cupelref20_digit.calls (bt a0 x6_1) false _ A19.out).mono ?_); rintro e w' ⟨rfl, ⟨nd, rfl⟩⟩; (try (rw [drewN_self wr]; generalize hq_ : World.drewN wr _ = wr; have n0_ : Aside0 (wr.heap[gb202]? = some (.cells #[.int .i64 0, .int .i64 0, .int .u8 0, .string (⟨#[]⟩ : ByteArray), .int .i64 0] 78 (0, 0))) := ⟨by rw [← hq_]; exact (ts25_ BK202.out)⟩; have n1_ : Aside0 (Below w.heap.size w wr) := ⟨by rw [← hq_]; exact (ts29_ HB.out GE202.out)⟩; clear BK202 HB hq_; have BK202 := n0_; have HB := n1_; clear n0_ n1_)); have hcz24_0 : wr.cell? ⟨gb202, 0, none⟩ = some (.int .i64 0) := (blk_cell BK202.out 0).trans rfl; have hcz24_1 : wr.cell? ⟨gb202, 1, none⟩ = some (.int .i64 0) := (blk_cell BK202.out 1).trans rfl; have hcz24_2 : wr.cell? ⟨gb202, 2, none⟩ = some (.int .u8 0) := (blk_cell BK202.out 2).trans rfl; have hcz24_3 : wr.cell? ⟨gb202, 3, none⟩ = some (.string (⟨#[]⟩ : ByteArray)) := (blk_cell BK202.out 3).trans rfl; have hcz24_4 : wr.cell? ⟨gb202, 4, none⟩ = some (.int .i64 0) := (blk_cell BK202.out 4).trans rfl; have hfz24_0 := blk_frozen BK202.out 0; have hfz24_1 := blk_frozen BK202.out 1; have hfz24_2 := blk_frozen BK202.out 2; have hfz24_3 := blk_frozen BK202.out 3; have hfz24_4 := blk_frozen BK202.out 4))
           refine bodyPost_ret (results_cell_row rfl _ _ gb202 78 #[.int .i64 t203, .int .i64 x6_1, .int .u8 97, .string (a0.extract (t203 : Int).toNat (x6_1 : Int).toNat), .int .i64 0] (0, 0) _ rfl (ts7_ BK202.out) Tryd.underlying78 rfl (by kernel_rfl)) rfl ?_
           exact ⟨ts42_, ts29_ HB.out GE202.out⟩
          rw [if_neg c23] at H
          exact absurd H (by simp)
         rw [if_neg c22] at H
         exact absurd H (by simp)
        rw [if_neg c21] at H
        exact absurd H (by simp)
       rw [if_neg c14] at H
       exact absurd H (by simp)
      rw [if_neg c13] at H
      have c13b0 : decide (x6_1 < (a0.size : Int)) = false := decide_eq_false c13
      clear c13
      by_cases c25 : 0 ≤ t203
      ·rw [if_pos c25] at H
       have c25b0 := eq_true c25
       have c25b1 : decide (0 ≤ t203) = true := decide_eq_true c25
       clear c25
       by_cases c26 : t203 ≤ x6_1
       ·rw [if_pos c26] at H
        have c26b0 := eq_true c26
        have c26b1 : decide (t203 ≤ x6_1) = true := decide_eq_true c26
        clear c26
        by_cases c27 : x6_1 ≤ (a0.size : Int)
        ·rw [if_pos c27] at H
         have c27b0 := eq_true c27
         have c27b1 : decide (x6_1 ≤ (a0.size : Int)) = true := decide_eq_true c27
         clear c27
         simp only [Option.some.injEq, Prod.mk.injEq] at H
         obtain ⟨rfl, rfl, rfl, rfl, rfl⟩ := H
         have hcz28_0 : wr.cell? ⟨gb202, 0, none⟩ = some (.int .i64 0) := (blk_cell BK202.out 0).trans rfl
         have hcz28_1 : wr.cell? ⟨gb202, 1, none⟩ = some (.int .i64 0) := (blk_cell BK202.out 1).trans rfl
         have hcz28_2 : wr.cell? ⟨gb202, 2, none⟩ = some (.int .u8 0) := (blk_cell BK202.out 2).trans rfl
         have hcz28_3 : wr.cell? ⟨gb202, 3, none⟩ = some (.string (⟨#[]⟩ : ByteArray)) := (blk_cell BK202.out 3).trans rfl
         have hcz28_4 : wr.cell? ⟨gb202, 4, none⟩ = some (.int .i64 0) := (blk_cell BK202.out 4).trans rfl
         have hfz28_0 := blk_frozen BK202.out 0
         have hfz28_1 := blk_frozen BK202.out 1
         have hfz28_2 := blk_frozen BK202.out 2
         have hfz28_3 := blk_frozen BK202.out 3
         have hfz28_4 := blk_frozen BK202.out 4
         go_wp2
         refine bodyPost_ret (results_cell_row rfl _ _ gb202 78 #[.int .i64 t203, .int .i64 x6_1, .int .u8 97, .string (a0.extract (t203 : Int).toNat (x6_1 : Int).toNat), .int .i64 0] (0, 0) _ rfl (ts7_ BK202.out) Tryd.underlying78 rfl (by kernel_rfl)) rfl ?_
         exact ⟨ts42_, ts29_ HB.out GE202.out⟩
        rw [if_neg c27] at H
        exact absurd H (by simp)
       rw [if_neg c26] at H
       exact absurd H (by simp)
      rw [if_neg c25] at H
      exact absurd H (by simp)
   replace c11 := Bool.eq_false_iff.mpr c11
   subst c11
   rw [if_neg Bool.false_ne_true] at H
   have HC29 := Aside0.mk H
   clear H
   go_enter Tryd.func66, Tryd.ntmps66
   go_upto_if 54 with (first | ((with_reducible refine gate_dst (N := 4) rfl ?_); refine box_event ?hg (N := 4) ?hd (cs := #[.int .i64 0, .int .i64 0, .int .u8 0, .string (⟨#[]⟩ : ByteArray), .int .i64 0]) (t := 78) ?hr ?_; (case hd => rfl); (case hg => rfl); (case hr => exact ts26_); intro gb202 hg w30 hbox hb; have BK202 := Aside0.mk (hbox); have GW202 := Aside0.mk ((ts73_ HB.out : w.heap.size ≤ gb202)); have GE202 := Aside0.mk ((ts73_ HB.out : w.heap.size ≤ gb202)); replace HB := Aside0.mk (below_step (ts54_ HB.out) hb); clear hb hbox hg) | ((with_reducible refine gate_callee (f := 80) rfl ?_); refine goesL_ (some 12) rfl rfl Tryd.func80 (by kernel_rfl) rfl #[.string a0, .int .i64 a1] rfl ts17_ ?_; (with_reducible refine (cupelref20_skip.calls k a0 a1 t203 _ A3.out).mono ?_); rintro e w' ⟨rfl, ⟨nd, rfl⟩⟩; refine ⟨_, rfl, ?_⟩; have p9 : 0 ≤ (t203 : Int) := of_decide_eq_true ts37_; have q9 : t203 < (a0.size : Int) := of_decide_eq_true ts37_; have hx9 := bt_at a0 t203; replace p9 := eq_true p9; replace q9 := eq_true q9) | ((with_reducible refine gate_callee (f := 81) rfl ?_); refine goesL_ (some 26) rfl rfl Tryd.func81 (by kernel_rfl) rfl #[.int .u8 (bt a0 t203)] rfl ts17_ ?_; (with_reducible refine (cupelref20_lower.calls (bt a0 t203) false _ A10.out).mono ?_); rintro e w' ⟨rfl, ⟨nd, rfl⟩⟩; refine ⟨_, rfl, ?_⟩))
   (try simp only [Act.put, List.setIfInBounds_toArray, List.set_cons_zero, List.set_cons_succ])
   go_cut [7] (fun v7 wc => ∃ (kq : Nat) (x7_28 : Int), v7 = .int .i64 x7_28 ∧ Aside0 (cupelref20_read.j1 kq a0 t203 (bt a0 t203) (wrap64 (t203 + 1)) x7_28 = some (r1, r2, r3, r4, r5)) ∧ Aside0 (kq ≤ k) ∧ Aside0 (wc.heap[gb202]? = some (.cells #[.int .i64 0, .int .i64 0, .int .u8 0, .string (⟨#[]⟩ : ByteArray), .int .i64 0] 78 (0, 0))) ∧ Aside0 (Below w.heap.size w wc))
   case first =>
    have H := HC29.out
    clear HC29
    by_cases c31 : (bt a0 t203) = 45
    ·rw [if_pos c31] at H
     have c31b0 : ((bt a0 t203) == 45) = true := beq_iff_eq.mpr c31
     have c31b1 : ((bt a0 t203) != 45) = false := bne_eq_false_iff_eq.mpr c31
     clear c31
     (first | rw [c31b0] | (simp only [i64_w, i32_w]; rw [c31b0]) | skip)
     have H' := Aside0.mk H
     clear H
     go_wp2
     go_meet
     case rel => exact ⟨_, (wrap64 (t203 + 1)), ts51_, H', ⟨ts4_⟩, ⟨ts25_ BK202.out⟩, ⟨ts29_ HB.out GE202.out⟩⟩
    rw [if_neg c31] at H
    have c31b0 : ((bt a0 t203) == 45) = false := beq_eq_false_iff_ne.mpr c31
    have c31b1 : ((bt a0 t203) != 45) = true := bne_iff_ne.mpr c31
    (first | rw [c31b0] | (simp only [i64_w, i32_w]; rw [c31b0]) | skip)
    have H' := Aside0.mk H
    clear H
    go_wp2
    go_meet
    case rel => exact ⟨_, (t203), ts51_, H', ⟨ts4_⟩, ⟨ts25_ BK202.out⟩, ⟨ts29_ HB.out GE202.out⟩⟩
   case rest =>
    clear HC29 c4 c4b0 c4b1 c7b0 c8b0 p9 q9 hx9
    obtain ⟨kq, x7_28, rfl, HA, HJ28, BK202, HB⟩ := hcut
    cases kq with
    | zero => exact absurd HA.out (by simp [cupelref20_read.j1])
    | succ kj28 =>
     have H := HA.out
     clear HA
     simp only [cupelref20_read.j1] at H
     have HC32 := Aside0.mk H
     clear H
     go_upto_region 12 with (fail)
     go_cut [66] (fun v66 wc => ∃ (kq : Nat) (x66_31 : Bool), v66 = .bool x66_31 ∧ Aside0 (cupelref20_read.j2 kq a0 t203 (bt a0 t203) (wrap64 (t203 + 1)) x7_28 x66_31 = some (r1, r2, r3, r4, r5)) ∧ Aside0 (kq ≤ kj28) ∧ Aside0 (wc.heap[gb202]? = some (.cells #[.int .i64 0, .int .i64 0, .int .u8 0, .string (⟨#[]⟩ : ByteArray), .int .i64 0] 78 (0, 0))) ∧ Aside0 (Below w.heap.size w wc))
     case first =>
      have H := HC32.out
      clear HC32
      by_cases c33 : x7_28 < (a0.size : Int)
      ·rw [if_pos c33] at H
       have c33b0 : decide (x7_28 < (a0.size : Int)) = true := decide_eq_true c33
       clear c33
       (first | rw [c33b0] | (simp only [i64_w, i32_w]; rw [c33b0]) | skip)
       by_cases c34 : 0 ≤ x7_28
       ·rw [if_pos c34] at H
        have c34b0 : decide (0 ≤ x7_28) = true := decide_eq_true c34
        clear c34
        obtain ⟨t207, A36, H⟩ := bsA_ H
        try dsimp only at H
        have H' := Aside0.mk H
        clear H
        have p35 : 0 ≤ (x7_28 : Int) := of_decide_eq_true ts37_
        have q35 : x7_28 < (a0.size : Int) := of_decide_eq_true ts37_
        have hx35 := bt_at a0 x7_28
        replace p35 := eq_true p35
        replace q35 := eq_true q35
        go_wp2_with (first | (go_at_call 82; (with_reducible refine (cupelref20_digit.calls (bt a0 x7_28) t207 _ A36.out).mono ?_); rintro e w' ⟨rfl, ⟨nd, rfl⟩⟩))
        go_meet
        case rel => exact ⟨_, (t207), ts51_, H', ⟨ts24_ HJ28.out⟩, ⟨ts25_ BK202.out⟩, ⟨ts29_ HB.out GE202.out⟩⟩
       rw [if_neg c34] at H
       exact absurd H (by simp)
      rw [if_neg c33] at H
      have c33b0 : decide (x7_28 < (a0.size : Int)) = false := decide_eq_false c33
      clear c33
      (first | rw [c33b0] | (simp only [i64_w, i32_w]; rw [c33b0]) | skip)
      have H' := Aside0.mk H
      clear H
      go_wp2
      go_meet
      case rel => exact ⟨_, (false), ts51_, H', ⟨ts24_ HJ28.out⟩, ⟨ts25_ BK202.out⟩, ⟨ts29_ HB.out GE202.out⟩⟩
     case rest =>
      clear HC32
      obtain ⟨kq, x66_31, rfl, HA, HJ31, BK202, HB⟩ := hcut
      cases kq with
      | zero => exact absurd HA.out (by simp [cupelref20_read.j2])
      | succ kj31 =>
       have H := HA.out
       clear HA
       simp only [cupelref20_read.j2] at H
       by_cases c37 : x66_31 = true
       ·subst c37
        rw [if_pos rfl] at H
        have HC38 := Aside0.mk H
        clear H
        go_upto_block 2 with (fail)
        go_cut [6] (fun v6 wc => ∃ (kq : Nat) (x6_37 : Int), v6 = .int .i64 x6_37 ∧ Aside0 (cupelref20_read.j4 kq a0 t203 (bt a0 t203) x6_37 x7_28 = some (r1, r2, r3, r4, r5)) ∧ Aside0 (kq ≤ kj31) ∧ Aside0 (wc.heap[gb202]? = some (.cells #[.int .i64 0, .int .i64 0, .int .u8 0, .string (⟨#[]⟩ : ByteArray), .int .i64 0] 78 (0, 0))) ∧ Aside0 (Below w.heap.size w wc))
        case first =>
         have H := HC38.out
         clear HC38
         have H' := Aside0.mk H
         clear H
         go_wp2
         try go_frame
         go_loopg [6] kj31 (fun kq v6 w' => ∃ (x6_3 : Int), v6 = .int .i64 x6_3 ∧ Aside0 (cupelref20_read.l1 kq a0 t203 (bt a0 t203) x6_3 x7_28 = some (r1, r2, r3, r4, r5)) ∧ Aside0 (kq ≤ kj31) ∧ Aside0 (w'.heap[gb202]? = some (.cells #[.int .i64 0, .int .i64 0, .int .u8 0, .string (⟨#[]⟩ : ByteArray), .int .i64 0] 78 (0, 0))) ∧ Aside0 (Below w.heap.size w w'))
         case atStart => exact ⟨(x7_28), ts51_, H', ⟨Nat.le_refl _⟩, ⟨ts25_ BK202.out⟩, ⟨ts29_ HB.out GE202.out⟩⟩
         case round =>
          clear H'
          obtain ⟨x6_3, rfl, HA, HK3, BK202, HB⟩ := hrel
          cases gk with
          | zero => exact absurd HA.out (by simp [cupelref20_read.l1])
          | succ k3 =>
           have H := HA.out
           clear HA
           simp only [cupelref20_read.l1] at H
           by_cases c39 : x6_3 < (a0.size : Int)
           ·rw [if_pos c39] at H
            have c39b0 : decide (x6_3 < (a0.size : Int)) = true := decide_eq_true c39
            clear c39
            (first | rw [c39b0] | (simp only [i64_w, i32_w]; rw [c39b0]) | skip)
            by_cases c40 : 0 ≤ x6_3
            ·rw [if_pos c40] at H
             have c40b0 : decide (0 ≤ x6_3) = true := decide_eq_true c40
             clear c40
             obtain ⟨t208, A42, H⟩ := bsA_ H
             try dsimp only at H
             by_cases c43 : t208 = true
             ·subst c43
              rw [if_pos rfl] at H
              have H' := Aside0.mk H
              clear H
              have p41 : 0 ≤ (x6_3 : Int) := of_decide_eq_true ts37_
              have q41 : x6_3 < (a0.size : Int) := of_decide_eq_true ts37_
              have hx41 := bt_at a0 x6_3
              replace p41 := eq_true p41
              replace q41 := eq_true q41
              go_wp2_with (first | (go_at_call 82; (with_reducible refine (cupelref20_digit.calls (bt a0 x6_3) true _ A42.out).mono ?_); rintro e w' ⟨rfl, ⟨nd, rfl⟩⟩))
              go_roundg k3
              case measure => have := HJ28.out; have := HJ31.out; have := HK3.out; omega
              case rel => exact ⟨(wrap64 (x6_3 + 1)), ts51_, H', ⟨by have := HJ28.out; have := HJ31.out; have := HK3.out; omega⟩, ⟨ts25_ BK202.out⟩, ⟨ts29_ HB.out GE202.out⟩⟩
             replace c43 := Bool.eq_false_iff.mpr c43
             subst c43
             rw [if_neg Bool.false_ne_true] at H
             have H' := Aside0.mk H
             clear H
             have p41 : 0 ≤ (x6_3 : Int) := of_decide_eq_true ts37_
             have q41 : x6_3 < (a0.size : Int) := of_decide_eq_true ts37_
             have hx41 := bt_at a0 x6_3
             replace p41 := eq_true p41
             replace q41 := eq_true q41
             go_wp2_with (first | (go_at_call 82; (with_reducible refine (cupelref20_digit.calls (bt a0 x6_3) false _ A42.out).mono ?_); rintro e w' ⟨rfl, ⟨nd, rfl⟩⟩))
             go_meet
             case rel => exact ⟨_, (x6_3), ts51_, H', ⟨ts5_ HJ28.out HJ31.out HK3.out⟩, ⟨ts25_ BK202.out⟩, ⟨ts29_ HB.out GE202.out⟩⟩
            rw [if_neg c40] at H
            exact absurd H (by simp)
           rw [if_neg c39] at H
           have c39b0 : decide (x6_3 < (a0.size : Int)) = false := decide_eq_false c39
           clear c39
           (first | rw [c39b0] | (simp only [i64_w, i32_w]; rw [c39b0]) | skip)
           have H' := Aside0.mk H
           clear H
           go_wp2
           go_meet
           case rel => exact ⟨_, (x6_3), ts51_, H', ⟨ts5_ HJ28.out HJ31.out HK3.out⟩, ⟨ts25_ BK202.out⟩, ⟨ts29_ HB.out GE202.out⟩⟩
        case rest =>
         clear HC38
         obtain ⟨kq, x6_37, rfl, HA, HJ37, BK202, HB⟩ := hcut
         cases kq with
         | zero => exact absurd HA.out (by simp [cupelref20_read.j4])
         | succ kj37 =>
          have H := HA.out
          clear HA
          simp only [cupelref20_read.j4] at H
          by_cases c44 : 0 ≤ x7_28
          ·rw [if_pos c44] at H
           have c44b0 := eq_true c44
           have c44b1 : decide (0 ≤ x7_28) = true := decide_eq_true c44
           clear c44
           by_cases c45 : x7_28 ≤ x6_37
           ·rw [if_pos c45] at H
            have c45b0 := eq_true c45
            have c45b1 : decide (x7_28 ≤ x6_37) = true := decide_eq_true c45
            clear c45
            by_cases c46 : x6_37 ≤ (a0.size : Int)
            ·rw [if_pos c46] at H
             have c46b0 := eq_true c46
             have c46b1 : decide (x6_37 ≤ (a0.size : Int)) = true := decide_eq_true c46
             clear c46
             obtain ⟨⟨t209, t210⟩, A47, H⟩ := bsA_ H
             try dsimp only at H
             have HC48 := Aside0.mk H
             clear H
             go_upto_region 17 with (first | ((with_reducible refine gate_callee (f := 83) rfl ?_); refine goesL_ (some 87) rfl rfl Tryd.func83 (by kernel_rfl) rfl #[.string (a0.extract (x7_28 : Int).toNat (x6_37 : Int).toNat), .bool ((bt a0 t203) == 45)] rfl ts17_ ?_; (with_reducible refine (cupelref20_integer.calls kj37 (a0.extract (x7_28 : Int).toNat (x6_37 : Int).toNat) ((bt a0 t203) == 45) t209 t210 _ A47.out).mono ?_); rintro e w' ⟨rfl, ⟨nd, rfl⟩⟩; refine ⟨_, rfl, ?_⟩))
             (try simp only [Act.put, List.setIfInBounds_toArray, List.set_cons_zero, List.set_cons_succ])
             go_cut [107] (fun v107 wc => ∃ (kq : Nat) (x107_47 : Bool), v107 = .bool x107_47 ∧ Aside0 (cupelref20_read.j5 kq t203 x6_37 t209 x107_47 = some (r1, r2, r3, r4, r5)) ∧ Aside0 (kq ≤ kj37) ∧ Aside0 (wc.heap[gb202]? = some (.cells #[.int .i64 0, .int .i64 0, .int .u8 0, .string (⟨#[]⟩ : ByteArray), .int .i64 0] 78 (0, 0))) ∧ Aside0 (Below w.heap.size w wc))
             case first =>
              have H := HC48.out
              clear HC48
              by_cases c49 : t210 = true
              ·subst c49
               rw [if_pos rfl] at H
               by_cases c50 : x7_28 < (a0.size : Int)
               ·rw [if_pos c50] at H
                have c50b0 : decide (x7_28 < (a0.size : Int)) = true := decide_eq_true c50
                clear c50
                (first | rw [c50b0] | (simp only [i64_w, i32_w]; rw [c50b0]) | skip)
                by_cases c52 : (bt a0 x7_28) = 48
                ·rw [if_pos c52] at H
                 have c52b0 : ((bt a0 x7_28) == 48) = true := beq_iff_eq.mpr c52
                 have c52b1 : ((bt a0 x7_28) != 48) = false := bne_eq_false_iff_eq.mpr c52
                 clear c52
                 by_cases c53 : x6_37 > (wrap64 (x7_28 + 1))
                 ·rw [if_pos c53] at H
                  have c53b0 : decide ((wrap64 (x7_28 + 1)) < x6_37) = true := decide_eq_true c53
                  clear c53
                  have H' := Aside0.mk H
                  clear H
                  have p51 : 0 ≤ (x7_28 : Int) := of_decide_eq_true ts37_
                  have q51 : x7_28 < (a0.size : Int) := of_decide_eq_true ts37_
                  have hx51 := bt_at a0 x7_28
                  replace p51 := eq_true p51
                  replace q51 := eq_true q51
                  go_wp2
                  go_meet
                  case rel => exact ⟨_, (true), ts51_, H', ⟨ts5_ HJ28.out HJ31.out HJ37.out⟩, ⟨ts25_ BK202.out⟩, ⟨ts29_ HB.out GE202.out⟩⟩
                 rw [if_neg c53] at H
                 have c53b0 : decide ((wrap64 (x7_28 + 1)) < x6_37) = false := decide_eq_false c53
                 clear c53
                 have H' := Aside0.mk H
                 clear H
                 have p51 : 0 ≤ (x7_28 : Int) := of_decide_eq_true ts37_
                 have q51 : x7_28 < (a0.size : Int) := of_decide_eq_true ts37_
                 have hx51 := bt_at a0 x7_28
                 replace p51 := eq_true p51
                 replace q51 := eq_true q51
                 go_wp2
                 go_meet
                 case rel => exact ⟨_, (((bt a0 t203) == 45)), ts51_, H', ⟨ts5_ HJ28.out HJ31.out HJ37.out⟩, ⟨ts25_ BK202.out⟩, ⟨ts29_ HB.out GE202.out⟩⟩
                rw [if_neg c52] at H
                have c52b0 : ((bt a0 x7_28) == 48) = false := beq_eq_false_iff_ne.mpr c52
                have c52b1 : ((bt a0 x7_28) != 48) = true := bne_iff_ne.mpr c52
                have H' := Aside0.mk H
                clear H
                have p51 : 0 ≤ (x7_28 : Int) := of_decide_eq_true ts37_
                have q51 : x7_28 < (a0.size : Int) := of_decide_eq_true ts37_
                have hx51 := bt_at a0 x7_28
                replace p51 := eq_true p51
                replace q51 := eq_true q51
                go_wp2
                go_meet
                case rel => exact ⟨_, (false), ts51_, H', ⟨ts5_ HJ28.out HJ31.out HJ37.out⟩, ⟨ts25_ BK202.out⟩, ⟨ts29_ HB.out GE202.out⟩⟩
               rw [if_neg c50] at H
               exact absurd H (by simp)
              replace c49 := Bool.eq_false_iff.mpr c49
              subst c49
              rw [if_neg Bool.false_ne_true] at H
              have H' := Aside0.mk H
              clear H
              go_wp2
              go_meet
              case rel => exact ⟨_, (true), ts51_, H', ⟨ts5_ HJ28.out HJ31.out HJ37.out⟩, ⟨ts25_ BK202.out⟩, ⟨ts29_ HB.out GE202.out⟩⟩
             case rest =>
              clear HC48 c44b0 c44b1 c45b0 c45b1 c46b0 c46b1
              obtain ⟨kq, x107_47, rfl, HA, HJ47, BK202, HB⟩ := hcut
              cases kq with
              | zero => exact absurd HA.out (by simp [cupelref20_read.j5])
              | succ kj47 =>
               have H := HA.out
               clear HA
               simp only [cupelref20_read.j5] at H
               by_cases c54 : x107_47 = true
               ·subst c54
                rw [if_pos rfl] at H
                simp only [Option.some.injEq, Prod.mk.injEq] at H
                obtain ⟨rfl, rfl, rfl, rfl, rfl⟩ := H
                have hcz55_0 : wc.cell? ⟨gb202, 0, none⟩ = some (.int .i64 0) := (blk_cell BK202.out 0).trans rfl
                have hcz55_1 : wc.cell? ⟨gb202, 1, none⟩ = some (.int .i64 0) := (blk_cell BK202.out 1).trans rfl
                have hcz55_2 : wc.cell? ⟨gb202, 2, none⟩ = some (.int .u8 0) := (blk_cell BK202.out 2).trans rfl
                have hcz55_3 : wc.cell? ⟨gb202, 3, none⟩ = some (.string (⟨#[]⟩ : ByteArray)) := (blk_cell BK202.out 3).trans rfl
                have hcz55_4 : wc.cell? ⟨gb202, 4, none⟩ = some (.int .i64 0) := (blk_cell BK202.out 4).trans rfl
                have hfz55_0 := blk_frozen BK202.out 0
                have hfz55_1 := blk_frozen BK202.out 1
                have hfz55_2 := blk_frozen BK202.out 2
                have hfz55_3 := blk_frozen BK202.out 3
                have hfz55_4 := blk_frozen BK202.out 4
                go_wp2
                refine bodyPost_ret (results_cell_row rfl _ _ gb202 78 #[.int .i64 t203, .int .i64 t203, .int .u8 33, .string (⟨#[]⟩ : ByteArray), .int .i64 0] (0, 0) _ rfl (ts58_ BK202.out) Tryd.underlying78 rfl (by kernel_rfl)) rfl ?_
                exact ⟨ts42_, ts29_ HB.out GE202.out⟩
               replace c54 := Bool.eq_false_iff.mpr c54
               subst c54
               rw [if_neg Bool.false_ne_true] at H
               simp only [Option.some.injEq, Prod.mk.injEq] at H
               obtain ⟨rfl, rfl, rfl, rfl, rfl⟩ := H
               have hcz56_0 : wc.cell? ⟨gb202, 0, none⟩ = some (.int .i64 0) := (blk_cell BK202.out 0).trans rfl
               have hcz56_1 : wc.cell? ⟨gb202, 1, none⟩ = some (.int .i64 0) := (blk_cell BK202.out 1).trans rfl
               have hcz56_2 : wc.cell? ⟨gb202, 2, none⟩ = some (.int .u8 0) := (blk_cell BK202.out 2).trans rfl
               have hcz56_3 : wc.cell? ⟨gb202, 3, none⟩ = some (.string (⟨#[]⟩ : ByteArray)) := (blk_cell BK202.out 3).trans rfl
               have hcz56_4 : wc.cell? ⟨gb202, 4, none⟩ = some (.int .i64 0) := (blk_cell BK202.out 4).trans rfl
               have hfz56_0 := blk_frozen BK202.out 0
               have hfz56_1 := blk_frozen BK202.out 1
               have hfz56_2 := blk_frozen BK202.out 2
               have hfz56_3 := blk_frozen BK202.out 3
               have hfz56_4 := blk_frozen BK202.out 4
               go_wp2
               refine bodyPost_ret (results_cell_row rfl _ _ gb202 78 #[.int .i64 t203, .int .i64 x6_37, .int .u8 48, .string (⟨#[]⟩ : ByteArray), .int .i64 t209] (0, 0) _ rfl (by (with_reducible repeat (first | refine blk_drewN ?_ _ | refine blk_drew ?_ | refine blk_alloc ?_ _)); refine blk_put (cs := #[.int .i64 t203, .int .i64 x6_37, .int .u8 48, .string (⟨#[]⟩ : ByteArray), .int .i64 0]) ?_ 4 _ rfl; (with_reducible repeat (first | refine blk_drewN ?_ _ | refine blk_drew ?_ | refine blk_alloc ?_ _)); refine blk_put (cs := #[.int .i64 t203, .int .i64 x6_37, .int .u8 48, .string (⟨#[]⟩ : ByteArray), .int .i64 0]) ?_ 3 _ rfl; (with_reducible repeat (first | refine blk_drewN ?_ _ | refine blk_drew ?_ | refine blk_alloc ?_ _)); refine blk_put (cs := #[.int .i64 t203, .int .i64 x6_37, .int .u8 0, .string (⟨#[]⟩ : ByteArray), .int .i64 0]) ?_ 2 _ rfl; (with_reducible repeat (first | refine blk_drewN ?_ _ | refine blk_drew ?_ | refine blk_alloc ?_ _)); refine blk_put (cs := #[.int .i64 t203, .int .i64 0, .int .u8 0, .string (⟨#[]⟩ : ByteArray), .int .i64 0]) ?_ 1 _ rfl; (with_reducible repeat (first | refine blk_drewN ?_ _ | refine blk_drew ?_ | refine blk_alloc ?_ _)); refine blk_put (cs := #[.int .i64 0, .int .i64 0, .int .u8 0, .string (⟨#[]⟩ : ByteArray), .int .i64 0]) ?_ 0 _ rfl; (with_reducible repeat (first | refine blk_drewN ?_ _ | refine blk_drew ?_ | refine blk_alloc ?_ _)); exact BK202.out) Tryd.underlying78 rfl (by kernel_rfl)) rfl ?_
               exact ⟨ts42_, ts29_ HB.out GE202.out⟩
            rw [if_neg c46] at H
            exact absurd H (by simp)
           rw [if_neg c45] at H
           exact absurd H (by simp)
          rw [if_neg c44] at H
          exact absurd H (by simp)
       replace c37 := Bool.eq_false_iff.mpr c37
       subst c37
       rw [if_neg Bool.false_ne_true] at H
       by_cases c57 : (bt a0 t203) = 44
       ·rw [if_pos c57] at H
        have c57b0 : ((bt a0 t203) == 44) = true := beq_iff_eq.mpr c57
        have c57b1 : ((bt a0 t203) != 44) = false := bne_eq_false_iff_eq.mpr c57
        clear c57
        by_cases c58 : 0 ≤ t203
        ·rw [if_pos c58] at H
         have c58b0 := eq_true c58
         have c58b1 : decide (0 ≤ t203) = true := decide_eq_true c58
         clear c58
         by_cases c59 : t203 ≤ (wrap64 (t203 + 1))
         ·rw [if_pos c59] at H
          have c59b0 := eq_true c59
          have c59b1 : decide (t203 ≤ (wrap64 (t203 + 1))) = true := decide_eq_true c59
          by_cases c60 : (wrap64 (t203 + 1)) ≤ (a0.size : Int)
          ·rw [if_pos c60] at H
           have c60b0 := eq_true c60
           have c60b1 : decide ((wrap64 (t203 + 1)) ≤ (a0.size : Int)) = true := decide_eq_true c60
           simp only [Option.some.injEq, Prod.mk.injEq] at H
           obtain ⟨rfl, rfl, rfl, rfl, rfl⟩ := H
           have hcz61_0 : wc.cell? ⟨gb202, 0, none⟩ = some (.int .i64 0) := (blk_cell BK202.out 0).trans rfl
           have hcz61_1 : wc.cell? ⟨gb202, 1, none⟩ = some (.int .i64 0) := (blk_cell BK202.out 1).trans rfl
           have hcz61_2 : wc.cell? ⟨gb202, 2, none⟩ = some (.int .u8 0) := (blk_cell BK202.out 2).trans rfl
           have hcz61_3 : wc.cell? ⟨gb202, 3, none⟩ = some (.string (⟨#[]⟩ : ByteArray)) := (blk_cell BK202.out 3).trans rfl
           have hcz61_4 : wc.cell? ⟨gb202, 4, none⟩ = some (.int .i64 0) := (blk_cell BK202.out 4).trans rfl
           have hfz61_0 := blk_frozen BK202.out 0
           have hfz61_1 := blk_frozen BK202.out 1
           have hfz61_2 := blk_frozen BK202.out 2
           have hfz61_3 := blk_frozen BK202.out 3
           have hfz61_4 := blk_frozen BK202.out 4
           go_wp2
           refine bodyPost_ret (results_cell_row rfl _ _ gb202 78 #[.int .i64 t203, .int .i64 (wrap64 (t203 + 1)), .int .u8 115, .string (a0.extract (t203 : Int).toNat ((wrap64 (t203 + 1)) : Int).toNat), .int .i64 0] (0, 0) _ rfl (ts14_ BK202.out) Tryd.underlying78 rfl (by kernel_rfl)) rfl ?_
           exact ⟨ts42_, ts29_ HB.out GE202.out⟩
          rw [if_neg c60] at H
          exact absurd H (by simp)
         rw [if_neg c59] at H
         exact absurd H (by simp)
        rw [if_neg c58] at H
        exact absurd H (by simp)
       rw [if_neg c57] at H
       have c57b0 : ((bt a0 t203) == 44) = false := beq_eq_false_iff_ne.mpr c57
       have c57b1 : ((bt a0 t203) != 44) = true := bne_iff_ne.mpr c57
       by_cases c62 : (bt a0 t203) = 59
       ·rw [if_pos c62] at H
        have c62b0 : ((bt a0 t203) == 59) = true := beq_iff_eq.mpr c62
        have c62b1 : ((bt a0 t203) != 59) = false := bne_eq_false_iff_eq.mpr c62
        clear c62
        by_cases c63 : 0 ≤ t203
        ·rw [if_pos c63] at H
         have c63b0 := eq_true c63
         have c63b1 : decide (0 ≤ t203) = true := decide_eq_true c63
         clear c63
         by_cases c64 : t203 ≤ (wrap64 (t203 + 1))
         ·rw [if_pos c64] at H
          have c64b0 := eq_true c64
          have c64b1 : decide (t203 ≤ (wrap64 (t203 + 1))) = true := decide_eq_true c64
          by_cases c65 : (wrap64 (t203 + 1)) ≤ (a0.size : Int)
          ·rw [if_pos c65] at H
           have c65b0 := eq_true c65
           have c65b1 : decide ((wrap64 (t203 + 1)) ≤ (a0.size : Int)) = true := decide_eq_true c65
           simp only [Option.some.injEq, Prod.mk.injEq] at H
           obtain ⟨rfl, rfl, rfl, rfl, rfl⟩ := H
           have hcz66_0 : wc.cell? ⟨gb202, 0, none⟩ = some (.int .i64 0) := (blk_cell BK202.out 0).trans rfl
           have hcz66_1 : wc.cell? ⟨gb202, 1, none⟩ = some (.int .i64 0) := (blk_cell BK202.out 1).trans rfl
           have hcz66_2 : wc.cell? ⟨gb202, 2, none⟩ = some (.int .u8 0) := (blk_cell BK202.out 2).trans rfl
           have hcz66_3 : wc.cell? ⟨gb202, 3, none⟩ = some (.string (⟨#[]⟩ : ByteArray)) := (blk_cell BK202.out 3).trans rfl
           have hcz66_4 : wc.cell? ⟨gb202, 4, none⟩ = some (.int .i64 0) := (blk_cell BK202.out 4).trans rfl
           have hfz66_0 := blk_frozen BK202.out 0
           have hfz66_1 := blk_frozen BK202.out 1
           have hfz66_2 := blk_frozen BK202.out 2
           have hfz66_3 := blk_frozen BK202.out 3
           have hfz66_4 := blk_frozen BK202.out 4
           go_wp2
           refine bodyPost_ret (results_cell_row rfl _ _ gb202 78 #[.int .i64 t203, .int .i64 (wrap64 (t203 + 1)), .int .u8 115, .string (a0.extract (t203 : Int).toNat ((wrap64 (t203 + 1)) : Int).toNat), .int .i64 0] (0, 0) _ rfl (ts14_ BK202.out) Tryd.underlying78 rfl (by kernel_rfl)) rfl ?_
           exact ⟨ts42_, ts29_ HB.out GE202.out⟩
          rw [if_neg c65] at H
          exact absurd H (by simp)
         rw [if_neg c64] at H
         exact absurd H (by simp)
        rw [if_neg c63] at H
        exact absurd H (by simp)
       rw [if_neg c62] at H
       have c62b0 : ((bt a0 t203) == 59) = false := beq_eq_false_iff_ne.mpr c62
       have c62b1 : ((bt a0 t203) != 59) = true := bne_iff_ne.mpr c62
       by_cases c67 : (bt a0 t203) = 40
       ·rw [if_pos c67] at H
        have c67b0 : ((bt a0 t203) == 40) = true := beq_iff_eq.mpr c67
        have c67b1 : ((bt a0 t203) != 40) = false := bne_eq_false_iff_eq.mpr c67
        clear c67
        by_cases c68 : 0 ≤ t203
        ·rw [if_pos c68] at H
         have c68b0 := eq_true c68
         have c68b1 : decide (0 ≤ t203) = true := decide_eq_true c68
         clear c68
         by_cases c69 : t203 ≤ (wrap64 (t203 + 1))
         ·rw [if_pos c69] at H
          have c69b0 := eq_true c69
          have c69b1 : decide (t203 ≤ (wrap64 (t203 + 1))) = true := decide_eq_true c69
          by_cases c70 : (wrap64 (t203 + 1)) ≤ (a0.size : Int)
          ·rw [if_pos c70] at H
           have c70b0 := eq_true c70
           have c70b1 : decide ((wrap64 (t203 + 1)) ≤ (a0.size : Int)) = true := decide_eq_true c70
           simp only [Option.some.injEq, Prod.mk.injEq] at H
           obtain ⟨rfl, rfl, rfl, rfl, rfl⟩ := H
           have hcz71_0 : wc.cell? ⟨gb202, 0, none⟩ = some (.int .i64 0) := (blk_cell BK202.out 0).trans rfl
           have hcz71_1 : wc.cell? ⟨gb202, 1, none⟩ = some (.int .i64 0) := (blk_cell BK202.out 1).trans rfl
           have hcz71_2 : wc.cell? ⟨gb202, 2, none⟩ = some (.int .u8 0) := (blk_cell BK202.out 2).trans rfl
           have hcz71_3 : wc.cell? ⟨gb202, 3, none⟩ = some (.string (⟨#[]⟩ : ByteArray)) := (blk_cell BK202.out 3).trans rfl
           have hcz71_4 : wc.cell? ⟨gb202, 4, none⟩ = some (.int .i64 0) := (blk_cell BK202.out 4).trans rfl
           have hfz71_0 := blk_frozen BK202.out 0
           have hfz71_1 := blk_frozen BK202.out 1
           have hfz71_2 := blk_frozen BK202.out 2
           have hfz71_3 := blk_frozen BK202.out 3
           have hfz71_4 := blk_frozen BK202.out 4
           go_wp2
           refine bodyPost_ret (results_cell_row rfl _ _ gb202 78 #[.int .i64 t203, .int .i64 (wrap64 (t203 + 1)), .int .u8 115, .string (a0.extract (t203 : Int).toNat ((wrap64 (t203 + 1)) : Int).toNat), .int .i64 0] (0, 0) _ rfl (ts14_ BK202.out) Tryd.underlying78 rfl (by kernel_rfl)) rfl ?_
           exact ⟨ts42_, ts29_ HB.out GE202.out⟩
          rw [if_neg c70] at H
          exact absurd H (by simp)
         rw [if_neg c69] at H
         exact absurd H (by simp)
        rw [if_neg c68] at H
        exact absurd H (by simp)
       rw [if_neg c67] at H
       have c67b0 : ((bt a0 t203) == 40) = false := beq_eq_false_iff_ne.mpr c67
       have c67b1 : ((bt a0 t203) != 40) = true := bne_iff_ne.mpr c67
       by_cases c72 : (bt a0 t203) = 41
       ·rw [if_pos c72] at H
        have c72b0 : ((bt a0 t203) == 41) = true := beq_iff_eq.mpr c72
        have c72b1 : ((bt a0 t203) != 41) = false := bne_eq_false_iff_eq.mpr c72
        clear c72
        by_cases c73 : 0 ≤ t203
        ·rw [if_pos c73] at H
         have c73b0 := eq_true c73
         have c73b1 : decide (0 ≤ t203) = true := decide_eq_true c73
         clear c73
         by_cases c74 : t203 ≤ (wrap64 (t203 + 1))
         ·rw [if_pos c74] at H
          have c74b0 := eq_true c74
          have c74b1 : decide (t203 ≤ (wrap64 (t203 + 1))) = true := decide_eq_true c74
          by_cases c75 : (wrap64 (t203 + 1)) ≤ (a0.size : Int)
          ·rw [if_pos c75] at H
           have c75b0 := eq_true c75
           have c75b1 : decide ((wrap64 (t203 + 1)) ≤ (a0.size : Int)) = true := decide_eq_true c75
           simp only [Option.some.injEq, Prod.mk.injEq] at H
           obtain ⟨rfl, rfl, rfl, rfl, rfl⟩ := H
           have hcz76_0 : wc.cell? ⟨gb202, 0, none⟩ = some (.int .i64 0) := (blk_cell BK202.out 0).trans rfl
           have hcz76_1 : wc.cell? ⟨gb202, 1, none⟩ = some (.int .i64 0) := (blk_cell BK202.out 1).trans rfl
           have hcz76_2 : wc.cell? ⟨gb202, 2, none⟩ = some (.int .u8 0) := (blk_cell BK202.out 2).trans rfl
           have hcz76_3 : wc.cell? ⟨gb202, 3, none⟩ = some (.string (⟨#[]⟩ : ByteArray)) := (blk_cell BK202.out 3).trans rfl
           have hcz76_4 : wc.cell? ⟨gb202, 4, none⟩ = some (.int .i64 0) := (blk_cell BK202.out 4).trans rfl
           have hfz76_0 := blk_frozen BK202.out 0
           have hfz76_1 := blk_frozen BK202.out 1
           have hfz76_2 := blk_frozen BK202.out 2
           have hfz76_3 := blk_frozen BK202.out 3
           have hfz76_4 := blk_frozen BK202.out 4
           go_wp2
           refine bodyPost_ret (results_cell_row rfl _ _ gb202 78 #[.int .i64 t203, .int .i64 (wrap64 (t203 + 1)), .int .u8 115, .string (a0.extract (t203 : Int).toNat ((wrap64 (t203 + 1)) : Int).toNat), .int .i64 0] (0, 0) _ rfl (ts14_ BK202.out) Tryd.underlying78 rfl (by kernel_rfl)) rfl ?_
           exact ⟨ts42_, ts29_ HB.out GE202.out⟩
          rw [if_neg c75] at H
          exact absurd H (by simp)
         rw [if_neg c74] at H
         exact absurd H (by simp)
        rw [if_neg c73] at H
        exact absurd H (by simp)
       rw [if_neg c72] at H
       have c72b0 : ((bt a0 t203) == 41) = false := beq_eq_false_iff_ne.mpr c72
       have c72b1 : ((bt a0 t203) != 41) = true := bne_iff_ne.mpr c72
       simp only [Option.some.injEq, Prod.mk.injEq] at H
       obtain ⟨rfl, rfl, rfl, rfl, rfl⟩ := H
       have hcz77_0 : wc.cell? ⟨gb202, 0, none⟩ = some (.int .i64 0) := (blk_cell BK202.out 0).trans rfl
       have hcz77_1 : wc.cell? ⟨gb202, 1, none⟩ = some (.int .i64 0) := (blk_cell BK202.out 1).trans rfl
       have hcz77_2 : wc.cell? ⟨gb202, 2, none⟩ = some (.int .u8 0) := (blk_cell BK202.out 2).trans rfl
       have hcz77_3 : wc.cell? ⟨gb202, 3, none⟩ = some (.string (⟨#[]⟩ : ByteArray)) := (blk_cell BK202.out 3).trans rfl
       have hcz77_4 : wc.cell? ⟨gb202, 4, none⟩ = some (.int .i64 0) := (blk_cell BK202.out 4).trans rfl
       have hfz77_0 := blk_frozen BK202.out 0
       have hfz77_1 := blk_frozen BK202.out 1
       have hfz77_2 := blk_frozen BK202.out 2
       have hfz77_3 := blk_frozen BK202.out 3
       have hfz77_4 := blk_frozen BK202.out 4
       go_wp2
       refine bodyPost_ret (results_cell_row rfl _ _ gb202 78 #[.int .i64 t203, .int .i64 t203, .int .u8 33, .string (⟨#[]⟩ : ByteArray), .int .i64 0] (0, 0) _ rfl (ts58_ BK202.out) Tryd.underlying78 rfl (by kernel_rfl)) rfl ?_
       exact ⟨ts42_, ts29_ HB.out GE202.out⟩
  rw [if_neg c8] at H
  exact absurd H (by simp)
 rw [if_neg c7] at H
 exact absurd H (by simp)
end Go.Proofs.YtlaijeeeblcinaaDoor.A
