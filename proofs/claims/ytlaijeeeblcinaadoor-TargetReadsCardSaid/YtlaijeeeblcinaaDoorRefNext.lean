/- Written by wip/tools/xprint.py, a program of this session that drives the kit's printer. Not trusted: Lean checks it. -/
import Derived.Test.YtlaijeeeblcinaaDoorAx0
import Derived.Test.YtlaijeeeblcinaaDoorAx6
import Derived.Deep.RegionWith
set_option maxHeartbeats 8000000
set_option maxRecDepth 100000
namespace Go.Proofs.YtlaijeeeblcinaaDoor.A
open Go.RowKit Go.Proofs.YtlaijeeeblcinaaDoorW.PrintWords Go.Proofs.YtlaijeeeblcinaaDoorW.PrintLast Go.Proofs.YtlaijeeeblcinaaDoorW.PrintMore
attribute [local go_sem] max2_int min2_int max_two min_two max_three min_three max_four min_four   -- for this text's walks alone
set_option linter.unusedVariables false
set_option linter.unusedSimpArgs false
/-- A state of type 80 at block g of W; what its slices lead to came in by w0. -/
def IsS80 (w0 W : World) (g : Nat) (f0 : ByteArray) (f1 : Int) (f2 : Int) (f3 : Int) (f4 : ByteArray) (f5 : Int) (f6 : Bool) (f7 : Int) : Prop := W.heap[g]? = some (.cells #[.string f0, .int .i64 f1, .int .i64 f2, .int .u8 f3, .string f4, .int .i64 f5, .bool f6, .int .i64 f7] 80 (0, 0)) ∧ w0.heap.size ≤ g
theorem IsS80.grown {w0 W : World} {g : Nat} {f0 : ByteArray} {f1 : Int} {f2 : Int} {f3 : Int} {f4 : ByteArray} {f5 : Int} {f6 : Bool} {f7 : Int} {W1 : World} {row : Option Nat} (h : IsS80 w0 W g f0 f1 f2 f3 f4 f5 f6 f7) (hw : W.grownBy W1 row) (hne : some g ≠ row) : IsS80 w0 W1 g f0 f1 f2 f3 f4 f5 f6 f7 := by
 obtain ⟨hb, hg⟩ := h
 exact ⟨blk_grown hb hw hne, hg⟩
theorem IsS80.kept {w0 W : World} {g : Nat} {f0 : ByteArray} {f1 : Int} {f2 : Int} {f3 : Int} {f4 : ByteArray} {f5 : Int} {f6 : Bool} {f7 : Int} {W1 : World} {S : Nat → Prop} (h : IsS80 w0 W g f0 f1 f2 f3 f4 f5 f6 f7) (hk : Kept W W1 S) (hne : ¬ S g) : IsS80 w0 W1 g f0 f1 f2 f3 f4 f5 f6 f7 := by
 obtain ⟨hb, hg⟩ := h
 exact ⟨blk_kept hb hk hne, hg⟩
theorem IsS80.below {w0 W : World} {g : Nat} {f0 : ByteArray} {f1 : Int} {f2 : Int} {f3 : Int} {f4 : ByteArray} {f5 : Int} {f6 : Bool} {f7 : Int} {W1 : World} (h : IsS80 w0 W g f0 f1 f2 f3 f4 f5 f6 f7) (hw : Below W.heap.size W W1) : IsS80 w0 W1 g f0 f1 f2 f3 f4 f5 f6 f7 := h.grown (grown_of_below hw none) (by simp)
theorem IsS80.alloc {w0 W : World} {g : Nat} {f0 : ByteArray} {f1 : Int} {f2 : Int} {f3 : Int} {f4 : ByteArray} {f5 : Int} {f6 : Bool} {f7 : Int} (h : IsS80 w0 W g f0 f1 f2 f3 f4 f5 f6 f7) (o : Obj) : IsS80 w0 (W.alloc o) g f0 f1 f2 f3 f4 f5 f6 f7 := h.below (below_alloc (Below.refl _ _) o)
theorem IsS80.drewN {w0 W : World} {g : Nat} {f0 : ByteArray} {f1 : Int} {f2 : Int} {f3 : Int} {f4 : ByteArray} {f5 : Int} {f6 : Bool} {f7 : Int} (h : IsS80 w0 W g f0 f1 f2 f3 f4 f5 f6 f7) (m : Nat) : IsS80 w0 (W.drewN m) g f0 f1 f2 f3 f4 f5 f6 f7 := h
theorem IsS80.drew {w0 W : World} {g : Nat} {f0 : ByteArray} {f1 : Int} {f2 : Int} {f3 : Int} {f4 : ByteArray} {f5 : Int} {f6 : Bool} {f7 : Int} (h : IsS80 w0 W g f0 f1 f2 f3 f4 f5 f6 f7) : IsS80 w0 W.drew g f0 f1 f2 f3 f4 f5 f6 f7 := h
theorem IsS80.at_ {w0 W : World} {g : Nat} {f0 : ByteArray} {f1 : Int} {f2 : Int} {f3 : Int} {f4 : ByteArray} {f5 : Int} {f6 : Bool} {f7 : Int} {w' : World} {m : Nat} (hq : W.drewN m = w') (h : IsS80 w0 W g f0 f1 f2 f3 f4 f5 f6 f7) : IsS80 w0 w' g f0 f1 f2 f3 f4 f5 f6 f7 := by subst hq; exact IsS80.drewN h m
theorem IsS80.apart {w0 W : World} {g : Nat} {f0 : ByteArray} {f1 : Int} {f2 : Int} {f3 : Int} {f4 : ByteArray} {f5 : Int} {f6 : Bool} {f7 : Int} {α : Type} {d : Kd α} {e : Nat} {base : Nat} {ok : Nat → Prop} {v : Value} {xs : List α} (h : IsS80 w0 W g f0 f1 f2 f3 f4 f5 f6 f7) (ho : d.R e W base ok v xs) (ht : ∀ q, q ∈ e :: d.E → q ≠ 80) : d.R e W base (fun k => ok k ∧ k ≠ g) v xs := by
 obtain ⟨hb, hg⟩ := h
 exact Kd.R_types ho hb ht
theorem IsS80.own_ne {w0 W : World} {g : Nat} {f0 : ByteArray} {f1 : Int} {f2 : Int} {f3 : Int} {f4 : ByteArray} {f5 : Int} {f6 : Bool} {f7 : Int} {α : Type} {d : Kd α} {e : Nat} {base : Nat} {ok : Nat → Prop} {v : Value} {xs : List α} (h : IsS80 w0 W g f0 f1 f2 f3 f4 f5 f6 f7) (ho : d.R e W base ok v xs) (ht : e ≠ 80) : some g ≠ v.ownBlock := by
 obtain ⟨hb, hg⟩ := h
 exact Kd.R_ne ho hb ht
theorem IsS80.lt {w0 W : World} {g : Nat} {f0 : ByteArray} {f1 : Int} {f2 : Int} {f3 : Int} {f4 : ByteArray} {f5 : Int} {f6 : Bool} {f7 : Int} (h : IsS80 w0 W g f0 f1 f2 f3 f4 f5 f6 f7) : g < W.heap.size := by
 obtain ⟨hb, hg⟩ := h
 exact blk_lt hb
theorem IsS80.ge {w0 W : World} {g : Nat} {f0 : ByteArray} {f1 : Int} {f2 : Int} {f3 : Int} {f4 : ByteArray} {f5 : Int} {f6 : Bool} {f7 : Int} (h : IsS80 w0 W g f0 f1 f2 f3 f4 f5 f6 f7) : w0.heap.size ≤ g := by
 obtain ⟨hb, hg⟩ := h
 exact hg
theorem IsS80.far {w0 W : World} {g : Nat} {f0 : ByteArray} {f1 : Int} {f2 : Int} {f3 : Int} {f4 : ByteArray} {f5 : Int} {f6 : Bool} {f7 : Int} {p : Addr} (h : IsS80 w0 W g f0 f1 f2 f3 f4 f5 f6 f7) (hne : g ≠ p.block) (u : Value) : IsS80 w0 (W.setCell p u) g f0 f1 f2 f3 f4 f5 f6 f7 := by
 obtain ⟨hb, hg⟩ := h
 exact ⟨blk_far hb hne u, hg⟩
theorem cellS80_0 {W : World} {g : Nat} {f0 : ByteArray} {f1 : Int} {f2 : Int} {f3 : Int} {f4 : ByteArray} {f5 : Int} {f6 : Bool} {f7 : Int} (h : W.heap[g]? = some (.cells #[.string f0, .int .i64 f1, .int .i64 f2, .int .u8 f3, .string f4, .int .i64 f5, .bool f6, .int .i64 f7] 80 (0, 0))) : W.cell? ⟨g, 0, none⟩ = some (.string f0) := (blk_cell h 0).trans rfl
theorem IsS80.set_0 {w0 W : World} {g : Nat} {f0 : ByteArray} {f1 : Int} {f2 : Int} {f3 : Int} {f4 : ByteArray} {f5 : Int} {f6 : Bool} {f7 : Int} (h : IsS80 w0 W g f0 f1 f2 f3 f4 f5 f6 f7) (x : ByteArray) : IsS80 w0 (W.setCell ⟨g, 0, none⟩ (.string x)) g x f1 f2 f3 f4 f5 f6 f7 := by
 obtain ⟨hb, hg⟩ := h
 exact ⟨by simpa using blk_set hb 0 (.string x), hg⟩
theorem cellS80_1 {W : World} {g : Nat} {f0 : ByteArray} {f1 : Int} {f2 : Int} {f3 : Int} {f4 : ByteArray} {f5 : Int} {f6 : Bool} {f7 : Int} (h : W.heap[g]? = some (.cells #[.string f0, .int .i64 f1, .int .i64 f2, .int .u8 f3, .string f4, .int .i64 f5, .bool f6, .int .i64 f7] 80 (0, 0))) : W.cell? ⟨g, 1, none⟩ = some (.int .i64 f1) := (blk_cell h 1).trans rfl
theorem IsS80.set_1 {w0 W : World} {g : Nat} {f0 : ByteArray} {f1 : Int} {f2 : Int} {f3 : Int} {f4 : ByteArray} {f5 : Int} {f6 : Bool} {f7 : Int} (h : IsS80 w0 W g f0 f1 f2 f3 f4 f5 f6 f7) (x : Int) : IsS80 w0 (W.setCell ⟨g, 1, none⟩ (.int .i64 x)) g f0 x f2 f3 f4 f5 f6 f7 := by
 obtain ⟨hb, hg⟩ := h
 exact ⟨by simpa using blk_set hb 1 (.int .i64 x), hg⟩
theorem cellS80_2 {W : World} {g : Nat} {f0 : ByteArray} {f1 : Int} {f2 : Int} {f3 : Int} {f4 : ByteArray} {f5 : Int} {f6 : Bool} {f7 : Int} (h : W.heap[g]? = some (.cells #[.string f0, .int .i64 f1, .int .i64 f2, .int .u8 f3, .string f4, .int .i64 f5, .bool f6, .int .i64 f7] 80 (0, 0))) : W.cell? ⟨g, 2, none⟩ = some (.int .i64 f2) := (blk_cell h 2).trans rfl
theorem IsS80.set_2 {w0 W : World} {g : Nat} {f0 : ByteArray} {f1 : Int} {f2 : Int} {f3 : Int} {f4 : ByteArray} {f5 : Int} {f6 : Bool} {f7 : Int} (h : IsS80 w0 W g f0 f1 f2 f3 f4 f5 f6 f7) (x : Int) : IsS80 w0 (W.setCell ⟨g, 2, none⟩ (.int .i64 x)) g f0 f1 x f3 f4 f5 f6 f7 := by
 obtain ⟨hb, hg⟩ := h
 exact ⟨by simpa using blk_set hb 2 (.int .i64 x), hg⟩
theorem cellS80_3 {W : World} {g : Nat} {f0 : ByteArray} {f1 : Int} {f2 : Int} {f3 : Int} {f4 : ByteArray} {f5 : Int} {f6 : Bool} {f7 : Int} (h : W.heap[g]? = some (.cells #[.string f0, .int .i64 f1, .int .i64 f2, .int .u8 f3, .string f4, .int .i64 f5, .bool f6, .int .i64 f7] 80 (0, 0))) : W.cell? ⟨g, 3, none⟩ = some (.int .u8 f3) := (blk_cell h 3).trans rfl
theorem IsS80.set_3 {w0 W : World} {g : Nat} {f0 : ByteArray} {f1 : Int} {f2 : Int} {f3 : Int} {f4 : ByteArray} {f5 : Int} {f6 : Bool} {f7 : Int} (h : IsS80 w0 W g f0 f1 f2 f3 f4 f5 f6 f7) (x : Int) : IsS80 w0 (W.setCell ⟨g, 3, none⟩ (.int .u8 x)) g f0 f1 f2 x f4 f5 f6 f7 := by
 obtain ⟨hb, hg⟩ := h
 exact ⟨by simpa using blk_set hb 3 (.int .u8 x), hg⟩
theorem cellS80_4 {W : World} {g : Nat} {f0 : ByteArray} {f1 : Int} {f2 : Int} {f3 : Int} {f4 : ByteArray} {f5 : Int} {f6 : Bool} {f7 : Int} (h : W.heap[g]? = some (.cells #[.string f0, .int .i64 f1, .int .i64 f2, .int .u8 f3, .string f4, .int .i64 f5, .bool f6, .int .i64 f7] 80 (0, 0))) : W.cell? ⟨g, 4, none⟩ = some (.string f4) := (blk_cell h 4).trans rfl
theorem IsS80.set_4 {w0 W : World} {g : Nat} {f0 : ByteArray} {f1 : Int} {f2 : Int} {f3 : Int} {f4 : ByteArray} {f5 : Int} {f6 : Bool} {f7 : Int} (h : IsS80 w0 W g f0 f1 f2 f3 f4 f5 f6 f7) (x : ByteArray) : IsS80 w0 (W.setCell ⟨g, 4, none⟩ (.string x)) g f0 f1 f2 f3 x f5 f6 f7 := by
 obtain ⟨hb, hg⟩ := h
 exact ⟨by simpa using blk_set hb 4 (.string x), hg⟩
theorem cellS80_5 {W : World} {g : Nat} {f0 : ByteArray} {f1 : Int} {f2 : Int} {f3 : Int} {f4 : ByteArray} {f5 : Int} {f6 : Bool} {f7 : Int} (h : W.heap[g]? = some (.cells #[.string f0, .int .i64 f1, .int .i64 f2, .int .u8 f3, .string f4, .int .i64 f5, .bool f6, .int .i64 f7] 80 (0, 0))) : W.cell? ⟨g, 5, none⟩ = some (.int .i64 f5) := (blk_cell h 5).trans rfl
theorem IsS80.set_5 {w0 W : World} {g : Nat} {f0 : ByteArray} {f1 : Int} {f2 : Int} {f3 : Int} {f4 : ByteArray} {f5 : Int} {f6 : Bool} {f7 : Int} (h : IsS80 w0 W g f0 f1 f2 f3 f4 f5 f6 f7) (x : Int) : IsS80 w0 (W.setCell ⟨g, 5, none⟩ (.int .i64 x)) g f0 f1 f2 f3 f4 x f6 f7 := by
 obtain ⟨hb, hg⟩ := h
 exact ⟨by simpa using blk_set hb 5 (.int .i64 x), hg⟩
theorem cellS80_6 {W : World} {g : Nat} {f0 : ByteArray} {f1 : Int} {f2 : Int} {f3 : Int} {f4 : ByteArray} {f5 : Int} {f6 : Bool} {f7 : Int} (h : W.heap[g]? = some (.cells #[.string f0, .int .i64 f1, .int .i64 f2, .int .u8 f3, .string f4, .int .i64 f5, .bool f6, .int .i64 f7] 80 (0, 0))) : W.cell? ⟨g, 6, none⟩ = some (.bool f6) := (blk_cell h 6).trans rfl
theorem IsS80.set_6 {w0 W : World} {g : Nat} {f0 : ByteArray} {f1 : Int} {f2 : Int} {f3 : Int} {f4 : ByteArray} {f5 : Int} {f6 : Bool} {f7 : Int} (h : IsS80 w0 W g f0 f1 f2 f3 f4 f5 f6 f7) (x : Bool) : IsS80 w0 (W.setCell ⟨g, 6, none⟩ (.bool x)) g f0 f1 f2 f3 f4 f5 x f7 := by
 obtain ⟨hb, hg⟩ := h
 exact ⟨by simpa using blk_set hb 6 (.bool x), hg⟩
theorem cellS80_7 {W : World} {g : Nat} {f0 : ByteArray} {f1 : Int} {f2 : Int} {f3 : Int} {f4 : ByteArray} {f5 : Int} {f6 : Bool} {f7 : Int} (h : W.heap[g]? = some (.cells #[.string f0, .int .i64 f1, .int .i64 f2, .int .u8 f3, .string f4, .int .i64 f5, .bool f6, .int .i64 f7] 80 (0, 0))) : W.cell? ⟨g, 7, none⟩ = some (.int .i64 f7) := (blk_cell h 7).trans rfl
theorem IsS80.set_7 {w0 W : World} {g : Nat} {f0 : ByteArray} {f1 : Int} {f2 : Int} {f3 : Int} {f4 : ByteArray} {f5 : Int} {f6 : Bool} {f7 : Int} (h : IsS80 w0 W g f0 f1 f2 f3 f4 f5 f6 f7) (x : Int) : IsS80 w0 (W.setCell ⟨g, 7, none⟩ (.int .i64 x)) g f0 f1 f2 f3 f4 f5 f6 x := by
 obtain ⟨hb, hg⟩ := h
 exact ⟨by simpa using blk_set hb 7 (.int .i64 x), hg⟩
theorem IsS80.new (w0 W : World) (f0 : ByteArray) (f1 : Int) (f2 : Int) (f3 : Int) (f4 : ByteArray) (f5 : Int) (f6 : Bool) (f7 : Int) (hB : Below w0.heap.size w0 W) : IsS80 w0 (W.alloc (.cells #[.string f0, .int .i64 f1, .int .i64 f2, .int .u8 f3, .string f4, .int .i64 f5, .bool f6, .int .i64 f7] 80)) W.heap.size f0 f1 f2 f3 f4 f5 f6 f7 := ⟨by simpa using heap_alloc_new W _, hB.size⟩
/-! ### cupelref20_reader_wrong: function 47 -/
def cupelref20_reader_wrong.f (s0_0 : ByteArray) (s0_1 : Int) (s0_2 : Int) (s0_3 : Int) (s0_4 : ByteArray) (s0_5 : Int) (s0_6 : Bool) (s0_7 : Int) : Option (ByteArray × Int × Int × Int × ByteArray × Int × Bool × Int) := if s0_6 = true then (some (s0_0, s0_1, s0_2, s0_3, s0_4, s0_5, s0_6, s0_7)) else (some (s0_0, s0_1, s0_2, s0_3, s0_4, s0_5, true, s0_1))
theorem cupelref20_reader_wrong.calls (g : Nat) (s0_0 : ByteArray) (s0_1 : Int) (s0_2 : Int) (s0_3 : Int) (s0_4 : ByteArray) (s0_5 : Int) (s0_6 : Bool) (s0_7 : Int) (r1 : ByteArray) (r2 : Int) (r3 : Int) (r4 : Int) (r5 : ByteArray) (r6 : Int) (r7 : Bool) (r8 : Int) (w0 w : World) (hI : IsS80 w0 w g s0_0 s0_1 s0_2 s0_3 s0_4 s0_5 s0_6 s0_7) (hB : Below w0.heap.size w0 w) (h : cupelref20_reader_wrong.f s0_0 s0_1 s0_2 s0_3 s0_4 s0_5 s0_6 s0_7 = some (r1, r2, r3, r4, r5, r6, r7, r8)) :
  Calls Tryd.prog 47 #[.pointer (some ⟨g, 0, none⟩)] w fun e w' => e = .returned (.tuple #[]) ∧ IsS80 w0 w' g r1 r2 r3 r4 r5 r6 r7 r8 ∧ Below w0.heap.size w0 w' ∧ KeepBut w w' g none := by
 have HI0 := Aside0.mk hI
 have HK := Aside0.mk (KeepBut.refl w g none)
 have HL := Aside0.mk hB.size
 clear hI
 have HW0 := Aside0.mk hB.size
 have HB := Aside0.mk hB
 clear hB
 have H : (if s0_6 = true then (some (s0_0, s0_1, s0_2, s0_3, s0_4, s0_5, s0_6, s0_7)) else (some (s0_0, s0_1, s0_2, s0_3, s0_4, s0_5, true, s0_1))) = some (r1, r2, r3, r4, r5, r6, r7, r8) := h
 clear h
 by_cases c2 : s0_6 = true
 ·subst c2
  rw [if_pos rfl] at H
  simp only [Option.some.injEq, Prod.mk.injEq] at H
  obtain ⟨rfl, rfl, rfl, rfl, rfl, rfl, rfl, rfl⟩ := H
  obtain ⟨HGz3, hgz3⟩ := HI0.out
  have hcz3_0 := cellS80_0 HGz3
  have hcz3_1 := cellS80_1 HGz3
  have hcz3_2 := cellS80_2 HGz3
  have hcz3_3 := cellS80_3 HGz3
  have hcz3_4 := cellS80_4 HGz3
  have hcz3_5 := cellS80_5 HGz3
  have hcz3_6 := cellS80_6 HGz3
  have hcz3_7 := cellS80_7 HGz3
  have hfz3_0 := blk_frozen HGz3 0
  have hfz3_1 := blk_frozen HGz3 1
  have hfz3_2 := blk_frozen HGz3 2
  have hfz3_3 := blk_frozen HGz3 3
  have hfz3_4 := blk_frozen HGz3 4
  have hfz3_5 := blk_frozen HGz3 5
  have hfz3_6 := blk_frozen HGz3 6
  have hfz3_7 := blk_frozen HGz3 7
  clear HGz3 hgz3
  go_enter Tryd.func47, Tryd.ntmps47
  go_wp2
  first | go_end0 | ((try simp only [Exit.inBlock, Exit.then]); refine bodyPost_ret (results_none rfl _ _ _) rfl ?_)
  exact ⟨ts42_, ts50_ HI0.out, ts12_ HB.out HI0.out, ts53_ HK.out⟩
 replace c2 := Bool.eq_false_iff.mpr c2
 subst c2
 rw [if_neg Bool.false_ne_true] at H
 simp only [Option.some.injEq, Prod.mk.injEq] at H
 obtain ⟨rfl, rfl, rfl, rfl, rfl, rfl, rfl, rfl⟩ := H
 obtain ⟨HGz4, hgz4⟩ := HI0.out
 have hcz4_0 := cellS80_0 HGz4
 have hcz4_1 := cellS80_1 HGz4
 have hcz4_2 := cellS80_2 HGz4
 have hcz4_3 := cellS80_3 HGz4
 have hcz4_4 := cellS80_4 HGz4
 have hcz4_5 := cellS80_5 HGz4
 have hcz4_6 := cellS80_6 HGz4
 have hcz4_7 := cellS80_7 HGz4
 have hfz4_0 := blk_frozen HGz4 0
 have hfz4_1 := blk_frozen HGz4 1
 have hfz4_2 := blk_frozen HGz4 2
 have hfz4_3 := blk_frozen HGz4 3
 have hfz4_4 := blk_frozen HGz4 4
 have hfz4_5 := blk_frozen HGz4 5
 have hfz4_6 := blk_frozen HGz4 6
 have hfz4_7 := blk_frozen HGz4 7
 clear HGz4 hgz4
 go_enter Tryd.func47, Tryd.ntmps47
 go_wp2
 first | go_end0 | ((try simp only [Exit.inBlock, Exit.then]); refine bodyPost_ret (results_none rfl _ _ _) rfl ?_)
 exact ⟨ts42_, ts50_ HI0.out, ts12_ HB.out HI0.out, ts53_ HK.out⟩
end Go.Proofs.YtlaijeeeblcinaaDoor.A
set_option linter.all false
set_option linter.unusedVariables false
namespace Go.Proofs.YtlaijeeeblcinaaDoor.A
open Go.RowKit Go.Proofs.YtlaijeeeblcinaaDoorW.PrintWords Go.Proofs.YtlaijeeeblcinaaDoorW.PrintLast Go.Proofs.YtlaijeeeblcinaaDoorW.PrintMore
def cupelref20_reader_next.f (k : Nat) (s0_0 : ByteArray) (s0_1 : Int) (s0_2 : Int) (s0_3 : Int) (s0_4 : ByteArray) (s0_5 : Int) (s0_6 : Bool) (s0_7 : Int) : Option (ByteArray × Int × Int × Int × ByteArray × Int × Bool × Int) :=
 if s0_6 = true then some (s0_0, s0_1, s0_2, s0_3, s0_4, s0_5, s0_6, s0_7)
 else (cupelref20_read.f k s0_0 s0_2).bind fun t =>
  if t.2.2.1 = 33 then cupelref20_reader_wrong.f s0_0 t.1 t.2.1 t.2.2.1 t.2.2.2.1 t.2.2.2.2 s0_6 s0_7
  else some (s0_0, t.1, t.2.1, t.2.2.1, t.2.2.2.1, t.2.2.2.2, s0_6, s0_7)
theorem cupelref20_reader_next.mono : ∀ a0 a1 a2 a3 a4 a5 a6 a7 k, LeO (cupelref20_reader_next.f k a0 a1 a2 a3 a4 a5 a6 a7) (cupelref20_reader_next.f (k + 1) a0 a1 a2 a3 a4 a5 a6 a7) := by
 intro a0 a1 a2 a3 a4 a5 a6 a7 k
 unfold cupelref20_reader_next.f
 refine LeO.ite (LeO.refl _) (LeO.bind (cupelref20_read.mono _ _ _) (fun _ => LeO.refl _))
set_option maxHeartbeats 8000000 in
set_option maxRecDepth 100000 in
theorem cupelref20_reader_next.calls (k : Nat) (g : Nat) (s0_0 : ByteArray) (s0_1 : Int) (s0_2 : Int) (s0_3 : Int) (s0_4 : ByteArray) (s0_5 : Int) (s0_6 : Bool) (s0_7 : Int) (r1 : ByteArray) (r2 : Int) (r3 : Int) (r4 : Int) (r5 : ByteArray) (r6 : Int) (r7 : Bool) (r8 : Int) (w0 w : World) (hI : IsS80 w0 w g s0_0 s0_1 s0_2 s0_3 s0_4 s0_5 s0_6 s0_7) (hB : Below w0.heap.size w0 w) (h : cupelref20_reader_next.f k s0_0 s0_1 s0_2 s0_3 s0_4 s0_5 s0_6 s0_7 = some (r1, r2, r3, r4, r5, r6, r7, r8)) :
  Calls Tryd.prog 41 #[.pointer (some ⟨g, 0, none⟩)] w fun e w' => e = .returned (.tuple #[]) ∧ IsS80 w0 w' g r1 r2 r3 r4 r5 r6 r7 r8 ∧ Below w0.heap.size w0 w' ∧ KeepBut w w' g none := by
 obtain ⟨hG, hge⟩ := id hI
 have hc0 := cellS80_0 hG
 have hc1 := cellS80_1 hG
 have hc2 := cellS80_2 hG
 have hc3 := cellS80_3 hG
 have hc4 := cellS80_4 hG
 have hc5 := cellS80_5 hG
 have hc6 := cellS80_6 hG
 have hc7 := cellS80_7 hG
 cases s0_6 with
 | true =>
  simp only [cupelref20_reader_next.f, if_true, Option.some.injEq, Prod.mk.injEq] at h
  obtain ⟨rfl, rfl, rfl, rfl, rfl, rfl, rfl, rfl⟩ := h
  clear hG hge
  have HI := Aside0.mk hI
  have HB := Aside0.mk hB
  clear hI hB
  go_enter Tryd.func41, Tryd.ntmps41
  go_wp2
  go_end0
  exact ⟨rfl, HI.out, HB.out, KeepBut.refl _ _ _⟩
 | false =>
  simp only [cupelref20_reader_next.f, Bool.false_eq_true, if_false] at h
  cases hrd : cupelref20_read.f k s0_0 s0_2 with
  | none => rw [hrd] at h; cases h
  | some t =>
   obtain ⟨t1, t2, t3, t4, t5⟩ := t
   rw [hrd] at h
   simp only [Option.bind_some] at h
   have HH := Aside0.mk h
   have HR := Aside0.mk hrd
   have HI := Aside0.mk hI
   have HB := Aside0.mk hB
   clear h hrd hI hB
   go_enter Tryd.func41, Tryd.ntmps41
   go_wp2
   go_region_with (go_at_call 66; refine (cupelref20_read.calls k s0_0 s0_2 t1 t2 t3 t4 t5 _ HR.out).mono ?_; rintro e w2 ⟨rfl, hb2⟩; have hG2 := Aside0.mk (blk_below (blk_drew hG) hb2); have hd1 := cellS80_1 hG2.out; have hd2 := cellS80_2 hG2.out; have hd3 := cellS80_3 hG2.out; have hd4 := cellS80_4 hG2.out; have hd5 := cellS80_5 hG2.out; have hf1 := blk_frozen hG2.out 1; have hf2 := blk_frozen hG2.out 2; have hf3 := blk_frozen hG2.out 3; have hf4 := blk_frozen hG2.out 4; have hf5 := blk_frozen hG2.out 5)
   all_goals
    have hI2 : IsS80 w0 w2 g s0_0 s0_1 s0_2 s0_3 s0_4 s0_5 false s0_7 := ⟨hG2.out, hge⟩
    have HI3 := Aside0.mk (((((hI2.set_1 t1).set_2 t2).set_3 t3).set_4 t4).set_5 t5)
    have b2 : Below w0.heap.size w0 w2 := below_step (below_drew1 HB.out) hb2
    have HB3 := Aside0.mk (below_set (j := 5) (v := .int .i64 t5) (below_set (j := 4) (v := .string t4) (below_set (j := 3) (v := .int .u8 t3) (below_set (j := 2) (v := .int .i64 t2) (below_set (j := 1) (v := .int .i64 t1) b2 hge) hge) hge) hge) hge)
    have HK3 := Aside0.mk (((((KeepBut.set_ (show KeepBut w w2 g none from KeepBut.of_below (w := w.drew) hb2 g none) 1 (.int .i64 t1)).set_ 2 (.int .i64 t2)).set_ 3 (.int .u8 t3)).set_ 4 (.string t4)).set_ 5 (.int .i64 t5))
    clear hG2 hd1 hd2 hd3 hd4 hd5 hf1 hf2 hf3 hf4 hf5 hI2 b2 hb2 hc0 hc1 hc2 hc3 hc4 hc5 hc6 hc7 hG
    generalize World.setCell _ _ _ = w3 at HI3 HB3 HK3 ⊢
    have hz3 := cellS80_3 HI3.out.1
    by_cases c : t3 = 33
    ·subst c
     have HW := Aside0.mk (by have q := HH.out; rw [if_pos rfl] at q; exact q)
     clear HH
     go_wp2_with (first | (go_at_call 47; refine (cupelref20_reader_wrong.calls g s0_0 t1 t2 33 t4 t5 false s0_7 r1 r2 r3 r4 r5 r6 r7 r8 w0 _ HI3.out HB3.out HW.out).mono ?_; rintro e w4 ⟨rfl, hi4, hb4, hk4⟩; have HI4 := Aside0.mk hi4; have HB4 := Aside0.mk hb4; have HK4 := Aside0.mk hk4; clear hi4 hb4 hk4))
     go_end0
     exact ⟨rfl, HI4.out, HB4.out, HK3.out.trans HK4.out (.inl rfl)⟩
    ·have q := HH.out
     rw [if_neg c] at q
     simp only [Option.some.injEq, Prod.mk.injEq] at q
     obtain ⟨rfl, rfl, rfl, rfl, rfl, rfl, rfl, rfl⟩ := q
     clear HH
     go_wp2
     go_end0
     exact ⟨rfl, HI3.out, HB3.out, HK3.out⟩
end Go.Proofs.YtlaijeeeblcinaaDoor.A
