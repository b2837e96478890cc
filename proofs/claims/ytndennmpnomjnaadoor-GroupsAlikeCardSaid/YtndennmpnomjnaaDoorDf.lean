/- Written by wip/tools/xprint.py, a program of this session that drives the kit's printer. Not trusted: Lean checks it. -/
import Derived.Test.YtndennmpnomjnaaDoorAx1
import Derived.Test.YtndennmpnomjnaaDoorSt
import Derived.Test.YtndennmpnomjnaaDoorSortK
set_option linter.all false
namespace Go.Proofs.YtndennmpnomjnaaDoor.A
open Go.RowKit Go.Proofs.YtndennmpnomjnaaDoorW.PrintWords Go.Proofs.YtndennmpnomjnaaDoorW.PrintLast Go.Proofs.YtndennmpnomjnaaDoorW.PrintMore
attribute [local go_sem] max2_int min2_int max_two min_two max_three min_three max_four min_four   -- for this text's walks alone
set_option linter.unusedVariables false
set_option linter.unusedSimpArgs false
open Go.Sort (SWO PermIn SortedIn HoldsK)
instance : Inhabited S57 := ⟨z57⟩
/-- A difference's cells. -/
def enc57 (x : S57) : List Value := [.int .i64 x.f0, .int .i64 x.f1, .int .i64 x.f2, .int .i64 x.f3]
/-- What the order of two differences comes to. -/
def cf57 (x y : S57) : Int := wrap64 (x.f0 - y.f0)
/-- The order of the differences: by all four numbers. -/
def lt57 (x y : S57) : Bool := decide (x.f0 < y.f0 ∨ (x.f0 = y.f0 ∧ (x.f1 < y.f1 ∨ (x.f1 = y.f1 ∧ (x.f2 < y.f2 ∨ (x.f2 = y.f2 ∧ x.f3 < y.f3))))))
theorem swo57 : SWO lt57 where
 irrefl x := by simp [lt57]
 trans x y z h1 h2 := by simp only [lt57, decide_eq_true_eq] at *; omega
 ntrans x y z h1 h2 := by simp only [lt57, decide_eq_false_iff_not] at *; omega
theorem one57 (x y : S57) (h1 : lt57 x y = false) (h2 : lt57 y x = false) : x = y := by
 simp only [lt57, decide_eq_false_iff_not] at h1 h2
 obtain ⟨a, b, c, d⟩ := x
 obtain ⟨a', b', c', d'⟩ := y
 simp only [S57.mk.injEq] at h1 h2 ⊢
 omega
/-- The differences in their order. -/
def sortD (l : List S57) : List S57 := l.mergeSort (fun x y => !lt57 y x)
/-- What the sort asks of the differences: where two have one and the same first outcome, the second ones rise. -/
def DOk (l : List S57) : Prop := l.length < 1000000000 ∧ (∀ x ∈ l, 0 ≤ x.f0 ∧ x.f0 < 1000000) ∧ l.Pairwise (fun x y => x.f0 = y.f0 → x.f1 < y.f1)
theorem wrap64_small (n : Int) (h0 : -9223372036854775808 ≤ n) (h1 : n ≤ 9223372036854775807) : wrap64 n = n := by
 unfold wrap64; omega
theorem DOk.test {l : List S57} (h : DOk l) (i j : Nat) (hij : i < j) (hj : j < l.toArray.size) : Go.Proofs.ltOf cf57 l.toArray[j]! l.toArray[i]! = lt57 l.toArray[j]! l.toArray[i]! := by
 have hj' : j < l.length := by simpa using hj
 have hp := List.pairwise_iff_getElem.1 h.2.2 i j (by omega) hj' hij
 have bi := h.2.1 l[i] (List.getElem_mem _)
 have bj := h.2.1 l[j] (List.getElem_mem _)
 rw [show l.toArray[j]! = l[j] by simp [getElem!_pos, hj'], show l.toArray[i]! = l[i] by simp [getElem!_pos, show i < l.length by omega]]
 generalize l[i] = x at *
 generalize l[j] = y at *
 unfold Go.Proofs.ltOf cf57 lt57
 rw [wrap64_small _ (by omega) (by omega)]
 refine decide_eq_decide.2 ?_
 omega
theorem closure57 (x y : S57) : observe_Differ_1.f x.f0 x.f1 x.f2 x.f3 y.f0 y.f1 y.f2 y.f3 = some (cf57 x y) := by rfl
theorem cmpLays57 (blk off size : Nat) (w : World) : Go.Proofs.CmpLays Tryd.prog 40 #[] enc57 4 cf57 blk off size w := fun _ _ _ _ x y =>
 (observe_Differ_1.calls x.f0 x.f1 x.f2 x.f3 y.f0 y.f1 y.f2 y.f3 (cf57 x y) _ (closure57 x y)).mono fun _ _ ⟨he, _, hg⟩ => ⟨he, hg⟩
theorem sorted57 {l : List S57} {d' : Array S57} (hp : PermIn 0 l.toArray.size l.toArray d') (hs : SortedIn lt57 0 l.toArray.size d') : d' = (sortD l).toArray := by
 have hu := Go.Sort.sorted_unique_holds (lt := lt57) swo57 one57 l.toArray d' hp hs
 rw [← Array.toArray_toList (xs := d'), hu]
 rfl
theorem R_snil (w : World) (base : Nat) (ok : Nat → Prop) : Kd.R k57 57 w base ok (.slice none 0 0) (sortD []) := by
 rw [show sortD [] = [] by simp [sortD]]
 exact Kd.R_nil _ _ _ _ _
/-- The sort of a row of differences of one's own. -/
theorem sortD_row {w : World} {g cap base : Nat} {cur : Array Value} {l : List S57} (h : DOk l) (hg : base ≤ g) (hh : w.heap[g]? = some (.cells cur 57 (0, 0))) (hnc : l.length ≤ cap) (hcap : cap ≤ maxLen) (hsz : cur.size = cap * 4) (htake : cur.toList.take (l.length * 4) = l.flatMap enc57) :
  Calls Tryd.prog 39 #[.slice (some ⟨g, 0, none⟩) l.length cap, .func (.func 40) #[] #[]] w fun e w' =>
   e = .returned (.tuple #[]) ∧ Kd.R k57 57 w' base (fun _ => True) (.slice (some ⟨g, 0, none⟩) l.length cap) (sortD l) ∧ w.grownBy w' (some g) := by
 have eg : ∀ args w, (callFunc 40 args).run Tryd.prog w = .ok (.enter 40 args) w := Go.Proofs.enters_of Tryd.func40 (by kernel_rfl) rfl
 have hblk : g < w.heap.size := (Array.getElem?_eq_some_iff.1 hh).1
 have hH : HoldsK enc57 4 w g 0 l.toArray := SortK.holdsK_of_block enc57 4 (fun _ => rfl) hh htake
 have R : RowK enc57 4 w g 0 l.toArray := ⟨fun _ => rfl, fun x v hv => by simp [enc57] at hv; rcases hv with rfl | rfl | rfl | rfl <;> rfl, hH, hblk⟩
 have hs := sortStable_w enc57 cf57 lt57 swo57 40 #[] g 0 cap l.toArray w eg (cmpLays57 g 0 l.toArray.size w) R (by simpa using h.1) (fun i j hij hj => h.test i j hij hj)
 rw [List.size_toArray] at hs
 refine Calls.mono hs ?_
 rintro e w' ⟨he, d', hp, hsd, n, os, rfl⟩
 have hd := sorted57 (l := l) (d' := d') (by simpa using hp) (by simpa using hsd)
 subst hd
 have hlen : (sortD l).length = l.length := by simp [sortD]
 refine ⟨he, ⟨fun _ _ => trivial, _, ?_, SortK.flat_reps enc57 4 (by omega) (fun _ => rfl) (fun x => k57_mkM _ _ _ x) _⟩, SortK.grownBy_sortedK enc57 4 _⟩
 have := SortK.ownsRow_sortedK enc57 4 (fun _ => rfl) (xs := l) (ys := sortD l) hlen hg hh hnc hcap hsz (n := n) (os := os)
 rw [hlen] at this ⊢
 exact this
set_option maxHeartbeats 1000000 in
/-- The sort of no differences at all. -/
theorem sortD_none (w : World) : Calls Tryd.prog 39 #[.slice none 0 0, .func (.func 40) #[] #[]] w fun e w' => e = .returned (.tuple #[]) ∧ w' = w := by
 have e54 : ∀ args w, (callFunc 54 args).run Tryd.prog w = .ok (.enter 54 args) w := Go.Proofs.enters_of Tryd.func54 (by kernel_rfl) rfl
 have e62 : ∀ args w, (callFunc 62 args).run Tryd.prog w = .ok (.enter 62 args) w := Go.Proofs.enters_of Tryd.func62 (by kernel_rfl) rfl
 have hi : ∀ w, Calls Tryd.prog 62 #[.slice none 0 0, .int .i64 0, .int .i64 0, .func (.func 40) #[] #[]] w fun e w' => e = .returned (.tuple #[]) ∧ w' = w := fun w => by
  go_enter Tryd.func62, Tryd.ntmps62
  go_wp2
  refine wp_loop_rounds 1 ?_
  rw [rounds_succ]
  go_wp2
  go_end0
  exact ⟨rfl, rfl⟩
 have hs : ∀ w, Calls Tryd.prog 54 #[.slice none 0 0, .int .i64 0, .func (.func 40) #[] #[]] w fun e w' => e = .returned (.tuple #[]) ∧ w' = w := fun w => by
  go_enter Tryd.func54, Tryd.ntmps54
  go_wp2
  refine wp_loop_rounds 1 ?_
  rw [rounds_succ]
  go_wp2_with (go_at_fn 62; refine (hi _).mono ?_; rintro e w' ⟨rfl, rfl⟩)
  refine wp_loop_rounds 1 ?_
  rw [rounds_succ]
  go_wp2
  go_end0
  exact ⟨rfl, rfl⟩
 go_enter Tryd.func39, Tryd.ntmps39
 go_wp2_with (go_at_fn 54; refine (hs _).mono ?_; rintro e w' ⟨rfl, rfl⟩)
 go_end0
 exact ⟨rfl, rfl⟩
/-! ### observe_Differ: function 19 -/
mutual
def observe_Differ.l0 : Nat → List (S45) → List (S57) → List (S45) → Int → Int → Option ((List (S57)) × Int)
 | 0, _, _, _, _, _ => none
 | k + 1, x0, x4, x13, x14, x15 => if x15 < x14 then (if 0 ≤ x15 then (if x15 < (x13.length : Int) then (if x15 ≤ (x0.length : Int) then ((some (x0.take (x15 : Int).toNat : List (S45))).bind fun y119 => (observe_Differ.l1 k x0 x4 x15 x13 x14 x15 y119 (y119.length : Int) 0 ((rd_T45 x13 x15).f0) ((rd_T45 x13 x15).f1.f0) ((rd_T45 x13 x15).f1.f1) ((rd_T45 x13 x15).f1.f2))) else (none)) else (none)) else (none)) else (some (x4, 0))
def observe_Differ.l1 : Nat → List (S45) → List (S57) → Int → List (S45) → Int → Int → List (S45) → Int → Int → ByteArray → List Int → Int → Int → Option ((List (S57)) × Int)
 | 0, _, _, _, _, _, _, _, _, _, _, _, _, _ => none
 | k + 1, x0, x4, x5, x13, x14, x15, x22, x23, x24, x119000, x119001, x119002, x119003 => if x24 < x23 then (if 0 ≤ x24 then (if x24 < (x22.length : Int) then (if x119002 = 3 then (observe_Differ.l1 k x0 x4 x5 x13 x14 x15 x22 x23 (wrap64 (x24 + 1)) x119000 x119001 x119002 x119003) else (if ((rd_T45 x22 x24).f1.f1) = 3 then (observe_Differ.l1 k x0 x4 x5 x13 x14 x15 x22 x23 (wrap64 (x24 + 1)) x119000 x119001 x119002 x119003) else ((irsem_Agree.f k ((rd_T45 x22 x24).f1.f0) ((rd_T45 x22 x24).f1.f1) ((rd_T45 x22 x24).f1.f2) x119001 x119002 x119003).bind fun t125 => (if t125 = true then (observe_Differ.l1 k x0 x4 x5 x13 x14 x15 x22 x23 (wrap64 (x24 + 1)) x119000 x119001 x119002 x119003) else ((observe_kind.f k ((rd_T45 x22 x24).f1.f0) ((rd_T45 x22 x24).f1.f1) ((rd_T45 x22 x24).f1.f2) x119001 x119002 x119003).bind fun bt127 => (if x4.length < 4398046511104 then (observe_Differ.l1 k x0 (x4 ++ [(⟨x24, x5, bt127.1, bt127.2⟩ : S57)]) x5 x13 x14 x15 x22 x23 (wrap64 (x24 + 1)) x119000 x119001 x119002 x119003) else (none))))))) else (none)) else (none)) else (observe_Differ.l0 k x0 x4 x13 x14 (wrap64 (x15 + 1)))
end
def observe_Differ.f (k : Nat) (l0 : List (S45)) : Option ((List (S57)) × Int) := if (l0.length : Int) > 100 then (some (([] : List (S57)), 3)) else (observe_Differ.l0 k l0 ([] : List (S57)) l0 (l0.length : Int) 0)
theorem observe_Differ.mono_l : ∀ k, (∀ y0 y1 y2 y3 y4, LeO (observe_Differ.l0 k y0 y1 y2 y3 y4) (observe_Differ.l0 (k + 1) y0 y1 y2 y3 y4)) ∧ (∀ y0 y1 y2 y3 y4 y5 y6 y7 y8 y9 y10 y11 y12, LeO (observe_Differ.l1 k y0 y1 y2 y3 y4 y5 y6 y7 y8 y9 y10 y11 y12) (observe_Differ.l1 (k + 1) y0 y1 y2 y3 y4 y5 y6 y7 y8 y9 y10 y11 y12))
 | 0 => ⟨fun _ _ _ _ _ r h => by simp [observe_Differ.l0] at h, fun _ _ _ _ _ _ _ _ _ _ _ _ _ r h => by simp [observe_Differ.l1] at h⟩
 | k + 1 => by
  obtain ⟨ih0, ih1⟩ := observe_Differ.mono_l k
  refine ⟨?_, ?_⟩
  ·intro y0 y1 y2 y3 y4
   unfold observe_Differ.l0
   repeat' first
   | (with_reducible exact ih0 _ _ _ _ _)
   | (with_reducible exact ih1 _ _ _ _ _ _ _ _ _ _ _ _ _)
   | (with_reducible exact irsem_Agree.mono _ _ _ _ _ _ _)
   | (with_reducible exact observe_kind.mono _ _ _ _ _ _ _)
   | (with_reducible exact LeO.refl _)
   | (with_reducible exact LeO.none _)
   | (with_reducible refine LeO.ite ?_ ?_)
   | (with_reducible refine LeO.bind ?_ (fun _ => ?_))
   | exact ih0 _ _ _ _ _
   | exact ih1 _ _ _ _ _ _ _ _ _ _ _ _ _
   | exact irsem_Agree.mono _ _ _ _ _ _ _
   | exact observe_kind.mono _ _ _ _ _ _ _
   | exact LeO.none _
   | refine LeO.ite ?_ ?_
   | refine LeO.bind ?_ (fun _ => ?_)
  ·intro y0 y1 y2 y3 y4 y5 y6 y7 y8 y9 y10 y11 y12
   unfold observe_Differ.l1
   repeat' first
   | (with_reducible exact ih0 _ _ _ _ _)
   | (with_reducible exact ih1 _ _ _ _ _ _ _ _ _ _ _ _ _)
   | (with_reducible exact irsem_Agree.mono _ _ _ _ _ _ _)
   | (with_reducible exact observe_kind.mono _ _ _ _ _ _ _)
   | (with_reducible exact LeO.refl _)
   | (with_reducible exact LeO.none _)
   | (with_reducible refine LeO.ite ?_ ?_)
   | (with_reducible refine LeO.bind ?_ (fun _ => ?_))
   | exact ih0 _ _ _ _ _
   | exact ih1 _ _ _ _ _ _ _ _ _ _ _ _ _
   | exact irsem_Agree.mono _ _ _ _ _ _ _
   | exact observe_kind.mono _ _ _ _ _ _ _
   | exact LeO.none _
   | refine LeO.ite ?_ ?_
   | refine LeO.bind ?_ (fun _ => ?_)
theorem observe_Differ.mono : ∀ a0 k, LeO (observe_Differ.f k a0) (observe_Differ.f (k + 1) a0) := by
 intro a0 k
 obtain ⟨ih0, ih1⟩ := observe_Differ.mono_l k
 unfold observe_Differ.f
 repeat' first
   | (with_reducible exact ih0 _ _ _ _ _)
   | (with_reducible exact ih1 _ _ _ _ _ _ _ _ _ _ _ _ _)
   | (with_reducible exact irsem_Agree.mono _ _ _ _ _ _ _)
   | (with_reducible exact observe_kind.mono _ _ _ _ _ _ _)
   | (with_reducible exact LeO.refl _)
   | (with_reducible exact LeO.none _)
   | (with_reducible refine LeO.ite ?_ ?_)
   | (with_reducible refine LeO.bind ?_ (fun _ => ?_))
   | exact ih0 _ _ _ _ _
   | exact ih1 _ _ _ _ _ _ _ _ _ _ _ _ _
   | exact irsem_Agree.mono _ _ _ _ _ _ _
   | exact observe_kind.mono _ _ _ _ _ _ _
   | exact LeO.none _
   | refine LeO.ite ?_ ?_
   | refine LeO.bind ?_ (fun _ => ?_)
set_option maxHeartbeats 8000000 in
set_option maxRecDepth 100000 in
theorem observe_Differ.calls (k : Nat) (A0 : Option Addr) (c0 : Nat) (l0 : List (S45)) (r1 : List (S57)) (r2 : Int) (w : World) (hr0 : Kd.C k45 w A0 l0.length l0) (hc0 : l0.length ≤ c0) (h : observe_Differ.f k l0 = some (r1, r2)) (hok_ : DOk r1) :
  Calls Tryd.prog 19 #[.slice A0 l0.length c0] w fun e w' => ∃ v0_ : Value, e = .returned (.tuple #[v0_, .int .i64 r2]) ∧ Kd.R k57 57 w' w.heap.size (fun _ => True) v0_ (sortD r1) ∧ Below w.heap.size w w' := by
 have hu45 := Tryd.underlying45
 have hu43 := Tryd.underlying43
 have hu57 := Tryd.underlying57
 have HR0 := Aside0.mk hr0
 have HOK_ := Aside0.mk hok_
 clear hok_
 have HC0 := Aside0.mk hc0
 clear hr0 hc0
 have HB := Aside0.mk (Below.refl w.heap.size w)
 have H : (if (l0.length : Int) > 100 then (some (([] : List (S57)), 3)) else (observe_Differ.l0 k l0 ([] : List (S57)) l0 (l0.length : Int) 0)) = some (r1, r2) := h
 clear h
 by_cases c2 : (l0.length : Int) > 100
 ·rw [if_pos c2] at H
  have c2b0 : decide (100 < (l0.length : Int)) = true := decide_eq_true c2
  have c2b1 : decide (100 < l0.length) = true := decide_eq_true (by omega)
  clear c2
  simp only [Option.some.injEq, Prod.mk.injEq] at H
  obtain ⟨rfl, rfl⟩ := H
  go_enter Tryd.func19, Tryd.ntmps19
  go_wp2
  go_ret2
  exact ⟨_, by first | rfl | (simp [errW_none, errW_some] <;> rfl) | (simp [*, errW_none, errW_some] <;> rfl), by first | exact R_snil _ _ _ | exact Kd.R_nil _ _ _ _ _ | exact Kd.N_nil _ _ _ _ _ | exact Kd.V_nil _ _ _ _ _ | exact Kd.Q_nil _ _ _ _ _ | exact Kd.S_nil _ _ _ _ _, by repeat (first | (with_reducible first | exact HB.out | apply below_alloc | apply pw_below_drewN | apply below_drew1) | exact HB.out)⟩
 ·rw [if_neg c2] at H
  have c2b0 : decide (100 < (l0.length : Int)) = false := decide_eq_false c2
  have c2b1 : decide (100 < l0.length) = false := decide_eq_false (by omega)
  clear c2
  have H' := Aside0.mk H
  clear H
  go_enter Tryd.func19, Tryd.ntmps19
  go_wp2
  go_loopg [4, 15] k (fun kq v4 v15 w' => ∃ (x4_1 : List (S57)) (x15_1 : Int), v15 = .int .i64 x15_1 ∧ Aside0 (observe_Differ.l0 kq l0 x4_1 l0 (l0.length : Int) x15_1 = some (r1, r2)) ∧ Aside0 (kq ≤ k) ∧ Aside0 (Kd.R k57 57 w' w.heap.size (fun _ => True) v4 x4_1) ∧ Aside0 (Below w.heap.size w w'))
  case atStart => exact ⟨(([] : List (S57))), (0), (by first | rfl | (simp; done) | (simp [*]; done)), H', ⟨Nat.le_refl _⟩, ⟨by first | exact Kd.R_nil _ _ _ _ _ | exact Kd.N_nil _ _ _ _ _ | exact Kd.V_nil _ _ _ _ _ | exact Kd.Q_nil _ _ _ _ _ | exact Kd.S_nil _ _ _ _ _⟩, ⟨by repeat (first | (with_reducible first | exact HB.out | apply below_alloc | apply pw_below_drewN | apply below_drew1) | exact HB.out)⟩⟩
  case round =>
   clear H'
   try clear c1
   try clear c2
   try clear c2b0
   try clear c2b1
   try clear p2
   obtain ⟨x4_1, x15_1, rfl, HA, HK1, HO_4, HB⟩ := hrel
   cases gk with
   | zero => exact absurd HA.out (by simp [observe_Differ.l0])
   | succ k1 =>
    have H := HA.out
    clear HA
    simp only [observe_Differ.l0] at H
    by_cases c3 : x15_1 < (l0.length : Int)
    ·rw [if_pos c3] at H
     have c3b0 : decide (x15_1 < (l0.length : Int)) = true := decide_eq_true c3
     clear c3
     by_cases c4 : 0 ≤ x15_1
     ·rw [if_pos c4] at H
      have c4b0 : decide (0 ≤ x15_1) = true := decide_eq_true c4
      clear c4
      by_cases c5 : x15_1 < (l0.length : Int)
      ·rw [if_pos c5] at H
       have c5b0 : decide (x15_1 < (l0.length : Int)) = true := decide_eq_true c5
       clear c5
       have c6b0 := eq_true (of_decide_eq_true (by first | (with_reducible assumption) | assumption) : 0 ≤ x15_1)
       by_cases c7 : x15_1 ≤ (l0.length : Int)
       ·rw [if_pos c7] at H
        have c7b0 := eq_true c7
        have c7b1 : decide (x15_1 ≤ (l0.length : Int)) = true := decide_eq_true c7
        clear c7
        obtain ⟨y119, hy119⟩ : ∃ y_ : List (S45), y_ = (l0.take (x15_1 : Int).toNat) := ⟨_, rfl⟩
        replace H : (observe_Differ.l1 k1 l0 x4_1 x15_1 l0 (l0.length : Int) x15_1 y119 (y119.length : Int) 0 ((rd_T45 l0 x15_1).f0) ((rd_T45 l0 x15_1).f1.f0) ((rd_T45 l0 x15_1).f1.f1) ((rd_T45 l0 x15_1).f1.f2)) = some (r1, r2) := by first | (rw [hy119]; with_reducible exact H) | (have H2_ := (Option.bind_some _ _).symm.trans H; rw [hy119]; with_reducible exact H2_) | (have H2_ := (Option.bind_some _ _).symm.trans H; with_reducible exact H2_) | with_reducible exact H | (rw [hy119]; exact H) | exact H
        have Ny119 := Aside0.mk hy119
        clear hy119
        have H' := Aside0.mk H
        clear H
        have p117 : 0 ≤ (x15_1 : Int) := of_decide_eq_true (by first | (with_reducible assumption) | assumption)
        have q117 : x15_1 < (l0.length : Int) := of_decide_eq_true (by first | (with_reducible assumption) | assumption)
        obtain ⟨ad117, A117_1, c117_1, e117, hx117_0, hx117_1, hx117_2, hx117_3, hl117_1, hi117_1⟩ := at_T45 HR0.out x15_1 p117 q117
        cases e117
        replace hx117_0 := (HB.out.cell (World.block_lt_of_cell? w _ hx117_0)).trans hx117_0
        replace hx117_1 := (HB.out.cell (World.block_lt_of_cell? w _ hx117_1)).trans hx117_1
        replace hx117_2 := (HB.out.cell (World.block_lt_of_cell? w _ hx117_2)).trans hx117_2
        replace hx117_3 := (HB.out.cell (World.block_lt_of_cell? w _ hx117_3)).trans hx117_3
        have HR117_1 := Aside0.mk hi117_1
        have HC117_1 := Aside0.mk hl117_1
        clear hi117_1 hl117_1
        replace p117 := eq_true p117
        replace q117 := eq_true q117
        go_wp2_with (first | ((with_reducible refine gate_dst (N := 6) rfl ?_); refine box_event ?hg (N := 6) ?hd (cs := #[.string (⟨#[]⟩ : ByteArray), .slice none 0 0, .int .i64 0, .int .i64 0]) (t := 45) ?hr ?_; (case hd => rfl); (case hg => rfl); (case hr => first | (go_simp; done) | (go_simp; rfl)); intro gb118 hg w8 hbox hb; have n0_ := Aside0.mk (Kd.R_below (by (with_reducible repeat (first | apply Kd.R_alloc | apply Kd.R_drewN | apply Kd.R_drew)); exact HO_4.out) hb); have n1_ := Aside0.mk (below_step (by repeat (first | (with_reducible first | exact HB.out | apply below_alloc | apply pw_below_drewN | apply below_drew1) | exact HB.out)) hb); have n2_ := Aside0.mk (hbox); have n3_ := Aside0.mk ((by rw [hg]; exact (below_size (by repeat (first | (with_reducible first | exact HB.out | apply below_alloc | apply pw_below_drewN | apply below_drew1) | exact HB.out))) : w.heap.size ≤ gb118)); have n4_ := Aside0.mk ((by rw [hg]; exact (below_size (by repeat (first | (with_reducible first | exact HB.out | apply below_alloc | apply pw_below_drewN | apply below_drew1) | exact HB.out))) : w.heap.size ≤ gb118)); clear HO_4; clear HB; have HO_4 := n0_; have HB := n1_; have BK118 := n2_; have GW118 := n3_; have GE118 := n4_; clear n0_ n1_ n2_ n3_ n4_; clear hb hbox hg; have hcz9_0 : w8.cell? ⟨gb118, 0, none⟩ = some (.string (⟨#[]⟩ : ByteArray)) := (blk_cell BK118.out 0).trans rfl; have hcz9_1 : w8.cell? ⟨gb118, 1, none⟩ = some (.slice none 0 0) := (blk_cell BK118.out 1).trans rfl; have hcz9_2 : w8.cell? ⟨gb118, 2, none⟩ = some (.int .i64 0) := (blk_cell BK118.out 2).trans rfl; have hcz9_3 : w8.cell? ⟨gb118, 3, none⟩ = some (.int .i64 0) := (blk_cell BK118.out 3).trans rfl; have hfz9_0 := blk_frozen BK118.out 0; have hfz9_1 := blk_frozen BK118.out 1; have hfz9_2 := blk_frozen BK118.out 2; have hfz9_3 := blk_frozen BK118.out 3) | ((with_reducible refine gate_store (t := 45) (p := 6) rfl ?_); refine store_event (t := 45) (p := 6) (v := ?vo_w10) (w1 := ((((w8.setCell ⟨gb118, 0, none⟩ (.string ((rd_T45 l0 x15_1).f0))).setCell ⟨gb118, 1, none⟩ (.slice A117_1 ((rd_T45 l0 x15_1).f1.f0).length c117_1)).setCell ⟨gb118, 2, none⟩ (.int .i64 ((rd_T45 l0 x15_1).f1.f1))).setCell ⟨gb118, 3, none⟩ (.int .i64 ((rd_T45 l0 x15_1).f1.f2)))) ?hg ?ho ?hn ?hr ?_; (case ho => rfl); (case hg => rfl); (case hn => rfl); (case hr => first | (go_simp; done) | (go_simp; rfl)); intro w10 hw; have n0_ : Aside0 (Kd.R k57 57 w10 w.heap.size (fun _ => True) u4 x4_1) := ⟨(by rw [hw]; exact (by (with_reducible repeat (first | apply Kd.R_alloc | apply Kd.R_drewN | apply Kd.R_drew)); exact Kd.R_mono (Kd.R_far (p := ⟨gb118, 3, none⟩) (Kd.R_far (p := ⟨gb118, 2, none⟩) (Kd.R_far (p := ⟨gb118, 1, none⟩) (Kd.R_far (p := ⟨gb118, 0, none⟩) (Kd.R_types HO_4.out BK118.out (by decide)) (fun _ hk => hk.2) (.string ((rd_T45 l0 x15_1).f0))) (fun _ hk => hk.2) (.slice A117_1 ((rd_T45 l0 x15_1).f1.f0).length c117_1)) (fun _ hk => hk.2) (.int .i64 ((rd_T45 l0 x15_1).f1.f1))) (fun _ hk => hk.2) (.int .i64 ((rd_T45 l0 x15_1).f1.f2))) (fun _ hk => trivial)))⟩; have n1_ : Aside0 (w10.heap[gb118]? = some (.cells #[.string ((rd_T45 l0 x15_1).f0), .slice A117_1 ((rd_T45 l0 x15_1).f1.f0).length c117_1, .int .i64 ((rd_T45 l0 x15_1).f1.f1), .int .i64 ((rd_T45 l0 x15_1).f1.f2)] 45 (0, 0))) := ⟨(by rw [hw]; exact (by (with_reducible repeat (first | refine blk_drewN ?_ _ | refine blk_drew ?_ | refine blk_alloc ?_ _)); refine blk_put (cs := #[.string ((rd_T45 l0 x15_1).f0), .slice A117_1 ((rd_T45 l0 x15_1).f1.f0).length c117_1, .int .i64 ((rd_T45 l0 x15_1).f1.f1), .int .i64 0]) ?_ 3 _ rfl; (with_reducible repeat (first | refine blk_drewN ?_ _ | refine blk_drew ?_ | refine blk_alloc ?_ _)); refine blk_put (cs := #[.string ((rd_T45 l0 x15_1).f0), .slice A117_1 ((rd_T45 l0 x15_1).f1.f0).length c117_1, .int .i64 0, .int .i64 0]) ?_ 2 _ rfl; (with_reducible repeat (first | refine blk_drewN ?_ _ | refine blk_drew ?_ | refine blk_alloc ?_ _)); refine blk_put (cs := #[.string ((rd_T45 l0 x15_1).f0), .slice none 0 0, .int .i64 0, .int .i64 0]) ?_ 1 _ rfl; (with_reducible repeat (first | refine blk_drewN ?_ _ | refine blk_drew ?_ | refine blk_alloc ?_ _)); refine blk_put (cs := #[.string (⟨#[]⟩ : ByteArray), .slice none 0 0, .int .i64 0, .int .i64 0]) ?_ 0 _ rfl; (with_reducible repeat (first | refine blk_drewN ?_ _ | refine blk_drew ?_ | refine blk_alloc ?_ _)); exact BK118.out))⟩; have n2_ : Aside0 (Below w.heap.size w w10) := ⟨(by rw [hw]; exact (by repeat (first | (with_reducible first | exact HB.out | apply below_alloc | apply pw_below_drewN | apply below_drew1 | refine below_set ?_ GE118.out) | exact HB.out)))⟩; clear hw; clear HO_4; clear BK118; clear HB; have HO_4 := n0_; have BK118 := n1_; have HB := n2_; clear n0_ n1_ n2_; have q11 : (x15_1 : Int) ≤ ((l0.length : Int) : Int) := of_decide_eq_true (by first | (with_reducible assumption) | assumption); obtain ⟨i011, hi011, _, hsz11, _⟩ := info_parts info45; have hroom11 : l0.length ≤ c0 := HC0.out; have hC11 : Kd.C k45 _ (some ad117) l0.length l0 := HR0.out; have hcut11 := cut_to (P := Tryd.prog) 22 45 .i64 Tryd.underlying22 hi011 (some ad117) l0.length c0 x15_1 (of_decide_eq_true (by first | (with_reducible assumption) | assumption)) q11 hroom11; have hr11 := Kd.C_take (m := (x15_1 : Int).toNat) hC11 (by omega); have hy11 : y119.length = (x15_1 : Int).toNat := (by rw [Ny119.out, List.length_take]; omega); rw [← Ny119.out] at hr11; rw [← hy11] at hcut11; have HR122 := Aside0.mk hr11; have HC122 := Aside0.mk (show y119.length ≤ c0 from by omega); clear hr11 hC11 hroom11 hi011 hsz11; have KY11 := Aside0.mk hy11; clear hy11; replace q11 := eq_true q11))
        go_loopg [4, 24] k1 (fun kq v4 v24 w' => ∃ (x4_2 : List (S57)) (x24_2 : Int), v24 = .int .i64 x24_2 ∧ Aside0 (observe_Differ.l1 kq l0 x4_2 x15_1 l0 (l0.length : Int) x15_1 y119 (y119.length : Int) x24_2 ((rd_T45 l0 x15_1).f0) ((rd_T45 l0 x15_1).f1.f0) ((rd_T45 l0 x15_1).f1.f1) ((rd_T45 l0 x15_1).f1.f2) = some (r1, r2)) ∧ Aside0 (kq ≤ k1) ∧ Aside0 (Kd.R k57 57 w' w.heap.size (fun _ => True) v4 x4_2) ∧ Aside0 (w'.heap[gb118]? = some (.cells #[.string ((rd_T45 l0 x15_1).f0), (.slice A117_1 ((rd_T45 l0 x15_1).f1.f0).length c117_1), .int .i64 ((rd_T45 l0 x15_1).f1.f1), .int .i64 ((rd_T45 l0 x15_1).f1.f2)] 45 (0, 0))) ∧ Aside0 (Below w.heap.size w w'))
        case atStart => exact ⟨(x4_1), (0), (by first | rfl | (simp; done) | (simp [*]; done)), H', ⟨Nat.le_refl _⟩, ⟨by (with_reducible repeat (first | apply Kd.R_alloc | apply Kd.R_drewN | apply Kd.R_drew)); exact HO_4.out⟩, ⟨by (with_reducible repeat (first | refine blk_drewN ?_ _ | refine blk_drew ?_ | refine blk_alloc ?_ _)); exact BK118.out⟩, ⟨by repeat (first | (with_reducible first | exact HB.out | apply below_alloc | apply pw_below_drewN | apply below_drew1 | refine below_set ?_ GE118.out) | exact HB.out)⟩⟩
        case round =>
         clear H'
         try clear c1
         try clear p1
         try clear q1
         try clear hx1
         try clear c2
         try clear c2b0
         try clear c2b1
         try clear p2
         try clear c3
         try clear c3b0
         try clear c4
         try clear c4b0
         try clear c5
         try clear c5b0
         try clear c6
         try clear c6b0
         try clear c7
         try clear c7b0
         try clear c7b1
         try clear c11
         try clear p11
         try clear q11
         try clear hx11
         try clear hcz9_0
         try clear hcz9_1
         try clear hcz9_2
         try clear hcz9_3
         try clear hfz9_0
         try clear hfz9_1
         try clear hfz9_2
         try clear hfz9_3
         try clear hx117_0
         try clear hx117_1
         try clear hx117_2
         try clear hx117_3
         try clear p117
         try clear p2
         try clear q11
         try clear q117
         obtain ⟨x4_2, x24_2, rfl, HA, HK2, HO_4, BK118, HB⟩ := hrel
         cases gk with
         | zero => exact absurd HA.out (by simp [observe_Differ.l1])
         | succ k2 =>
          have H := HA.out
          clear HA
          simp only [observe_Differ.l1] at H
          by_cases c12 : x24_2 < (y119.length : Int)
          ·rw [if_pos c12] at H
           have c12b0 : decide (x24_2 < (y119.length : Int)) = true := decide_eq_true c12
           clear c12
           by_cases c13 : 0 ≤ x24_2
           ·rw [if_pos c13] at H
            have c13b0 : decide (0 ≤ x24_2) = true := decide_eq_true c13
            clear c13
            by_cases c14 : x24_2 < (y119.length : Int)
            ·rw [if_pos c14] at H
             have c14b0 : decide (x24_2 < (y119.length : Int)) = true := decide_eq_true c14
             clear c14
             by_cases c15 : ((rd_T45 l0 x15_1).f1.f1) = 3
             ·rw [if_pos c15] at H
              have c15b0 : (((rd_T45 l0 x15_1).f1.f1) == 3) = true := beq_iff_eq.mpr c15
              have c15b1 : (((rd_T45 l0 x15_1).f1.f1) != 3) = false := bne_eq_false_iff_eq.mpr c15
              clear c15
              have H' := Aside0.mk H
              clear H
              have p123 : 0 ≤ (x24_2 : Int) := of_decide_eq_true (by first | (with_reducible assumption) | assumption)
              have q123 : x24_2 < (y119.length : Int) := of_decide_eq_true (by first | (with_reducible assumption) | assumption)
              obtain ⟨ad123, A123_1, c123_1, e123, hx123_0, hx123_1, hx123_2, hx123_3, hl123_1, hi123_1⟩ := at_T45 HR122.out x24_2 p123 q123
              obtain rfl : ad117 = ad123 := (by injection e123)
              replace hx123_0 := (HB.out.cell (World.block_lt_of_cell? w _ hx123_0)).trans hx123_0
              replace hx123_1 := (HB.out.cell (World.block_lt_of_cell? w _ hx123_1)).trans hx123_1
              replace hx123_2 := (HB.out.cell (World.block_lt_of_cell? w _ hx123_2)).trans hx123_2
              replace hx123_3 := (HB.out.cell (World.block_lt_of_cell? w _ hx123_3)).trans hx123_3
              have HR123_1 := Aside0.mk hi123_1
              have HC123_1 := Aside0.mk hl123_1
              clear hi123_1 hl123_1
              replace p123 := eq_true p123
              replace q123 := eq_true q123
              go_wp2_with (first | ((with_reducible refine gate_dst (N := 8) rfl ?_); refine box_event ?hg (N := 8) ?hd (cs := #[.string (⟨#[]⟩ : ByteArray), .slice none 0 0, .int .i64 0, .int .i64 0]) (t := 45) ?hr ?_; (case hd => rfl); (case hg => rfl); (case hr => first | (go_simp; done) | (go_simp; rfl)); intro gb124 hg w16 hbox hb; have n0_ := Aside0.mk (Kd.R_below (by (with_reducible repeat (first | apply Kd.R_alloc | apply Kd.R_drewN | apply Kd.R_drew)); exact HO_4.out) hb); have n1_ := Aside0.mk (blk_below (g := gb118) (o := .cells #[.string ((rd_T45 l0 x15_1).f0), .slice A117_1 ((rd_T45 l0 x15_1).f1.f0).length c117_1, .int .i64 ((rd_T45 l0 x15_1).f1.f1), .int .i64 ((rd_T45 l0 x15_1).f1.f2)] 45 (0, 0)) (by (with_reducible repeat (first | refine blk_drewN ?_ _ | refine blk_drew ?_ | refine blk_alloc ?_ _)); exact BK118.out) hb); have n2_ := Aside0.mk (below_step (by repeat (first | (with_reducible first | exact HB.out | apply below_alloc | apply pw_below_drewN | apply below_drew1 | refine below_set ?_ GE118.out) | exact HB.out)) hb); have n3_ := Aside0.mk (hbox); have n4_ := Aside0.mk ((by rw [hg]; exact (below_size (by repeat (first | (with_reducible first | exact HB.out | apply below_alloc | apply pw_below_drewN | apply below_drew1 | refine below_set ?_ GE118.out) | exact HB.out))) : w.heap.size ≤ gb124)); have n5_ := Aside0.mk ((by rw [hg]; exact (below_size (by repeat (first | (with_reducible first | exact HB.out | apply below_alloc | apply pw_below_drewN | apply below_drew1 | refine below_set ?_ GE118.out) | exact HB.out))) : w.heap.size ≤ gb124)); have n6_ := Aside0.mk ((by rw [hg]; exact Nat.ne_of_lt (blk_lt (g := gb118) (o := .cells #[.string ((rd_T45 l0 x15_1).f0), .slice A117_1 ((rd_T45 l0 x15_1).f1.f0).length c117_1, .int .i64 ((rd_T45 l0 x15_1).f1.f1), .int .i64 ((rd_T45 l0 x15_1).f1.f2)] 45 (0, 0)) (by (with_reducible repeat (first | refine blk_drewN ?_ _ | refine blk_drew ?_ | refine blk_alloc ?_ _)); exact BK118.out)) : gb118 ≠ gb124)); have n7_ := Aside0.mk ((by rw [hg]; exact Nat.ne_of_gt (blk_lt (g := gb118) (o := .cells #[.string ((rd_T45 l0 x15_1).f0), .slice A117_1 ((rd_T45 l0 x15_1).f1.f0).length c117_1, .int .i64 ((rd_T45 l0 x15_1).f1.f1), .int .i64 ((rd_T45 l0 x15_1).f1.f2)] 45 (0, 0)) (by (with_reducible repeat (first | refine blk_drewN ?_ _ | refine blk_drew ?_ | refine blk_alloc ?_ _)); exact BK118.out)) : gb124 ≠ gb118)); clear HO_4; clear BK118; clear HB; have HO_4 := n0_; have BK118 := n1_; have HB := n2_; have BK124 := n3_; have GW124 := n4_; have GE124 := n5_; have NB118_124 := n6_; have NB124_118 := n7_; clear n0_ n1_ n2_ n3_ n4_ n5_ n6_ n7_; clear hb hbox hg; have hnb17 := NB124_118.out; have hnc17 := NB118_124.out; have hcz18_0 : w16.cell? ⟨gb124, 0, none⟩ = some (.string (⟨#[]⟩ : ByteArray)) := (blk_cell BK124.out 0).trans rfl; have hcz18_1 : w16.cell? ⟨gb124, 1, none⟩ = some (.slice none 0 0) := (blk_cell BK124.out 1).trans rfl; have hcz18_2 : w16.cell? ⟨gb124, 2, none⟩ = some (.int .i64 0) := (blk_cell BK124.out 2).trans rfl; have hcz18_3 : w16.cell? ⟨gb124, 3, none⟩ = some (.int .i64 0) := (blk_cell BK124.out 3).trans rfl; have hfz18_0 := blk_frozen BK124.out 0; have hfz18_1 := blk_frozen BK124.out 1; have hfz18_2 := blk_frozen BK124.out 2; have hfz18_3 := blk_frozen BK124.out 3; have hcz19_0 : w16.cell? ⟨gb118, 0, none⟩ = some (.string ((rd_T45 l0 x15_1).f0)) := (blk_cell BK118.out 0).trans rfl; have hcz19_1 : w16.cell? ⟨gb118, 1, none⟩ = some (.slice A117_1 ((rd_T45 l0 x15_1).f1.f0).length c117_1) := (blk_cell BK118.out 1).trans rfl; have hcz19_2 : w16.cell? ⟨gb118, 2, none⟩ = some (.int .i64 ((rd_T45 l0 x15_1).f1.f1)) := (blk_cell BK118.out 2).trans rfl; have hcz19_3 : w16.cell? ⟨gb118, 3, none⟩ = some (.int .i64 ((rd_T45 l0 x15_1).f1.f2)) := (blk_cell BK118.out 3).trans rfl; have hfz19_0 := blk_frozen BK118.out 0; have hfz19_1 := blk_frozen BK118.out 1; have hfz19_2 := blk_frozen BK118.out 2; have hfz19_3 := blk_frozen BK118.out 3))
              go_roundg k2
              case measure => have := HK1.out; have := HK2.out; omega
              case rel => exact ⟨(x4_2), (wrap64 (x24_2 + 1)), (by first | rfl | (simp; done) | (simp [*]; done)), H', ⟨by have := HK1.out; have := HK2.out; omega⟩, ⟨by (with_reducible repeat (first | apply Kd.R_alloc | apply Kd.R_drewN | apply Kd.R_drew)); exact Kd.R_mono (Kd.R_far (p := ⟨gb124, 3, none⟩) (Kd.R_far (p := ⟨gb124, 2, none⟩) (Kd.R_far (p := ⟨gb124, 1, none⟩) (Kd.R_far (p := ⟨gb124, 0, none⟩) (Kd.R_types HO_4.out BK124.out (by decide)) (fun _ hk => hk.2) (.string ((rd_T45 y119 x24_2).f0))) (fun _ hk => hk.2) (.slice A123_1 ((rd_T45 y119 x24_2).f1.f0).length c123_1)) (fun _ hk => hk.2) (.int .i64 ((rd_T45 y119 x24_2).f1.f1))) (fun _ hk => hk.2) (.int .i64 ((rd_T45 y119 x24_2).f1.f2))) (fun _ hk => trivial)⟩, ⟨by (with_reducible repeat (first | refine blk_drewN ?_ _ | refine blk_drew ?_ | refine blk_alloc ?_ _)); refine blk_far ?_ NB118_124.out _; (with_reducible repeat (first | refine blk_drewN ?_ _ | refine blk_drew ?_ | refine blk_alloc ?_ _)); refine blk_far ?_ NB118_124.out _; (with_reducible repeat (first | refine blk_drewN ?_ _ | refine blk_drew ?_ | refine blk_alloc ?_ _)); refine blk_far ?_ NB118_124.out _; (with_reducible repeat (first | refine blk_drewN ?_ _ | refine blk_drew ?_ | refine blk_alloc ?_ _)); refine blk_far ?_ NB118_124.out _; (with_reducible repeat (first | refine blk_drewN ?_ _ | refine blk_drew ?_ | refine blk_alloc ?_ _)); exact BK118.out⟩, ⟨by repeat (first | (with_reducible first | exact HB.out | apply below_alloc | apply pw_below_drewN | apply below_drew1 | refine below_set ?_ GE118.out | refine below_set ?_ GE124.out) | exact HB.out)⟩⟩
             ·rw [if_neg c15] at H
              have c15b0 : (((rd_T45 l0 x15_1).f1.f1) == 3) = false := beq_eq_false_iff_ne.mpr c15
              have c15b1 : (((rd_T45 l0 x15_1).f1.f1) != 3) = true := bne_iff_ne.mpr c15
              by_cases c20 : ((rd_T45 y119 x24_2).f1.f1) = 3
              ·rw [if_pos c20] at H
               have c20b0 : (((rd_T45 y119 x24_2).f1.f1) == 3) = true := beq_iff_eq.mpr c20
               have c20b1 : (((rd_T45 y119 x24_2).f1.f1) != 3) = false := bne_eq_false_iff_eq.mpr c20
               clear c20
               have H' := Aside0.mk H
               clear H
               have p123 : 0 ≤ (x24_2 : Int) := of_decide_eq_true (by first | (with_reducible assumption) | assumption)
               have q123 : x24_2 < (y119.length : Int) := of_decide_eq_true (by first | (with_reducible assumption) | assumption)
               obtain ⟨ad123, A123_1, c123_1, e123, hx123_0, hx123_1, hx123_2, hx123_3, hl123_1, hi123_1⟩ := at_T45 HR122.out x24_2 p123 q123
               obtain rfl : ad117 = ad123 := (by injection e123)
               replace hx123_0 := (HB.out.cell (World.block_lt_of_cell? w _ hx123_0)).trans hx123_0
               replace hx123_1 := (HB.out.cell (World.block_lt_of_cell? w _ hx123_1)).trans hx123_1
               replace hx123_2 := (HB.out.cell (World.block_lt_of_cell? w _ hx123_2)).trans hx123_2
               replace hx123_3 := (HB.out.cell (World.block_lt_of_cell? w _ hx123_3)).trans hx123_3
               have HR123_1 := Aside0.mk hi123_1
               have HC123_1 := Aside0.mk hl123_1
               clear hi123_1 hl123_1
               replace p123 := eq_true p123
               replace q123 := eq_true q123
               go_wp2_with (first | ((with_reducible refine gate_dst (N := 8) rfl ?_); refine box_event ?hg (N := 8) ?hd (cs := #[.string (⟨#[]⟩ : ByteArray), .slice none 0 0, .int .i64 0, .int .i64 0]) (t := 45) ?hr ?_; (case hd => rfl); (case hg => rfl); (case hr => first | (go_simp; done) | (go_simp; rfl)); intro gb124 hg w21 hbox hb; have n0_ := Aside0.mk (Kd.R_below (by (with_reducible repeat (first | apply Kd.R_alloc | apply Kd.R_drewN | apply Kd.R_drew)); exact HO_4.out) hb); have n1_ := Aside0.mk (blk_below (g := gb118) (o := .cells #[.string ((rd_T45 l0 x15_1).f0), .slice A117_1 ((rd_T45 l0 x15_1).f1.f0).length c117_1, .int .i64 ((rd_T45 l0 x15_1).f1.f1), .int .i64 ((rd_T45 l0 x15_1).f1.f2)] 45 (0, 0)) (by (with_reducible repeat (first | refine blk_drewN ?_ _ | refine blk_drew ?_ | refine blk_alloc ?_ _)); exact BK118.out) hb); have n2_ := Aside0.mk (below_step (by repeat (first | (with_reducible first | exact HB.out | apply below_alloc | apply pw_below_drewN | apply below_drew1 | refine below_set ?_ GE118.out) | exact HB.out)) hb); have n3_ := Aside0.mk (hbox); have n4_ := Aside0.mk ((by rw [hg]; exact (below_size (by repeat (first | (with_reducible first | exact HB.out | apply below_alloc | apply pw_below_drewN | apply below_drew1 | refine below_set ?_ GE118.out) | exact HB.out))) : w.heap.size ≤ gb124)); have n5_ := Aside0.mk ((by rw [hg]; exact (below_size (by repeat (first | (with_reducible first | exact HB.out | apply below_alloc | apply pw_below_drewN | apply below_drew1 | refine below_set ?_ GE118.out) | exact HB.out))) : w.heap.size ≤ gb124)); have n6_ := Aside0.mk ((by rw [hg]; exact Nat.ne_of_lt (blk_lt (g := gb118) (o := .cells #[.string ((rd_T45 l0 x15_1).f0), .slice A117_1 ((rd_T45 l0 x15_1).f1.f0).length c117_1, .int .i64 ((rd_T45 l0 x15_1).f1.f1), .int .i64 ((rd_T45 l0 x15_1).f1.f2)] 45 (0, 0)) (by (with_reducible repeat (first | refine blk_drewN ?_ _ | refine blk_drew ?_ | refine blk_alloc ?_ _)); exact BK118.out)) : gb118 ≠ gb124)); have n7_ := Aside0.mk ((by rw [hg]; exact Nat.ne_of_gt (blk_lt (g := gb118) (o := .cells #[.string ((rd_T45 l0 x15_1).f0), .slice A117_1 ((rd_T45 l0 x15_1).f1.f0).length c117_1, .int .i64 ((rd_T45 l0 x15_1).f1.f1), .int .i64 ((rd_T45 l0 x15_1).f1.f2)] 45 (0, 0)) (by (with_reducible repeat (first | refine blk_drewN ?_ _ | refine blk_drew ?_ | refine blk_alloc ?_ _)); exact BK118.out)) : gb124 ≠ gb118)); clear HO_4; clear BK118; clear HB; have HO_4 := n0_; have BK118 := n1_; have HB := n2_; have BK124 := n3_; have GW124 := n4_; have GE124 := n5_; have NB118_124 := n6_; have NB124_118 := n7_; clear n0_ n1_ n2_ n3_ n4_ n5_ n6_ n7_; clear hb hbox hg; have hnb22 := NB124_118.out; have hnc22 := NB118_124.out; have hcz23_0 : w21.cell? ⟨gb124, 0, none⟩ = some (.string (⟨#[]⟩ : ByteArray)) := (blk_cell BK124.out 0).trans rfl; have hcz23_1 : w21.cell? ⟨gb124, 1, none⟩ = some (.slice none 0 0) := (blk_cell BK124.out 1).trans rfl; have hcz23_2 : w21.cell? ⟨gb124, 2, none⟩ = some (.int .i64 0) := (blk_cell BK124.out 2).trans rfl; have hcz23_3 : w21.cell? ⟨gb124, 3, none⟩ = some (.int .i64 0) := (blk_cell BK124.out 3).trans rfl; have hfz23_0 := blk_frozen BK124.out 0; have hfz23_1 := blk_frozen BK124.out 1; have hfz23_2 := blk_frozen BK124.out 2; have hfz23_3 := blk_frozen BK124.out 3; have hcz24_0 : w21.cell? ⟨gb118, 0, none⟩ = some (.string ((rd_T45 l0 x15_1).f0)) := (blk_cell BK118.out 0).trans rfl; have hcz24_1 : w21.cell? ⟨gb118, 1, none⟩ = some (.slice A117_1 ((rd_T45 l0 x15_1).f1.f0).length c117_1) := (blk_cell BK118.out 1).trans rfl; have hcz24_2 : w21.cell? ⟨gb118, 2, none⟩ = some (.int .i64 ((rd_T45 l0 x15_1).f1.f1)) := (blk_cell BK118.out 2).trans rfl; have hcz24_3 : w21.cell? ⟨gb118, 3, none⟩ = some (.int .i64 ((rd_T45 l0 x15_1).f1.f2)) := (blk_cell BK118.out 3).trans rfl; have hfz24_0 := blk_frozen BK118.out 0; have hfz24_1 := blk_frozen BK118.out 1; have hfz24_2 := blk_frozen BK118.out 2; have hfz24_3 := blk_frozen BK118.out 3))
               go_roundg k2
               case measure => have := HK1.out; have := HK2.out; omega
               case rel => exact ⟨(x4_2), (wrap64 (x24_2 + 1)), (by first | rfl | (simp; done) | (simp [*]; done)), H', ⟨by have := HK1.out; have := HK2.out; omega⟩, ⟨by (with_reducible repeat (first | apply Kd.R_alloc | apply Kd.R_drewN | apply Kd.R_drew)); exact Kd.R_mono (Kd.R_far (p := ⟨gb124, 3, none⟩) (Kd.R_far (p := ⟨gb124, 2, none⟩) (Kd.R_far (p := ⟨gb124, 1, none⟩) (Kd.R_far (p := ⟨gb124, 0, none⟩) (Kd.R_types HO_4.out BK124.out (by decide)) (fun _ hk => hk.2) (.string ((rd_T45 y119 x24_2).f0))) (fun _ hk => hk.2) (.slice A123_1 ((rd_T45 y119 x24_2).f1.f0).length c123_1)) (fun _ hk => hk.2) (.int .i64 ((rd_T45 y119 x24_2).f1.f1))) (fun _ hk => hk.2) (.int .i64 ((rd_T45 y119 x24_2).f1.f2))) (fun _ hk => trivial)⟩, ⟨by (with_reducible repeat (first | refine blk_drewN ?_ _ | refine blk_drew ?_ | refine blk_alloc ?_ _)); refine blk_far ?_ NB118_124.out _; (with_reducible repeat (first | refine blk_drewN ?_ _ | refine blk_drew ?_ | refine blk_alloc ?_ _)); refine blk_far ?_ NB118_124.out _; (with_reducible repeat (first | refine blk_drewN ?_ _ | refine blk_drew ?_ | refine blk_alloc ?_ _)); refine blk_far ?_ NB118_124.out _; (with_reducible repeat (first | refine blk_drewN ?_ _ | refine blk_drew ?_ | refine blk_alloc ?_ _)); refine blk_far ?_ NB118_124.out _; (with_reducible repeat (first | refine blk_drewN ?_ _ | refine blk_drew ?_ | refine blk_alloc ?_ _)); exact BK118.out⟩, ⟨by repeat (first | (with_reducible first | exact HB.out | apply below_alloc | apply pw_below_drewN | apply below_drew1 | refine below_set ?_ GE118.out | refine below_set ?_ GE124.out) | exact HB.out)⟩⟩
              ·rw [if_neg c20] at H
               have c20b0 : (((rd_T45 y119 x24_2).f1.f1) == 3) = false := beq_eq_false_iff_ne.mpr c20
               have c20b1 : (((rd_T45 y119 x24_2).f1.f1) != 3) = true := bne_iff_ne.mpr c20
               replace H := Option.bind_eq_some_iff.mp H
               obtain ⟨t125, A250, H⟩ := H
               replace H : (if t125 = true then (observe_Differ.l1 k2 l0 x4_2 x15_1 l0 (l0.length : Int) x15_1 y119 (y119.length : Int) (wrap64 (x24_2 + 1)) ((rd_T45 l0 x15_1).f0) ((rd_T45 l0 x15_1).f1.f0) ((rd_T45 l0 x15_1).f1.f1) ((rd_T45 l0 x15_1).f1.f2)) else ((observe_kind.f k2 ((rd_T45 y119 x24_2).f1.f0) ((rd_T45 y119 x24_2).f1.f1) ((rd_T45 y119 x24_2).f1.f2) ((rd_T45 l0 x15_1).f1.f0) ((rd_T45 l0 x15_1).f1.f1) ((rd_T45 l0 x15_1).f1.f2)).bind fun bt127 => (if x4_2.length < 4398046511104 then (observe_Differ.l1 k2 l0 (x4_2 ++ [(⟨x24_2, x15_1, bt127.1, bt127.2⟩ : S57)]) x15_1 l0 (l0.length : Int) x15_1 y119 (y119.length : Int) (wrap64 (x24_2 + 1)) ((rd_T45 l0 x15_1).f0) ((rd_T45 l0 x15_1).f1.f0) ((rd_T45 l0 x15_1).f1.f1) ((rd_T45 l0 x15_1).f1.f2)) else (none)))) = some (r1, r2) := H
               have A25 := Aside0.mk A250
               clear A250
               by_cases c26 : t125 = true
               ·subst c26
                have H1 : (observe_Differ.l1 k2 l0 x4_2 x15_1 l0 (l0.length : Int) x15_1 y119 (y119.length : Int) (wrap64 (x24_2 + 1)) ((rd_T45 l0 x15_1).f0) ((rd_T45 l0 x15_1).f1.f0) ((rd_T45 l0 x15_1).f1.f1) ((rd_T45 l0 x15_1).f1.f2)) = some (r1, r2) := by rw [if_pos rfl] at H; exact H
                clear H
                have H := H1
                clear H1
                have H' := Aside0.mk H
                clear H
                have p123 : 0 ≤ (x24_2 : Int) := of_decide_eq_true (by first | (with_reducible assumption) | assumption)
                have q123 : x24_2 < (y119.length : Int) := of_decide_eq_true (by first | (with_reducible assumption) | assumption)
                obtain ⟨ad123, A123_1, c123_1, e123, hx123_0, hx123_1, hx123_2, hx123_3, hl123_1, hi123_1⟩ := at_T45 HR122.out x24_2 p123 q123
                obtain rfl : ad117 = ad123 := (by injection e123)
                replace hx123_0 := (HB.out.cell (World.block_lt_of_cell? w _ hx123_0)).trans hx123_0
                replace hx123_1 := (HB.out.cell (World.block_lt_of_cell? w _ hx123_1)).trans hx123_1
                replace hx123_2 := (HB.out.cell (World.block_lt_of_cell? w _ hx123_2)).trans hx123_2
                replace hx123_3 := (HB.out.cell (World.block_lt_of_cell? w _ hx123_3)).trans hx123_3
                have HR123_1 := Aside0.mk hi123_1
                have HC123_1 := Aside0.mk hl123_1
                clear hi123_1 hl123_1
                replace p123 := eq_true p123
                replace q123 := eq_true q123
                go_wp2_with (first | ((with_reducible refine gate_dst (N := 8) rfl ?_); refine box_event ?hg (N := 8) ?hd (cs := #[.string (⟨#[]⟩ : ByteArray), .slice none 0 0, .int .i64 0, .int .i64 0]) (t := 45) ?hr ?_; (case hd => rfl); (case hg => rfl); (case hr => first | (go_simp; done) | (go_simp; rfl)); intro gb124 hg w27 hbox hb; have n0_ := Aside0.mk (Kd.R_below (by (with_reducible repeat (first | apply Kd.R_alloc | apply Kd.R_drewN | apply Kd.R_drew)); exact HO_4.out) hb); have n1_ := Aside0.mk (blk_below (g := gb118) (o := .cells #[.string ((rd_T45 l0 x15_1).f0), .slice A117_1 ((rd_T45 l0 x15_1).f1.f0).length c117_1, .int .i64 ((rd_T45 l0 x15_1).f1.f1), .int .i64 ((rd_T45 l0 x15_1).f1.f2)] 45 (0, 0)) (by (with_reducible repeat (first | refine blk_drewN ?_ _ | refine blk_drew ?_ | refine blk_alloc ?_ _)); exact BK118.out) hb); have n2_ := Aside0.mk (below_step (by repeat (first | (with_reducible first | exact HB.out | apply below_alloc | apply pw_below_drewN | apply below_drew1 | refine below_set ?_ GE118.out) | exact HB.out)) hb); have n3_ := Aside0.mk (hbox); have n4_ := Aside0.mk ((by rw [hg]; exact (below_size (by repeat (first | (with_reducible first | exact HB.out | apply below_alloc | apply pw_below_drewN | apply below_drew1 | refine below_set ?_ GE118.out) | exact HB.out))) : w.heap.size ≤ gb124)); have n5_ := Aside0.mk ((by rw [hg]; exact (below_size (by repeat (first | (with_reducible first | exact HB.out | apply below_alloc | apply pw_below_drewN | apply below_drew1 | refine below_set ?_ GE118.out) | exact HB.out))) : w.heap.size ≤ gb124)); have n6_ := Aside0.mk ((by rw [hg]; exact Nat.ne_of_lt (blk_lt (g := gb118) (o := .cells #[.string ((rd_T45 l0 x15_1).f0), .slice A117_1 ((rd_T45 l0 x15_1).f1.f0).length c117_1, .int .i64 ((rd_T45 l0 x15_1).f1.f1), .int .i64 ((rd_T45 l0 x15_1).f1.f2)] 45 (0, 0)) (by (with_reducible repeat (first | refine blk_drewN ?_ _ | refine blk_drew ?_ | refine blk_alloc ?_ _)); exact BK118.out)) : gb118 ≠ gb124)); have n7_ := Aside0.mk ((by rw [hg]; exact Nat.ne_of_gt (blk_lt (g := gb118) (o := .cells #[.string ((rd_T45 l0 x15_1).f0), .slice A117_1 ((rd_T45 l0 x15_1).f1.f0).length c117_1, .int .i64 ((rd_T45 l0 x15_1).f1.f1), .int .i64 ((rd_T45 l0 x15_1).f1.f2)] 45 (0, 0)) (by (with_reducible repeat (first | refine blk_drewN ?_ _ | refine blk_drew ?_ | refine blk_alloc ?_ _)); exact BK118.out)) : gb124 ≠ gb118)); clear HO_4; clear BK118; clear HB; have HO_4 := n0_; have BK118 := n1_; have HB := n2_; have BK124 := n3_; have GW124 := n4_; have GE124 := n5_; have NB118_124 := n6_; have NB124_118 := n7_; clear n0_ n1_ n2_ n3_ n4_ n5_ n6_ n7_; clear hb hbox hg; have hnb28 := NB124_118.out; have hnc28 := NB118_124.out; have hcz29_0 : w27.cell? ⟨gb124, 0, none⟩ = some (.string (⟨#[]⟩ : ByteArray)) := (blk_cell BK124.out 0).trans rfl; have hcz29_1 : w27.cell? ⟨gb124, 1, none⟩ = some (.slice none 0 0) := (blk_cell BK124.out 1).trans rfl; have hcz29_2 : w27.cell? ⟨gb124, 2, none⟩ = some (.int .i64 0) := (blk_cell BK124.out 2).trans rfl; have hcz29_3 : w27.cell? ⟨gb124, 3, none⟩ = some (.int .i64 0) := (blk_cell BK124.out 3).trans rfl; have hfz29_0 := blk_frozen BK124.out 0; have hfz29_1 := blk_frozen BK124.out 1; have hfz29_2 := blk_frozen BK124.out 2; have hfz29_3 := blk_frozen BK124.out 3; have hcz30_0 : w27.cell? ⟨gb118, 0, none⟩ = some (.string ((rd_T45 l0 x15_1).f0)) := (blk_cell BK118.out 0).trans rfl; have hcz30_1 : w27.cell? ⟨gb118, 1, none⟩ = some (.slice A117_1 ((rd_T45 l0 x15_1).f1.f0).length c117_1) := (blk_cell BK118.out 1).trans rfl; have hcz30_2 : w27.cell? ⟨gb118, 2, none⟩ = some (.int .i64 ((rd_T45 l0 x15_1).f1.f1)) := (blk_cell BK118.out 2).trans rfl; have hcz30_3 : w27.cell? ⟨gb118, 3, none⟩ = some (.int .i64 ((rd_T45 l0 x15_1).f1.f2)) := (blk_cell BK118.out 3).trans rfl; have hfz30_0 := blk_frozen BK118.out 0; have hfz30_1 := blk_frozen BK118.out 1; have hfz30_2 := blk_frozen BK118.out 2; have hfz30_3 := blk_frozen BK118.out 3) | (go_at_call 37; (with_reducible refine (irsem_Agree.calls k2 _ _ ((rd_T45 y119 x24_2).f1.f0) ((rd_T45 y119 x24_2).f1.f1) ((rd_T45 y119 x24_2).f1.f2) _ _ ((rd_T45 l0 x15_1).f1.f0) ((rd_T45 l0 x15_1).f1.f1) ((rd_T45 l0 x15_1).f1.f2) true _ ?side1 ?side2 ?side3 ?side4 A25.out).mono ?_); (case side1 => exact Kd.C_below HR123_1.out (by repeat (first | (with_reducible first | exact HB.out | apply below_alloc | apply pw_below_drewN | apply below_drew1 | refine below_set ?_ GE118.out | refine below_set ?_ GE124.out) | exact HB.out))); (case side2 => exact HC123_1.out); (case side3 => exact Kd.C_below HR117_1.out (by repeat (first | (with_reducible first | exact HB.out | apply below_alloc | apply pw_below_drewN | apply below_drew1 | refine below_set ?_ GE118.out | refine below_set ?_ GE124.out) | exact HB.out))); (case side4 => exact HC117_1.out); rintro e w31 ⟨rfl, hb⟩; have n0_ := Aside0.mk (Kd.R_below (by (with_reducible repeat (first | apply Kd.R_alloc | apply Kd.R_drewN | apply Kd.R_drew)); exact (Kd.R_mono (Kd.R_far (p := ⟨gb124, 3, none⟩) (Kd.R_far (p := ⟨gb124, 2, none⟩) (Kd.R_far (p := ⟨gb124, 1, none⟩) (Kd.R_far (p := ⟨gb124, 0, none⟩) (Kd.R_types HO_4.out BK124.out (by decide)) (fun _ hk => hk.2) (.string ((rd_T45 y119 x24_2).f0))) (fun _ hk => hk.2) (.slice A123_1 ((rd_T45 y119 x24_2).f1.f0).length c123_1)) (fun _ hk => hk.2) (.int .i64 ((rd_T45 y119 x24_2).f1.f1))) (fun _ hk => hk.2) (.int .i64 ((rd_T45 y119 x24_2).f1.f2))) (fun _ h_ => h_.1))) hb); have n1_ := Aside0.mk (blk_below (g := gb118) (o := .cells #[.string ((rd_T45 l0 x15_1).f0), .slice A117_1 ((rd_T45 l0 x15_1).f1.f0).length c117_1, .int .i64 ((rd_T45 l0 x15_1).f1.f1), .int .i64 ((rd_T45 l0 x15_1).f1.f2)] 45 (0, 0)) (by (with_reducible repeat (first | refine blk_drewN ?_ _ | refine blk_drew ?_ | refine blk_alloc ?_ _)); refine blk_far ?_ NB118_124.out _; (with_reducible repeat (first | refine blk_drewN ?_ _ | refine blk_drew ?_ | refine blk_alloc ?_ _)); refine blk_far ?_ NB118_124.out _; (with_reducible repeat (first | refine blk_drewN ?_ _ | refine blk_drew ?_ | refine blk_alloc ?_ _)); refine blk_far ?_ NB118_124.out _; (with_reducible repeat (first | refine blk_drewN ?_ _ | refine blk_drew ?_ | refine blk_alloc ?_ _)); refine blk_far ?_ NB118_124.out _; (with_reducible repeat (first | refine blk_drewN ?_ _ | refine blk_drew ?_ | refine blk_alloc ?_ _)); exact BK118.out) hb); have n2_ := Aside0.mk (blk_below (g := gb124) (o := .cells #[.string ((rd_T45 y119 x24_2).f0), .slice A123_1 ((rd_T45 y119 x24_2).f1.f0).length c123_1, .int .i64 ((rd_T45 y119 x24_2).f1.f1), .int .i64 ((rd_T45 y119 x24_2).f1.f2)] 45 (0, 0)) (by (with_reducible repeat (first | refine blk_drewN ?_ _ | refine blk_drew ?_ | refine blk_alloc ?_ _)); refine blk_put (cs := #[.string ((rd_T45 y119 x24_2).f0), .slice A123_1 ((rd_T45 y119 x24_2).f1.f0).length c123_1, .int .i64 ((rd_T45 y119 x24_2).f1.f1), .int .i64 0]) ?_ 3 _ rfl; (with_reducible repeat (first | refine blk_drewN ?_ _ | refine blk_drew ?_ | refine blk_alloc ?_ _)); refine blk_put (cs := #[.string ((rd_T45 y119 x24_2).f0), .slice A123_1 ((rd_T45 y119 x24_2).f1.f0).length c123_1, .int .i64 0, .int .i64 0]) ?_ 2 _ rfl; (with_reducible repeat (first | refine blk_drewN ?_ _ | refine blk_drew ?_ | refine blk_alloc ?_ _)); refine blk_put (cs := #[.string ((rd_T45 y119 x24_2).f0), .slice none 0 0, .int .i64 0, .int .i64 0]) ?_ 1 _ rfl; (with_reducible repeat (first | refine blk_drewN ?_ _ | refine blk_drew ?_ | refine blk_alloc ?_ _)); refine blk_put (cs := #[.string (⟨#[]⟩ : ByteArray), .slice none 0 0, .int .i64 0, .int .i64 0]) ?_ 0 _ rfl; (with_reducible repeat (first | refine blk_drewN ?_ _ | refine blk_drew ?_ | refine blk_alloc ?_ _)); exact BK124.out) hb); have n3_ := Aside0.mk (below_step (by repeat (first | (with_reducible first | exact HB.out | apply below_alloc | apply pw_below_drewN | apply below_drew1 | refine below_set ?_ GE118.out | refine below_set ?_ GE124.out) | exact HB.out)) hb); clear HO_4; clear BK118; clear BK124; clear HB; have HO_4 := n0_; have BK118 := n1_; have BK124 := n2_; have HB := n3_; clear n0_ n1_ n2_ n3_; (try clear hb); (try clear hb2); (try clear hk); (try clear hi)))
                go_roundg k2
                case measure => have := HK1.out; have := HK2.out; omega
                case rel => exact ⟨(x4_2), (wrap64 (x24_2 + 1)), (by first | rfl | (simp; done) | (simp [*]; done)), H', ⟨by have := HK1.out; have := HK2.out; omega⟩, ⟨by (with_reducible repeat (first | apply Kd.R_alloc | apply Kd.R_drewN | apply Kd.R_drew)); exact HO_4.out⟩, ⟨by (with_reducible repeat (first | refine blk_drewN ?_ _ | refine blk_drew ?_ | refine blk_alloc ?_ _)); exact BK118.out⟩, ⟨by repeat (first | (with_reducible first | exact HB.out | apply below_alloc | apply pw_below_drewN | apply below_drew1 | refine below_set ?_ GE118.out | refine below_set ?_ GE124.out) | exact HB.out)⟩⟩
               ·replace c26 := Bool.eq_false_iff.mpr c26
                subst c26
                have H1 : ((observe_kind.f k2 ((rd_T45 y119 x24_2).f1.f0) ((rd_T45 y119 x24_2).f1.f1) ((rd_T45 y119 x24_2).f1.f2) ((rd_T45 l0 x15_1).f1.f0) ((rd_T45 l0 x15_1).f1.f1) ((rd_T45 l0 x15_1).f1.f2)).bind fun bt127 => (if x4_2.length < 4398046511104 then (observe_Differ.l1 k2 l0 (x4_2 ++ [(⟨x24_2, x15_1, bt127.1, bt127.2⟩ : S57)]) x15_1 l0 (l0.length : Int) x15_1 y119 (y119.length : Int) (wrap64 (x24_2 + 1)) ((rd_T45 l0 x15_1).f0) ((rd_T45 l0 x15_1).f1.f0) ((rd_T45 l0 x15_1).f1.f1) ((rd_T45 l0 x15_1).f1.f2)) else (none))) = some (r1, r2) := by rw [if_neg (show ¬ (false = true) by decide)] at H; exact H
                clear H
                have H := H1
                clear H1
                replace H := Option.bind_eq_some_iff.mp H
                obtain ⟨⟨t127, t128⟩, A320, H⟩ := H
                replace H : (if x4_2.length < 4398046511104 then (observe_Differ.l1 k2 l0 (x4_2 ++ [(⟨x24_2, x15_1, t127, t128⟩ : S57)]) x15_1 l0 (l0.length : Int) x15_1 y119 (y119.length : Int) (wrap64 (x24_2 + 1)) ((rd_T45 l0 x15_1).f0) ((rd_T45 l0 x15_1).f1.f0) ((rd_T45 l0 x15_1).f1.f1) ((rd_T45 l0 x15_1).f1.f2)) else (none)) = some (r1, r2) := H
                have A32 := Aside0.mk A320
                clear A320
                by_cases c33 : x4_2.length < 4398046511104
                ·rw [if_pos c33] at H
                 have LMc33 := Aside0.mk c33
                 clear c33
                 obtain ⟨y129, hy129⟩ : ∃ y_ : List (S57), y_ = (x4_2 ++ [(⟨x24_2, x15_1, t127, t128⟩ : S57)]) := ⟨_, rfl⟩
                 replace H : (observe_Differ.l1 k2 l0 y129 x15_1 l0 (l0.length : Int) x15_1 y119 (y119.length : Int) (wrap64 (x24_2 + 1)) ((rd_T45 l0 x15_1).f0) ((rd_T45 l0 x15_1).f1.f0) ((rd_T45 l0 x15_1).f1.f1) ((rd_T45 l0 x15_1).f1.f2)) = some (r1, r2) := by first | (rw [hy129]; with_reducible exact H) | (have H2_ := (Option.bind_some _ _).symm.trans H; rw [hy129]; with_reducible exact H2_) | (have H2_ := (Option.bind_some _ _).symm.trans H; with_reducible exact H2_) | with_reducible exact H | (rw [hy129]; exact H) | exact H
                 have Ny129 := Aside0.mk hy129
                 clear hy129
                 have H' := Aside0.mk H
                 clear H
                 have p123 : 0 ≤ (x24_2 : Int) := of_decide_eq_true (by first | (with_reducible assumption) | assumption)
                 have q123 : x24_2 < (y119.length : Int) := of_decide_eq_true (by first | (with_reducible assumption) | assumption)
                 obtain ⟨ad123, A123_1, c123_1, e123, hx123_0, hx123_1, hx123_2, hx123_3, hl123_1, hi123_1⟩ := at_T45 HR122.out x24_2 p123 q123
                 obtain rfl : ad117 = ad123 := (by injection e123)
                 replace hx123_0 := (HB.out.cell (World.block_lt_of_cell? w _ hx123_0)).trans hx123_0
                 replace hx123_1 := (HB.out.cell (World.block_lt_of_cell? w _ hx123_1)).trans hx123_1
                 replace hx123_2 := (HB.out.cell (World.block_lt_of_cell? w _ hx123_2)).trans hx123_2
                 replace hx123_3 := (HB.out.cell (World.block_lt_of_cell? w _ hx123_3)).trans hx123_3
                 have HR123_1 := Aside0.mk hi123_1
                 have HC123_1 := Aside0.mk hl123_1
                 clear hi123_1 hl123_1
                 replace p123 := eq_true p123
                 replace q123 := eq_true q123
                 go_wp2_with (first | ((with_reducible refine gate_dst (N := 8) rfl ?_); refine box_event ?hg (N := 8) ?hd (cs := #[.string (⟨#[]⟩ : ByteArray), .slice none 0 0, .int .i64 0, .int .i64 0]) (t := 45) ?hr ?_; (case hd => rfl); (case hg => rfl); (case hr => first | (go_simp; done) | (go_simp; rfl)); intro gb124 hg w34 hbox hb; have n0_ := Aside0.mk (Kd.R_below (by (with_reducible repeat (first | apply Kd.R_alloc | apply Kd.R_drewN | apply Kd.R_drew)); exact HO_4.out) hb); have n1_ := Aside0.mk (blk_below (g := gb118) (o := .cells #[.string ((rd_T45 l0 x15_1).f0), .slice A117_1 ((rd_T45 l0 x15_1).f1.f0).length c117_1, .int .i64 ((rd_T45 l0 x15_1).f1.f1), .int .i64 ((rd_T45 l0 x15_1).f1.f2)] 45 (0, 0)) (by (with_reducible repeat (first | refine blk_drewN ?_ _ | refine blk_drew ?_ | refine blk_alloc ?_ _)); exact BK118.out) hb); have n2_ := Aside0.mk (below_step (by repeat (first | (with_reducible first | exact HB.out | apply below_alloc | apply pw_below_drewN | apply below_drew1 | refine below_set ?_ GE118.out) | exact HB.out)) hb); have n3_ := Aside0.mk (hbox); have n4_ := Aside0.mk ((by rw [hg]; exact (below_size (by repeat (first | (with_reducible first | exact HB.out | apply below_alloc | apply pw_below_drewN | apply below_drew1 | refine below_set ?_ GE118.out) | exact HB.out))) : w.heap.size ≤ gb124)); have n5_ := Aside0.mk ((by rw [hg]; exact (below_size (by repeat (first | (with_reducible first | exact HB.out | apply below_alloc | apply pw_below_drewN | apply below_drew1 | refine below_set ?_ GE118.out) | exact HB.out))) : w.heap.size ≤ gb124)); have n6_ := Aside0.mk ((by rw [hg]; exact Nat.ne_of_lt (blk_lt (g := gb118) (o := .cells #[.string ((rd_T45 l0 x15_1).f0), .slice A117_1 ((rd_T45 l0 x15_1).f1.f0).length c117_1, .int .i64 ((rd_T45 l0 x15_1).f1.f1), .int .i64 ((rd_T45 l0 x15_1).f1.f2)] 45 (0, 0)) (by (with_reducible repeat (first | refine blk_drewN ?_ _ | refine blk_drew ?_ | refine blk_alloc ?_ _)); exact BK118.out)) : gb118 ≠ gb124)); have n7_ := Aside0.mk ((by rw [hg]; exact Nat.ne_of_gt (blk_lt (g := gb118) (o := .cells #[.string ((rd_T45 l0 x15_1).f0), .slice A117_1 ((rd_T45 l0 x15_1).f1.f0).length c117_1, .int .i64 ((rd_T45 l0 x15_1).f1.f1), .int .i64 ((rd_T45 l0 x15_1).f1.f2)] 45 (0, 0)) (by (with_reducible repeat (first | refine blk_drewN ?_ _ | refine blk_drew ?_ | refine blk_alloc ?_ _)); exact BK118.out)) : gb124 ≠ gb118)); clear HO_4; clear BK118; clear HB; have HO_4 := n0_; have BK118 := n1_; have HB := n2_; have BK124 := n3_; have GW124 := n4_; have GE124 := n5_; have NB118_124 := n6_; have NB124_118 := n7_; clear n0_ n1_ n2_ n3_ n4_ n5_ n6_ n7_; clear hb hbox hg; have hnb35 := NB124_118.out; have hnc35 := NB118_124.out; have hcz36_0 : w34.cell? ⟨gb124, 0, none⟩ = some (.string (⟨#[]⟩ : ByteArray)) := (blk_cell BK124.out 0).trans rfl; have hcz36_1 : w34.cell? ⟨gb124, 1, none⟩ = some (.slice none 0 0) := (blk_cell BK124.out 1).trans rfl; have hcz36_2 : w34.cell? ⟨gb124, 2, none⟩ = some (.int .i64 0) := (blk_cell BK124.out 2).trans rfl; have hcz36_3 : w34.cell? ⟨gb124, 3, none⟩ = some (.int .i64 0) := (blk_cell BK124.out 3).trans rfl; have hfz36_0 := blk_frozen BK124.out 0; have hfz36_1 := blk_frozen BK124.out 1; have hfz36_2 := blk_frozen BK124.out 2; have hfz36_3 := blk_frozen BK124.out 3; have hcz37_0 : w34.cell? ⟨gb118, 0, none⟩ = some (.string ((rd_T45 l0 x15_1).f0)) := (blk_cell BK118.out 0).trans rfl; have hcz37_1 : w34.cell? ⟨gb118, 1, none⟩ = some (.slice A117_1 ((rd_T45 l0 x15_1).f1.f0).length c117_1) := (blk_cell BK118.out 1).trans rfl; have hcz37_2 : w34.cell? ⟨gb118, 2, none⟩ = some (.int .i64 ((rd_T45 l0 x15_1).f1.f1)) := (blk_cell BK118.out 2).trans rfl; have hcz37_3 : w34.cell? ⟨gb118, 3, none⟩ = some (.int .i64 ((rd_T45 l0 x15_1).f1.f2)) := (blk_cell BK118.out 3).trans rfl; have hfz37_0 := blk_frozen BK118.out 0; have hfz37_1 := blk_frozen BK118.out 1; have hfz37_2 := blk_frozen BK118.out 2; have hfz37_3 := blk_frozen BK118.out 3) | (go_at_call 37; (with_reducible refine (irsem_Agree.calls k2 _ _ ((rd_T45 y119 x24_2).f1.f0) ((rd_T45 y119 x24_2).f1.f1) ((rd_T45 y119 x24_2).f1.f2) _ _ ((rd_T45 l0 x15_1).f1.f0) ((rd_T45 l0 x15_1).f1.f1) ((rd_T45 l0 x15_1).f1.f2) false _ ?side1 ?side2 ?side3 ?side4 A25.out).mono ?_); (case side1 => exact Kd.C_below HR123_1.out (by repeat (first | (with_reducible first | exact HB.out | apply below_alloc | apply pw_below_drewN | apply below_drew1 | refine below_set ?_ GE118.out | refine below_set ?_ GE124.out) | exact HB.out))); (case side2 => exact HC123_1.out); (case side3 => exact Kd.C_below HR117_1.out (by repeat (first | (with_reducible first | exact HB.out | apply below_alloc | apply pw_below_drewN | apply below_drew1 | refine below_set ?_ GE118.out | refine below_set ?_ GE124.out) | exact HB.out))); (case side4 => exact HC117_1.out); rintro e w38 ⟨rfl, hb⟩; have n0_ := Aside0.mk (Kd.R_below (by (with_reducible repeat (first | apply Kd.R_alloc | apply Kd.R_drewN | apply Kd.R_drew)); exact (Kd.R_mono (Kd.R_far (p := ⟨gb124, 3, none⟩) (Kd.R_far (p := ⟨gb124, 2, none⟩) (Kd.R_far (p := ⟨gb124, 1, none⟩) (Kd.R_far (p := ⟨gb124, 0, none⟩) (Kd.R_types HO_4.out BK124.out (by decide)) (fun _ hk => hk.2) (.string ((rd_T45 y119 x24_2).f0))) (fun _ hk => hk.2) (.slice A123_1 ((rd_T45 y119 x24_2).f1.f0).length c123_1)) (fun _ hk => hk.2) (.int .i64 ((rd_T45 y119 x24_2).f1.f1))) (fun _ hk => hk.2) (.int .i64 ((rd_T45 y119 x24_2).f1.f2))) (fun _ h_ => h_.1))) hb); have n1_ := Aside0.mk (blk_below (g := gb118) (o := .cells #[.string ((rd_T45 l0 x15_1).f0), .slice A117_1 ((rd_T45 l0 x15_1).f1.f0).length c117_1, .int .i64 ((rd_T45 l0 x15_1).f1.f1), .int .i64 ((rd_T45 l0 x15_1).f1.f2)] 45 (0, 0)) (by (with_reducible repeat (first | refine blk_drewN ?_ _ | refine blk_drew ?_ | refine blk_alloc ?_ _)); refine blk_far ?_ NB118_124.out _; (with_reducible repeat (first | refine blk_drewN ?_ _ | refine blk_drew ?_ | refine blk_alloc ?_ _)); refine blk_far ?_ NB118_124.out _; (with_reducible repeat (first | refine blk_drewN ?_ _ | refine blk_drew ?_ | refine blk_alloc ?_ _)); refine blk_far ?_ NB118_124.out _; (with_reducible repeat (first | refine blk_drewN ?_ _ | refine blk_drew ?_ | refine blk_alloc ?_ _)); refine blk_far ?_ NB118_124.out _; (with_reducible repeat (first | refine blk_drewN ?_ _ | refine blk_drew ?_ | refine blk_alloc ?_ _)); exact BK118.out) hb); have n2_ := Aside0.mk (blk_below (g := gb124) (o := .cells #[.string ((rd_T45 y119 x24_2).f0), .slice A123_1 ((rd_T45 y119 x24_2).f1.f0).length c123_1, .int .i64 ((rd_T45 y119 x24_2).f1.f1), .int .i64 ((rd_T45 y119 x24_2).f1.f2)] 45 (0, 0)) (by (with_reducible repeat (first | refine blk_drewN ?_ _ | refine blk_drew ?_ | refine blk_alloc ?_ _)); refine blk_put (cs := #[.string ((rd_T45 y119 x24_2).f0), .slice A123_1 ((rd_T45 y119 x24_2).f1.f0).length c123_1, .int .i64 ((rd_T45 y119 x24_2).f1.f1), .int .i64 0]) ?_ 3 _ rfl; (with_reducible repeat (first | refine blk_drewN ?_ _ | refine blk_drew ?_ | refine blk_alloc ?_ _)); refine blk_put (cs := #[.string ((rd_T45 y119 x24_2).f0), .slice A123_1 ((rd_T45 y119 x24_2).f1.f0).length c123_1, .int .i64 0, .int .i64 0]) ?_ 2 _ rfl; (with_reducible repeat (first | refine blk_drewN ?_ _ | refine blk_drew ?_ | refine blk_alloc ?_ _)); refine blk_put (cs := #[.string ((rd_T45 y119 x24_2).f0), .slice none 0 0, .int .i64 0, .int .i64 0]) ?_ 1 _ rfl; (with_reducible repeat (first | refine blk_drewN ?_ _ | refine blk_drew ?_ | refine blk_alloc ?_ _)); refine blk_put (cs := #[.string (⟨#[]⟩ : ByteArray), .slice none 0 0, .int .i64 0, .int .i64 0]) ?_ 0 _ rfl; (with_reducible repeat (first | refine blk_drewN ?_ _ | refine blk_drew ?_ | refine blk_alloc ?_ _)); exact BK124.out) hb); have n3_ := Aside0.mk (below_step (by repeat (first | (with_reducible first | exact HB.out | apply below_alloc | apply pw_below_drewN | apply below_drew1 | refine below_set ?_ GE118.out | refine below_set ?_ GE124.out) | exact HB.out)) hb); clear HO_4; clear BK118; clear BK124; clear HB; have HO_4 := n0_; have BK118 := n1_; have BK124 := n2_; have HB := n3_; clear n0_ n1_ n2_ n3_; (try clear hb); (try clear hb2); (try clear hk); (try clear hi)) | ((with_reducible refine gate_dst (N := 9) rfl ?_); refine box_event ?hg (N := 9) ?hd (cs := #[.int .i64 0, .int .i64 0, .int .i64 0, .int .i64 0]) (t := 57) ?hr ?_; (case hd => rfl); (case hg => rfl); (case hr => first | (go_simp; done) | (go_simp; rfl)); intro gb126 hg w39 hbox hb; have n0_ := Aside0.mk (Kd.R_below (Kd.R_elderB (by (with_reducible repeat (first | apply Kd.R_alloc | apply Kd.R_drewN | apply Kd.R_drew)); exact HO_4.out) gb126 (Nat.le_of_eq hg.symm)) hb); have n1_ := Aside0.mk (blk_below (g := gb118) (o := .cells #[.string ((rd_T45 l0 x15_1).f0), .slice A117_1 ((rd_T45 l0 x15_1).f1.f0).length c117_1, .int .i64 ((rd_T45 l0 x15_1).f1.f1), .int .i64 ((rd_T45 l0 x15_1).f1.f2)] 45 (0, 0)) (by (with_reducible repeat (first | refine blk_drewN ?_ _ | refine blk_drew ?_ | refine blk_alloc ?_ _)); exact BK118.out) hb); have n2_ := Aside0.mk (blk_below (g := gb124) (o := .cells #[.string ((rd_T45 y119 x24_2).f0), .slice A123_1 ((rd_T45 y119 x24_2).f1.f0).length c123_1, .int .i64 ((rd_T45 y119 x24_2).f1.f1), .int .i64 ((rd_T45 y119 x24_2).f1.f2)] 45 (0, 0)) (by (with_reducible repeat (first | refine blk_drewN ?_ _ | refine blk_drew ?_ | refine blk_alloc ?_ _)); exact BK124.out) hb); have n3_ := Aside0.mk (below_step (by repeat (first | (with_reducible first | exact HB.out | apply below_alloc | apply pw_below_drewN | apply below_drew1 | refine below_set ?_ GE118.out | refine below_set ?_ GE124.out) | exact HB.out)) hb); have n4_ := Aside0.mk (hbox); have n5_ := Aside0.mk ((by rw [hg]; exact (below_size (by repeat (first | (with_reducible first | exact HB.out | apply below_alloc | apply pw_below_drewN | apply below_drew1 | refine below_set ?_ GE118.out | refine below_set ?_ GE124.out) | exact HB.out))) : w.heap.size ≤ gb126)); have n6_ := Aside0.mk ((by rw [hg]; exact (below_size (by repeat (first | (with_reducible first | exact HB.out | apply below_alloc | apply pw_below_drewN | apply below_drew1 | refine below_set ?_ GE118.out | refine below_set ?_ GE124.out) | exact HB.out))) : w.heap.size ≤ gb126)); have n7_ := Aside0.mk ((by rw [hg]; exact Nat.ne_of_lt (blk_lt (g := gb118) (o := .cells #[.string ((rd_T45 l0 x15_1).f0), .slice A117_1 ((rd_T45 l0 x15_1).f1.f0).length c117_1, .int .i64 ((rd_T45 l0 x15_1).f1.f1), .int .i64 ((rd_T45 l0 x15_1).f1.f2)] 45 (0, 0)) (by (with_reducible repeat (first | refine blk_drewN ?_ _ | refine blk_drew ?_ | refine blk_alloc ?_ _)); exact BK118.out)) : gb118 ≠ gb126)); have n8_ := Aside0.mk ((by rw [hg]; exact Nat.ne_of_gt (blk_lt (g := gb118) (o := .cells #[.string ((rd_T45 l0 x15_1).f0), .slice A117_1 ((rd_T45 l0 x15_1).f1.f0).length c117_1, .int .i64 ((rd_T45 l0 x15_1).f1.f1), .int .i64 ((rd_T45 l0 x15_1).f1.f2)] 45 (0, 0)) (by (with_reducible repeat (first | refine blk_drewN ?_ _ | refine blk_drew ?_ | refine blk_alloc ?_ _)); exact BK118.out)) : gb126 ≠ gb118)); have n9_ := Aside0.mk ((by rw [hg]; exact Nat.ne_of_lt (blk_lt (g := gb124) (o := .cells #[.string ((rd_T45 y119 x24_2).f0), .slice A123_1 ((rd_T45 y119 x24_2).f1.f0).length c123_1, .int .i64 ((rd_T45 y119 x24_2).f1.f1), .int .i64 ((rd_T45 y119 x24_2).f1.f2)] 45 (0, 0)) (by (with_reducible repeat (first | refine blk_drewN ?_ _ | refine blk_drew ?_ | refine blk_alloc ?_ _)); exact BK124.out)) : gb124 ≠ gb126)); have n10_ := Aside0.mk ((by rw [hg]; exact Nat.ne_of_gt (blk_lt (g := gb124) (o := .cells #[.string ((rd_T45 y119 x24_2).f0), .slice A123_1 ((rd_T45 y119 x24_2).f1.f0).length c123_1, .int .i64 ((rd_T45 y119 x24_2).f1.f1), .int .i64 ((rd_T45 y119 x24_2).f1.f2)] 45 (0, 0)) (by (with_reducible repeat (first | refine blk_drewN ?_ _ | refine blk_drew ?_ | refine blk_alloc ?_ _)); exact BK124.out)) : gb126 ≠ gb124)); clear HO_4; clear BK118; clear BK124; clear HB; have HO_4 := n0_; have BK118 := n1_; have BK124 := n2_; have HB := n3_; have BK126 := n4_; have GW126 := n5_; have GE126 := n6_; have NB118_126 := n7_; have NB126_118 := n8_; have NB124_126 := n9_; have NB126_124 := n10_; clear n0_ n1_ n2_ n3_ n4_ n5_ n6_ n7_ n8_ n9_ n10_; clear hb hbox hg; have hnb40 := NB126_118.out; have hnc40 := NB118_126.out; have hnb41 := NB126_124.out; have hnc41 := NB124_126.out; have hcz42_0 : w39.cell? ⟨gb126, 0, none⟩ = some (.int .i64 0) := (blk_cell BK126.out 0).trans rfl; have hcz42_1 : w39.cell? ⟨gb126, 1, none⟩ = some (.int .i64 0) := (blk_cell BK126.out 1).trans rfl; have hcz42_2 : w39.cell? ⟨gb126, 2, none⟩ = some (.int .i64 0) := (blk_cell BK126.out 2).trans rfl; have hcz42_3 : w39.cell? ⟨gb126, 3, none⟩ = some (.int .i64 0) := (blk_cell BK126.out 3).trans rfl; have hfz42_0 := blk_frozen BK126.out 0; have hfz42_1 := blk_frozen BK126.out 1; have hfz42_2 := blk_frozen BK126.out 2; have hfz42_3 := blk_frozen BK126.out 3; have hcz43_0 : w39.cell? ⟨gb124, 0, none⟩ = some (.string ((rd_T45 y119 x24_2).f0)) := (blk_cell BK124.out 0).trans rfl; have hcz43_1 : w39.cell? ⟨gb124, 1, none⟩ = some (.slice A123_1 ((rd_T45 y119 x24_2).f1.f0).length c123_1) := (blk_cell BK124.out 1).trans rfl; have hcz43_2 : w39.cell? ⟨gb124, 2, none⟩ = some (.int .i64 ((rd_T45 y119 x24_2).f1.f1)) := (blk_cell BK124.out 2).trans rfl; have hcz43_3 : w39.cell? ⟨gb124, 3, none⟩ = some (.int .i64 ((rd_T45 y119 x24_2).f1.f2)) := (blk_cell BK124.out 3).trans rfl; have hfz43_0 := blk_frozen BK124.out 0; have hfz43_1 := blk_frozen BK124.out 1; have hfz43_2 := blk_frozen BK124.out 2; have hfz43_3 := blk_frozen BK124.out 3; have hcz44_0 : w39.cell? ⟨gb118, 0, none⟩ = some (.string ((rd_T45 l0 x15_1).f0)) := (blk_cell BK118.out 0).trans rfl; have hcz44_1 : w39.cell? ⟨gb118, 1, none⟩ = some (.slice A117_1 ((rd_T45 l0 x15_1).f1.f0).length c117_1) := (blk_cell BK118.out 1).trans rfl; have hcz44_2 : w39.cell? ⟨gb118, 2, none⟩ = some (.int .i64 ((rd_T45 l0 x15_1).f1.f1)) := (blk_cell BK118.out 2).trans rfl; have hcz44_3 : w39.cell? ⟨gb118, 3, none⟩ = some (.int .i64 ((rd_T45 l0 x15_1).f1.f2)) := (blk_cell BK118.out 3).trans rfl; have hfz44_0 := blk_frozen BK118.out 0; have hfz44_1 := blk_frozen BK118.out 1; have hfz44_2 := blk_frozen BK118.out 2; have hfz44_3 := blk_frozen BK118.out 3) | ((with_reducible refine gate_callee (f := 38) rfl ?_); refine goesL_ (some 55) rfl rfl Tryd.func38 (by kernel_rfl) rfl #[.agg #[.slice A123_1 ((rd_T45 y119 x24_2).f1.f0).length c123_1, .int .i64 ((rd_T45 y119 x24_2).f1.f1), .int .i64 ((rd_T45 y119 x24_2).f1.f2)], .agg #[.slice A117_1 ((rd_T45 l0 x15_1).f1.f0).length c117_1, .int .i64 ((rd_T45 l0 x15_1).f1.f1), .int .i64 ((rd_T45 l0 x15_1).f1.f2)]] rfl (by (try simp only [List.map_toArray, List.map_cons, List.map_nil]); first | done | rfl | (simp only [List.length_drop, List.length_take]; rfl)) ?_; (with_reducible refine (observe_kind.calls k2 _ _ ((rd_T45 y119 x24_2).f1.f0) ((rd_T45 y119 x24_2).f1.f1) ((rd_T45 y119 x24_2).f1.f2) _ _ ((rd_T45 l0 x15_1).f1.f0) ((rd_T45 l0 x15_1).f1.f1) ((rd_T45 l0 x15_1).f1.f2) t127 t128 _ ?side1 ?side2 ?side3 ?side4 A32.out).mono ?_); (case side1 => exact Kd.C_below HR123_1.out (by repeat (first | (with_reducible first | exact HB.out | apply below_alloc | apply pw_below_drewN | apply below_drew1 | refine below_set ?_ GE118.out | refine below_set ?_ GE124.out | refine below_set ?_ GE126.out) | exact HB.out))); (case side2 => exact HC123_1.out); (case side3 => exact Kd.C_below HR117_1.out (by repeat (first | (with_reducible first | exact HB.out | apply below_alloc | apply pw_below_drewN | apply below_drew1 | refine below_set ?_ GE118.out | refine below_set ?_ GE124.out | refine below_set ?_ GE126.out) | exact HB.out))); (case side4 => exact HC117_1.out); rintro e w45 ⟨rfl, hb⟩; refine ⟨_, rfl, ?_⟩; have n0_ := Aside0.mk (Kd.R_below (by (with_reducible repeat (first | apply Kd.R_alloc | apply Kd.R_drewN | apply Kd.R_drew)); exact (Kd.R_mono (Kd.R_far (p := ⟨gb126, 3, none⟩) (Kd.R_far (p := ⟨gb126, 2, none⟩) (Kd.R_far (p := ⟨gb126, 1, none⟩) (Kd.R_far (p := ⟨gb126, 0, none⟩) (Kd.R_mono HO_4.out (fun k_ hk => (⟨hk, hk.2⟩ : _ ∧ k_ ≠ gb126))) (fun _ hk => hk.2) (.int .i64 x24_2)) (fun _ hk => hk.2) (.int .i64 x15_1)) (fun _ hk => hk.2) (.int .i64 0)) (fun _ hk => hk.2) (.int .i64 0)) (fun _ h_ => h_.1))) hb); have n1_ := Aside0.mk (blk_below (g := gb118) (o := .cells #[.string ((rd_T45 l0 x15_1).f0), .slice A117_1 ((rd_T45 l0 x15_1).f1.f0).length c117_1, .int .i64 ((rd_T45 l0 x15_1).f1.f1), .int .i64 ((rd_T45 l0 x15_1).f1.f2)] 45 (0, 0)) (by (with_reducible repeat (first | refine blk_drewN ?_ _ | refine blk_drew ?_ | refine blk_alloc ?_ _)); refine blk_far ?_ NB118_126.out _; (with_reducible repeat (first | refine blk_drewN ?_ _ | refine blk_drew ?_ | refine blk_alloc ?_ _)); refine blk_far ?_ NB118_126.out _; (with_reducible repeat (first | refine blk_drewN ?_ _ | refine blk_drew ?_ | refine blk_alloc ?_ _)); refine blk_far ?_ NB118_126.out _; (with_reducible repeat (first | refine blk_drewN ?_ _ | refine blk_drew ?_ | refine blk_alloc ?_ _)); refine blk_far ?_ NB118_126.out _; (with_reducible repeat (first | refine blk_drewN ?_ _ | refine blk_drew ?_ | refine blk_alloc ?_ _)); exact BK118.out) hb); have n2_ := Aside0.mk (blk_below (g := gb124) (o := .cells #[.string ((rd_T45 y119 x24_2).f0), .slice A123_1 ((rd_T45 y119 x24_2).f1.f0).length c123_1, .int .i64 ((rd_T45 y119 x24_2).f1.f1), .int .i64 ((rd_T45 y119 x24_2).f1.f2)] 45 (0, 0)) (by (with_reducible repeat (first | refine blk_drewN ?_ _ | refine blk_drew ?_ | refine blk_alloc ?_ _)); refine blk_far ?_ NB124_126.out _; (with_reducible repeat (first | refine blk_drewN ?_ _ | refine blk_drew ?_ | refine blk_alloc ?_ _)); refine blk_far ?_ NB124_126.out _; (with_reducible repeat (first | refine blk_drewN ?_ _ | refine blk_drew ?_ | refine blk_alloc ?_ _)); refine blk_far ?_ NB124_126.out _; (with_reducible repeat (first | refine blk_drewN ?_ _ | refine blk_drew ?_ | refine blk_alloc ?_ _)); refine blk_far ?_ NB124_126.out _; (with_reducible repeat (first | refine blk_drewN ?_ _ | refine blk_drew ?_ | refine blk_alloc ?_ _)); exact BK124.out) hb); have n3_ := Aside0.mk (blk_below (g := gb126) (o := .cells #[.int .i64 x24_2, .int .i64 x15_1, .int .i64 0, .int .i64 0] 57 (0, 0)) (by (with_reducible repeat (first | refine blk_drewN ?_ _ | refine blk_drew ?_ | refine blk_alloc ?_ _)); refine blk_put (cs := #[.int .i64 x24_2, .int .i64 x15_1, .int .i64 0, .int .i64 0]) ?_ 3 _ rfl; (with_reducible repeat (first | refine blk_drewN ?_ _ | refine blk_drew ?_ | refine blk_alloc ?_ _)); refine blk_put (cs := #[.int .i64 x24_2, .int .i64 x15_1, .int .i64 0, .int .i64 0]) ?_ 2 _ rfl; (with_reducible repeat (first | refine blk_drewN ?_ _ | refine blk_drew ?_ | refine blk_alloc ?_ _)); refine blk_put (cs := #[.int .i64 x24_2, .int .i64 0, .int .i64 0, .int .i64 0]) ?_ 1 _ rfl; (with_reducible repeat (first | refine blk_drewN ?_ _ | refine blk_drew ?_ | refine blk_alloc ?_ _)); refine blk_put (cs := #[.int .i64 0, .int .i64 0, .int .i64 0, .int .i64 0]) ?_ 0 _ rfl; (with_reducible repeat (first | refine blk_drewN ?_ _ | refine blk_drew ?_ | refine blk_alloc ?_ _)); exact BK126.out) hb); have n4_ := Aside0.mk (below_step (by repeat (first | (with_reducible first | exact HB.out | apply below_alloc | apply pw_below_drewN | apply below_drew1 | refine below_set ?_ GE118.out | refine below_set ?_ GE124.out | refine below_set ?_ GE126.out) | exact HB.out)) hb); clear HO_4; clear BK118; clear BK124; clear BK126; clear HB; have HO_4 := n0_; have BK118 := n1_; have BK124 := n2_; have BK126 := n3_; have HB := n4_; clear n0_ n1_ n2_ n3_ n4_; (try clear hb); (try clear hb2); (try clear hk); (try clear hi); have hcz46_0 : w45.cell? ⟨gb126, 0, none⟩ = some (.int .i64 x24_2) := (blk_cell BK126.out 0).trans rfl; have hcz46_1 : w45.cell? ⟨gb126, 1, none⟩ = some (.int .i64 x15_1) := (blk_cell BK126.out 1).trans rfl; have hcz46_2 : w45.cell? ⟨gb126, 2, none⟩ = some (.int .i64 0) := (blk_cell BK126.out 2).trans rfl; have hcz46_3 : w45.cell? ⟨gb126, 3, none⟩ = some (.int .i64 0) := (blk_cell BK126.out 3).trans rfl; have hfz46_0 := blk_frozen BK126.out 0; have hfz46_1 := blk_frozen BK126.out 1; have hfz46_2 := blk_frozen BK126.out 2; have hfz46_3 := blk_frozen BK126.out 3) | ((with_reducible refine gate_builtin (b := .append) (xs := #[.tmp 60, .tmp 62]) rfl ?_); at_builtin; refine Kd.R_append k57 (w0 := w) w.heap.size rfl (.tmp 60) (.tmp 62) 47 57 (.agg #[(.int .i64 0), (.int .i64 0), (.int .i64 0), (.int .i64 0)]) 32 rfl Tryd.underlying47 info57 rfl (by decide) (by omega) u4 x4_2 (⟨x24_2, x15_1, t127, t128⟩ : S57) [.int .i64 x24_2, .int .i64 x15_1, .int .i64 t127, .int .i64 t128] (fun k_ => k_ ≠ gb126) (fun _ => False) rfl (by first | (go_simp; done) | (go_simp; rfl)) ?aP (fun _ hk => hk.elim) ?aF ?aO ?aB ?aS ?aL ?_; (case aP => exact k57_mkM _ _ _ (⟨x24_2, x15_1, t127, t128⟩ : S57)); (case aB => exact (by repeat (first | (with_reducible first | exact HB.out | apply below_alloc | apply pw_below_drewN | apply below_drew1 | refine below_set ?_ GE118.out | refine below_set ?_ GE124.out | refine below_set ?_ GE126.out) | exact HB.out))); (case aF => exact (fun k_ hk => Kd.freshB (g := gb126) (o := .cells #[.int .i64 x24_2, .int .i64 x15_1, .int .i64 t127, .int .i64 t128] 57 (0, 0)) (by (with_reducible repeat (first | refine blk_drewN ?_ _ | refine blk_drew ?_ | refine blk_alloc ?_ _)); refine blk_put (cs := #[.int .i64 x24_2, .int .i64 x15_1, .int .i64 t127, .int .i64 0]) ?_ 3 _ rfl; (with_reducible repeat (first | refine blk_drewN ?_ _ | refine blk_drew ?_ | refine blk_alloc ?_ _)); refine blk_put (cs := #[.int .i64 x24_2, .int .i64 x15_1, .int .i64 0, .int .i64 0]) ?_ 2 _ rfl; (with_reducible repeat (first | refine blk_drewN ?_ _ | refine blk_drew ?_ | refine blk_alloc ?_ _)); exact BK126.out) k_ hk)); (case aO => exact (by (with_reducible repeat (first | apply Kd.R_alloc | apply Kd.R_drewN | apply Kd.R_drew)); exact Kd.R_mono (Kd.R_far (p := ⟨gb126, 3, none⟩) (Kd.R_far (p := ⟨gb126, 2, none⟩) (Kd.R_mono HO_4.out (fun k_ hk => (⟨hk, hk.2⟩ : _ ∧ k_ ≠ gb126))) (fun _ hk => hk.2) (.int .i64 t127)) (fun _ hk => hk.2) (.int .i64 t128)) (fun _ hk => hk.1.2))); (case aS => exact (below_size (by repeat (first | (with_reducible first | exact HB.out | apply below_alloc | apply pw_below_drewN | apply below_drew1 | refine below_set ?_ GE118.out | refine below_set ?_ GE124.out | refine below_set ?_ GE126.out) | exact HB.out)))); (case aL => have := LMc33.out; omega); intro v130 w47 ho hb hg hat; rw [← Ny129.out] at ho; have n0_ := Aside0.mk (blk_grown (g := gb118) (o := .cells #[.string ((rd_T45 l0 x15_1).f0), .slice A117_1 ((rd_T45 l0 x15_1).f1.f0).length c117_1, .int .i64 ((rd_T45 l0 x15_1).f1.f1), .int .i64 ((rd_T45 l0 x15_1).f1.f2)] 45 (0, 0)) (by (with_reducible repeat (first | refine blk_drewN ?_ _ | refine blk_drew ?_ | refine blk_alloc ?_ _)); refine blk_far ?_ NB118_126.out _; (with_reducible repeat (first | refine blk_drewN ?_ _ | refine blk_drew ?_ | refine blk_alloc ?_ _)); refine blk_far ?_ NB118_126.out _; (with_reducible repeat (first | refine blk_drewN ?_ _ | refine blk_drew ?_ | refine blk_alloc ?_ _)); exact BK118.out) hg (Kd.R_ne HO_4.out BK118.out (by decide))); have n1_ := Aside0.mk (blk_grown (g := gb124) (o := .cells #[.string ((rd_T45 y119 x24_2).f0), .slice A123_1 ((rd_T45 y119 x24_2).f1.f0).length c123_1, .int .i64 ((rd_T45 y119 x24_2).f1.f1), .int .i64 ((rd_T45 y119 x24_2).f1.f2)] 45 (0, 0)) (by (with_reducible repeat (first | refine blk_drewN ?_ _ | refine blk_drew ?_ | refine blk_alloc ?_ _)); refine blk_far ?_ NB124_126.out _; (with_reducible repeat (first | refine blk_drewN ?_ _ | refine blk_drew ?_ | refine blk_alloc ?_ _)); refine blk_far ?_ NB124_126.out _; (with_reducible repeat (first | refine blk_drewN ?_ _ | refine blk_drew ?_ | refine blk_alloc ?_ _)); exact BK124.out) hg (Kd.R_ne HO_4.out BK124.out (by decide))); have n2_ := Aside0.mk (blk_grown (g := gb126) (o := .cells #[.int .i64 x24_2, .int .i64 x15_1, .int .i64 t127, .int .i64 t128] 57 (0, 0)) (by (with_reducible repeat (first | refine blk_drewN ?_ _ | refine blk_drew ?_ | refine blk_alloc ?_ _)); refine blk_put (cs := #[.int .i64 x24_2, .int .i64 x15_1, .int .i64 t127, .int .i64 0]) ?_ 3 _ rfl; (with_reducible repeat (first | refine blk_drewN ?_ _ | refine blk_drew ?_ | refine blk_alloc ?_ _)); refine blk_put (cs := #[.int .i64 x24_2, .int .i64 x15_1, .int .i64 0, .int .i64 0]) ?_ 2 _ rfl; (with_reducible repeat (first | refine blk_drewN ?_ _ | refine blk_drew ?_ | refine blk_alloc ?_ _)); exact BK126.out) hg (Kd.R_away HO_4.out (fun _ hk => hk.2))); have n3_ := Aside0.mk (hb); have n4_ := Aside0.mk (ho); clear BK118; clear BK124; clear BK126; clear HB; clear HO_4; have BK118 := n0_; have BK124 := n1_; have BK126 := n2_; have HB := n3_; have HO131 := n4_; clear n0_ n1_ n2_ n3_ n4_; clear ho hb hg hat))
                 go_roundg k2
                 case measure => have := HK1.out; have := HK2.out; omega
                 case rel => exact ⟨(y129), (wrap64 (x24_2 + 1)), (by first | rfl | (simp; done) | (simp [*]; done)), H', ⟨by have := HK1.out; have := HK2.out; omega⟩, ⟨by (with_reducible repeat (first | apply Kd.R_alloc | apply Kd.R_drewN | apply Kd.R_drew)); exact Kd.R_mono HO131.out (fun _ hk => trivial)⟩, ⟨by (with_reducible repeat (first | refine blk_drewN ?_ _ | refine blk_drew ?_ | refine blk_alloc ?_ _)); exact BK118.out⟩, ⟨by repeat (first | (with_reducible first | exact HB.out | apply below_alloc | apply pw_below_drewN | apply below_drew1 | refine below_set ?_ GE118.out | refine below_set ?_ GE124.out | refine below_set ?_ GE126.out) | exact HB.out)⟩⟩
                ·rw [if_neg c33] at H
                 exact absurd H (by simp)
            ·rw [if_neg c14] at H
             exact absurd H (by simp)
           ·rw [if_neg c13] at H
            exact absurd H (by simp)
          ·rw [if_neg c12] at H
           have c12b0 : decide (x24_2 < (y119.length : Int)) = false := decide_eq_false c12
           clear c12
           have H' := Aside0.mk H
           clear H
           go_wp2
           go_roundg k2
           case measure => have := HK1.out; have := HK2.out; omega
           case rel => exact ⟨(x4_2), (wrap64 (x15_1 + 1)), (by first | rfl | (simp; done) | (simp [*]; done)), H', ⟨by have := HK1.out; have := HK2.out; omega⟩, ⟨by (with_reducible repeat (first | apply Kd.R_alloc | apply Kd.R_drewN | apply Kd.R_drew)); exact HO_4.out⟩, ⟨by repeat (first | (with_reducible first | exact HB.out | apply below_alloc | apply pw_below_drewN | apply below_drew1 | refine below_set ?_ GE118.out) | exact HB.out)⟩⟩
       ·rw [if_neg c7] at H
        exact absurd H (by simp)
      ·rw [if_neg c5] at H
       exact absurd H (by simp)
     ·rw [if_neg c4] at H
      exact absurd H (by simp)
    ·rw [if_neg c3] at H
     have c3b0 : decide (x15_1 < (l0.length : Int)) = false := decide_eq_false c3
     clear c3
     simp only [Option.some.injEq, Prod.mk.injEq] at H
     obtain ⟨rfl, rfl⟩ := H
     have e39 : ∀ args w, (callFunc 39 args).run Tryd.prog w = .ok (.enter 39 args) w := Go.Proofs.enters_of Tryd.func39 (by kernel_rfl) rfl
     have HOK := HOK_
     obtain ⟨hok, inner, ho, hrep⟩ := HO_4.out
     rcases ho.2 with ⟨hv, hn⟩ | ⟨g, cap, cur, hv, hg, hh, hnc, hcap, hsz, htake⟩
     ·subst hv
      obtain rfl : x4_1 = [] := List.eq_nil_of_length_eq_zero hn
      clear ho hrep hok
      go_wp2_with (go_at_fn 39; refine (sortD_none _).mono ?_; rintro e w2 ⟨rfl, rfl⟩)
      go_ret2
      exact ⟨_, rfl, R_snil _ _ _, HB.out⟩
     ·subst hv
      have hflat : inner = x4_1.flatMap enc57 := SortK.reps_flat enc57 4 (by omega) (fun _ => rfl) (fun x c hc => k57_openM hc) hrep
      replace htake : List.take (x4_1.length * 4) cur.toList = inner := htake
      have HS := Aside0.mk (sortD_row (base := w.heap.size) HOK.out hg hh hnc hcap hsz (by rw [htake]; exact hflat))
      have HG := Aside0.mk hg
      clear ho hrep hok hh hsz htake hflat hnc hcap hg
      go_wp2_with (go_at_fn 39; refine HS.out.mono ?_; rintro e w2 ⟨rfl, hR2, hg2⟩)
      have HR2 := Aside0.mk hR2
      have HG2 := Aside0.mk hg2
      clear hR2 hg2
      go_ret2
      exact ⟨_, rfl, HR2.out, HB.out.grown HG2.out HB.out.size (fun j hj => by cases hj; exact HG.out)⟩
end Go.Proofs.YtndennmpnomjnaaDoor.A
