/- target.find: the contract of its calls: what cupelref20's find answers. -/
import Derived.Test.YtlaijeeeblcinaaDoorTgtTab
set_option linter.all false
set_option linter.unusedVariables false
set_option maxRecDepth 100000
namespace Go.Proofs.YtlaijeeeblcinaaDoor.A
open Go.RowKit Go.Proofs.YtlaijeeeblcinaaDoorW.PrintWords
set_option maxHeartbeats 8000000
theorem target_find.calls (a0 : Int) (r0 : Int) (r1 : ByteArray) (r2 r3 r4 : Bool) (r5 : Int) (r6 : Bool) (w : World) (hT : Tab w) (h : cupelref20_find.f a0 = some (r0, r1, r2, r3, r4, r5, r6)) :
  Calls Tryd.prog 24 #[.int .i64 a0] w fun e w' => e = .returned (.tuple #[.agg #[.int .i64 r0, .string r1, .bool r2, .bool r3, .bool r4, .int .i64 r5], .bool r6]) ∧ Below w.heap.size w w' := by
 have h' := Aside0.mk h
 clear h
 obtain ⟨⟨fr, hT⟩, fr2, hT2⟩ := hT
 have hall := Aside0.mk tab_at
 have hall2 := Aside0.mk bin_at
 have hi1 := info124
 have hi2 := info116'
 have HT2 := Aside0.mk hT2
 clear hT2
 generalize tableCells = TC at hT hall hi1
 generalize operationsCells = BC at HT2 hall2 hi2
 go_enter Tryd.func24, Tryd.ntmps24
 go_wp2_with (refine wpList_load_row rfl 97 _ rfl 0 rfl 97 TC fr _ (blk_alloc hT _) Tryd.underlying97 rfl hi1 ?_)
 clear hT hi1
 go_loopg [9] 14 (fun kq v9 w' => ∃ i : Nat, v9 = .int .i64 (i : Int) ∧ i + kq = 14 ∧ Aside0 (∀ j : Nat, j < i → (j : Int) + 1 ≠ a0) ∧ Aside0 (w'.heap[w.heap.size]? = some (.cells #[.int .i64 0, .string ⟨#[]⟩, .bool false, .bool false, .bool false, .int .i64 0] 50 (0, 0))) ∧ Aside0 (Below w.heap.size w w'))
 case atStart => exact ⟨0, rfl, rfl, ⟨fun _ h => absurd h (by omega)⟩, ⟨heap_alloc_last _ _⟩, ⟨below_alloc (Below.refl _ _) _⟩⟩
 case round =>
  obtain ⟨i, rfl, hi, HN, HZ, HB⟩ := hrel
  have hw : wrap64 ((i : Int) + 1) = ((i + 1 : Nat) : Int) := by unfold wrap64; omega
  by_cases ci : i < 14
  ·have ci0 : decide ((i : Int) < 14) = true := decide_eq_true (by omega)
   have hix := hall.out i ci
   by_cases c : (i : Int) + 1 = a0
   ·subst c
    have hq := find_tab i ci
    rw [h'.out] at hq
    obtain ⟨rfl, rfl, rfl, rfl, rfl, rfl, rfl⟩ : r0 = _ ∧ r1 = _ ∧ r2 = _ ∧ r3 = _ ∧ r4 = _ ∧ r5 = _ ∧ r6 = _ := by have e := Option.some.inj hq; simpa only [Prod.mk.injEq] using e
    clear h' hq HN hw
    have hz0 : ∀ o, World.cell? (World.alloc _ o) ⟨w.heap.size, 0, none⟩ = some (.int .i64 0) := fun o => (blk_cell (blk_alloc HZ.out o) 0).trans rfl; have hf0 := fun o => blk_frozen (blk_alloc HZ.out o) 0; have hz1 : ∀ o, World.cell? (World.alloc _ o) ⟨w.heap.size, 1, none⟩ = some (.string ⟨#[]⟩) := fun o => (blk_cell (blk_alloc HZ.out o) 1).trans rfl; have hf1 := fun o => blk_frozen (blk_alloc HZ.out o) 1; have hz2 : ∀ o, World.cell? (World.alloc _ o) ⟨w.heap.size, 2, none⟩ = some (.bool false) := fun o => (blk_cell (blk_alloc HZ.out o) 2).trans rfl; have hf2 := fun o => blk_frozen (blk_alloc HZ.out o) 2; have hz3 : ∀ o, World.cell? (World.alloc _ o) ⟨w.heap.size, 3, none⟩ = some (.bool false) := fun o => (blk_cell (blk_alloc HZ.out o) 3).trans rfl; have hf3 := fun o => blk_frozen (blk_alloc HZ.out o) 3; have hz4 : ∀ o, World.cell? (World.alloc _ o) ⟨w.heap.size, 4, none⟩ = some (.bool false) := fun o => (blk_cell (blk_alloc HZ.out o) 4).trans rfl; have hf4 := fun o => blk_frozen (blk_alloc HZ.out o) 4; have hz5 : ∀ o, World.cell? (World.alloc _ o) ⟨w.heap.size, 5, none⟩ = some (.int .i64 0) := fun o => (blk_cell (blk_alloc HZ.out o) 5).trans rfl; have hf5 := fun o => blk_frozen (blk_alloc HZ.out o) 5
    go_wp2
    refine bodyPost_ret (results_ct (fn := Tryd.f24) rfl _ _ w.heap.size 50 #[.int .i64 ((i : Int) + 1), .string (trowAt i).2.1, .bool (trowAt i).2.2.1, .bool (trowAt i).2.2.2.1, .bool (trowAt i).2.2.2.2.1, .int .i64 (trowAt i).2.2.2.2.2] (0, 0) _ rfl (by (with_reducible repeat (first | refine blk_drewN ?_ _ | refine blk_drew ?_ | refine blk_alloc ?_ _)); refine blk_put (cs := #[.int .i64 ((i : Int) + 1), .string (trowAt i).2.1, .bool (trowAt i).2.2.1, .bool (trowAt i).2.2.2.1, .bool (trowAt i).2.2.2.2.1, .int .i64 0]) ?_ 5 _ rfl; (with_reducible repeat (first | refine blk_drewN ?_ _ | refine blk_drew ?_ | refine blk_alloc ?_ _)); refine blk_put (cs := #[.int .i64 ((i : Int) + 1), .string (trowAt i).2.1, .bool (trowAt i).2.2.1, .bool (trowAt i).2.2.2.1, .bool false, .int .i64 0]) ?_ 4 _ rfl; (with_reducible repeat (first | refine blk_drewN ?_ _ | refine blk_drew ?_ | refine blk_alloc ?_ _)); refine blk_put (cs := #[.int .i64 ((i : Int) + 1), .string (trowAt i).2.1, .bool (trowAt i).2.2.1, .bool false, .bool false, .int .i64 0]) ?_ 3 _ rfl; (with_reducible repeat (first | refine blk_drewN ?_ _ | refine blk_drew ?_ | refine blk_alloc ?_ _)); refine blk_put (cs := #[.int .i64 ((i : Int) + 1), .string (trowAt i).2.1, .bool false, .bool false, .bool false, .int .i64 0]) ?_ 2 _ rfl; (with_reducible repeat (first | refine blk_drewN ?_ _ | refine blk_drew ?_ | refine blk_alloc ?_ _)); refine blk_put (cs := #[.int .i64 ((i : Int) + 1), .string ⟨#[]⟩, .bool false, .bool false, .bool false, .int .i64 0]) ?_ 1 _ rfl; (with_reducible repeat (first | refine blk_drewN ?_ _ | refine blk_drew ?_ | refine blk_alloc ?_ _)); refine blk_put (cs := #[.int .i64 0, .string ⟨#[]⟩, .bool false, .bool false, .bool false, .int .i64 0]) ?_ 0 _ rfl; (with_reducible repeat (first | refine blk_drewN ?_ _ | refine blk_drew ?_ | refine blk_alloc ?_ _)); exact HZ.out) Tryd.underlying50 rfl (by kernel_rfl)) rfl ?_
    exact ⟨rfl, by repeat (first | (with_reducible first | exact HB.out | apply below_alloc | apply pw_below_drewN | apply below_drew1 | refine below_set ?_ (Nat.le_refl _)))⟩
   ·have c0 : ((i : Int) + 1 == a0) = false := beq_eq_false_iff_ne.mpr c
    go_wp2
    go_roundg (13 - i)
    case measure => omega
    case rel => exact ⟨i + 1, by first | rfl | (simp; done) | (rw [hw]; done), by omega, ⟨fun j hj => by by_cases e : j = i; (· subst e; exact c); (· exact HN.out j (by omega))⟩, ⟨blk_alloc HZ.out _⟩, ⟨below_alloc HB.out _⟩⟩
  ·have ci0 : decide ((i : Int) < 14) = false := decide_eq_false (by omega)
   have HN1 := Aside0.mk (show ∀ j : Nat, j < 14 → (j : Int) + 1 ≠ a0 from fun j hj => HN.out j (by omega))
   have hT2' := Aside0.mk (blk_below HT2.out HB.out)
   clear HN hi hw hall
   go_wp2_with (refine wpList_load_row rfl 98 _ rfl 1 rfl 98 BC fr2 _ hT2'.out Tryd.underlying98 rfl hi2 ?_)
   clear HT2 hT2' ci ci0 hi2
   go_loopg [19] 14 (fun kq v19 w' => ∃ i : Nat, v19 = .int .i64 (i : Int) ∧ i + kq = 14 ∧ Aside0 (∀ j : Nat, j < i → a0 ≠ 16 + (j : Int) ∧ a0 ≠ 36 + (j : Int)) ∧ Aside0 (w'.heap[w.heap.size]? = some (.cells #[.int .i64 0, .string ⟨#[]⟩, .bool false, .bool false, .bool false, .int .i64 0] 50 (0, 0))) ∧ Aside0 (Below w.heap.size w w'))
   case atStart => exact ⟨0, rfl, rfl, ⟨fun _ h => absurd h (by omega)⟩, HZ, HB⟩
   case round =>
    clear HZ HB
    obtain ⟨i, rfl, hi, HN, HZ, HB⟩ := hrel
    have hw : wrap64 ((i : Int) + 1) = ((i + 1 : Nat) : Int) := by unfold wrap64; omega
    by_cases ci : i < 14
    ·have hw1 : wrap64 (16 + (i : Int)) = 16 + (i : Int) := by unfold wrap64; omega
     have hw2 : wrap64 (36 + (i : Int)) = 36 + (i : Int) := by unfold wrap64; omega
     have ci0 : decide ((i : Int) < 14) = true := decide_eq_true (by omega)
     have hix := hall2.out i ci
     by_cases c : a0 = 16 + (i : Int)
     ·subst c
      have hq := find_bin i ci
      rw [h'.out] at hq
      obtain ⟨rfl, rfl, rfl, rfl, rfl, rfl, rfl⟩ : r0 = _ ∧ r1 = _ ∧ r2 = _ ∧ r3 = _ ∧ r4 = _ ∧ r5 = _ ∧ r6 = _ := by have e := Option.some.inj hq; simpa only [Prod.mk.injEq] using e
      clear h' hq HN hw hw2
      have hz0 : World.cell? _ ⟨w.heap.size, 0, none⟩ = some (.int .i64 0) := (blk_cell HZ.out 0).trans rfl; have hf0 := blk_frozen HZ.out 0; have hz1 : World.cell? _ ⟨w.heap.size, 1, none⟩ = some (.string ⟨#[]⟩) := (blk_cell HZ.out 1).trans rfl; have hf1 := blk_frozen HZ.out 1; have hz2 : World.cell? _ ⟨w.heap.size, 2, none⟩ = some (.bool false) := (blk_cell HZ.out 2).trans rfl; have hf2 := blk_frozen HZ.out 2; have hz3 : World.cell? _ ⟨w.heap.size, 3, none⟩ = some (.bool false) := (blk_cell HZ.out 3).trans rfl; have hf3 := blk_frozen HZ.out 3; have hz4 : World.cell? _ ⟨w.heap.size, 4, none⟩ = some (.bool false) := (blk_cell HZ.out 4).trans rfl; have hf4 := blk_frozen HZ.out 4; have hz5 : World.cell? _ ⟨w.heap.size, 5, none⟩ = some (.int .i64 0) := (blk_cell HZ.out 5).trans rfl; have hf5 := blk_frozen HZ.out 5
      go_wp2
      refine bodyPost_ret (results_ct (fn := Tryd.f24) rfl _ _ w.heap.size 50 #[.int .i64 (16 + (i : Int)), .string (opAt i), .bool true, .bool true, .bool true, .int .i64 0] (0, 0) _ rfl (by (with_reducible repeat (first | refine blk_drewN ?_ _ | refine blk_drew ?_ | refine blk_alloc ?_ _)); refine blk_put (cs := #[.int .i64 (16 + (i : Int)), .string (opAt i), .bool true, .bool true, .bool true, .int .i64 0]) ?_ 5 _ rfl; (with_reducible repeat (first | refine blk_drewN ?_ _ | refine blk_drew ?_ | refine blk_alloc ?_ _)); refine blk_put (cs := #[.int .i64 (16 + (i : Int)), .string (opAt i), .bool true, .bool true, .bool false, .int .i64 0]) ?_ 4 _ rfl; (with_reducible repeat (first | refine blk_drewN ?_ _ | refine blk_drew ?_ | refine blk_alloc ?_ _)); refine blk_put (cs := #[.int .i64 (16 + (i : Int)), .string (opAt i), .bool true, .bool false, .bool false, .int .i64 0]) ?_ 3 _ rfl; (with_reducible repeat (first | refine blk_drewN ?_ _ | refine blk_drew ?_ | refine blk_alloc ?_ _)); refine blk_put (cs := #[.int .i64 (16 + (i : Int)), .string (opAt i), .bool false, .bool false, .bool false, .int .i64 0]) ?_ 2 _ rfl; (with_reducible repeat (first | refine blk_drewN ?_ _ | refine blk_drew ?_ | refine blk_alloc ?_ _)); refine blk_put (cs := #[.int .i64 (16 + (i : Int)), .string ⟨#[]⟩, .bool false, .bool false, .bool false, .int .i64 0]) ?_ 1 _ rfl; (with_reducible repeat (first | refine blk_drewN ?_ _ | refine blk_drew ?_ | refine blk_alloc ?_ _)); refine blk_put (cs := #[.int .i64 0, .string ⟨#[]⟩, .bool false, .bool false, .bool false, .int .i64 0]) ?_ 0 _ rfl; (with_reducible repeat (first | refine blk_drewN ?_ _ | refine blk_drew ?_ | refine blk_alloc ?_ _)); exact HZ.out) Tryd.underlying50 rfl (by kernel_rfl)) rfl ?_
      exact ⟨rfl, by repeat (first | (with_reducible first | exact HB.out | apply below_alloc | apply pw_below_drewN | apply below_drew1 | refine below_set ?_ (Nat.le_refl _)))⟩
     ·have c0 : (a0 == 16 + (i : Int)) = false := beq_eq_false_iff_ne.mpr c
      by_cases c2 : a0 = 36 + (i : Int)
      ·have c20 : (a0 == 36 + (i : Int)) = true := beq_iff_eq.mpr c2
       have hq := find_bini i ci
       rw [← c2, h'.out] at hq
       obtain ⟨rfl, rfl, rfl, rfl, rfl, rfl, rfl⟩ : r0 = _ ∧ r1 = _ ∧ r2 = _ ∧ r3 = _ ∧ r4 = _ ∧ r5 = _ ∧ r6 = _ := by have e := Option.some.inj hq; simpa only [Prod.mk.injEq] using e
       clear h' hq HN hw HN1 c c2
       have hsz := opAt_size i ci
       have hs1 : (⟨#[105]⟩ : ByteArray).size = 1 := rfl
       have hz0 : World.cell? _ ⟨w.heap.size, 0, none⟩ = some (.int .i64 0) := (blk_cell HZ.out 0).trans rfl; have hf0 := blk_frozen HZ.out 0; have hz1 : World.cell? _ ⟨w.heap.size, 1, none⟩ = some (.string ⟨#[]⟩) := (blk_cell HZ.out 1).trans rfl; have hf1 := blk_frozen HZ.out 1; have hz2 : World.cell? _ ⟨w.heap.size, 2, none⟩ = some (.bool false) := (blk_cell HZ.out 2).trans rfl; have hf2 := blk_frozen HZ.out 2; have hz3 : World.cell? _ ⟨w.heap.size, 3, none⟩ = some (.bool false) := (blk_cell HZ.out 3).trans rfl; have hf3 := blk_frozen HZ.out 3; have hz4 : World.cell? _ ⟨w.heap.size, 4, none⟩ = some (.bool false) := (blk_cell HZ.out 4).trans rfl; have hf4 := blk_frozen HZ.out 4; have hz5 : World.cell? _ ⟨w.heap.size, 5, none⟩ = some (.int .i64 0) := (blk_cell HZ.out 5).trans rfl; have hf5 := blk_frozen HZ.out 5
       have hs2 : ¬ ((opAt i).size + (⟨#[105]⟩ : ByteArray).size > 9223372036854775807) := by omega
       have hs3 : ¬ (9223372036854775807 < (opAt i).size + 1) := by omega
       have hs4 : ¬ (9223372036854775806 < (opAt i).size) := by omega
       have hs5 : (opAt i).size ≤ 9223372036854775806 := by omega
       go_wp2
       refine bodyPost_ret (results_ct (fn := Tryd.f24) rfl _ _ w.heap.size 50 #[.int .i64 r0, .string (opAt i ++ ⟨#[105]⟩), .bool true, .bool true, .bool false, .int .i64 1] (0, 0) _ rfl (by (with_reducible repeat (first | refine blk_drewN ?_ _ | refine blk_drew ?_ | refine blk_alloc ?_ _)); refine blk_put (cs := #[.int .i64 r0, .string (opAt i ++ ⟨#[105]⟩), .bool true, .bool true, .bool false, .int .i64 0]) ?_ 5 _ rfl; (with_reducible repeat (first | refine blk_drewN ?_ _ | refine blk_drew ?_ | refine blk_alloc ?_ _)); refine blk_put (cs := #[.int .i64 r0, .string (opAt i ++ ⟨#[105]⟩), .bool true, .bool true, .bool false, .int .i64 0]) ?_ 4 _ rfl; (with_reducible repeat (first | refine blk_drewN ?_ _ | refine blk_drew ?_ | refine blk_alloc ?_ _)); refine blk_put (cs := #[.int .i64 r0, .string (opAt i ++ ⟨#[105]⟩), .bool true, .bool false, .bool false, .int .i64 0]) ?_ 3 _ rfl; (with_reducible repeat (first | refine blk_drewN ?_ _ | refine blk_drew ?_ | refine blk_alloc ?_ _)); refine blk_put (cs := #[.int .i64 r0, .string (opAt i ++ ⟨#[105]⟩), .bool false, .bool false, .bool false, .int .i64 0]) ?_ 2 _ rfl; (with_reducible repeat (first | refine blk_drewN ?_ _ | refine blk_drew ?_ | refine blk_alloc ?_ _)); refine blk_put (cs := #[.int .i64 r0, .string ⟨#[]⟩, .bool false, .bool false, .bool false, .int .i64 0]) ?_ 1 _ rfl; (with_reducible repeat (first | refine blk_drewN ?_ _ | refine blk_drew ?_ | refine blk_alloc ?_ _)); refine blk_put (cs := #[.int .i64 0, .string ⟨#[]⟩, .bool false, .bool false, .bool false, .int .i64 0]) ?_ 0 _ rfl; (with_reducible repeat (first | refine blk_drewN ?_ _ | refine blk_drew ?_ | refine blk_alloc ?_ _)); exact HZ.out) Tryd.underlying50 rfl (by kernel_rfl)) rfl ?_
       exact ⟨rfl, by repeat (first | (with_reducible first | exact HB.out | apply below_alloc | apply pw_below_drewN | apply below_drew1 | refine below_set ?_ (Nat.le_refl _)))⟩
      ·have c20 : (a0 == 36 + (i : Int)) = false := beq_eq_false_iff_ne.mpr c2
       go_wp2
       go_roundg (13 - i)
       case measure => omega
       case rel => exact ⟨i + 1, by first | rfl | (simp; done) | (rw [hw]; done), by omega, ⟨fun j hj => by by_cases e : j = i; (· subst e; exact ⟨c, c2⟩); (· exact HN.out j (by omega))⟩, HZ, HB⟩
    ·have ci0 : decide ((i : Int) < 14) = false := decide_eq_false (by omega)
     have hq := find_no a0 HN1.out (fun j hj => HN.out j (by omega))
     rw [h'.out] at hq
     obtain ⟨rfl, rfl, rfl, rfl, rfl, rfl, rfl⟩ : r0 = _ ∧ r1 = _ ∧ r2 = _ ∧ r3 = _ ∧ r4 = _ ∧ r5 = _ ∧ r6 = _ := by have e := Option.some.inj hq; simpa only [Prod.mk.injEq] using e
     clear h' hq HN HN1 hw
     have hz0 : World.cell? _ ⟨w.heap.size, 0, none⟩ = some (.int .i64 0) := (blk_cell HZ.out 0).trans rfl; have hf0 := blk_frozen HZ.out 0; have hz1 : World.cell? _ ⟨w.heap.size, 1, none⟩ = some (.string ⟨#[]⟩) := (blk_cell HZ.out 1).trans rfl; have hf1 := blk_frozen HZ.out 1; have hz2 : World.cell? _ ⟨w.heap.size, 2, none⟩ = some (.bool false) := (blk_cell HZ.out 2).trans rfl; have hf2 := blk_frozen HZ.out 2; have hz3 : World.cell? _ ⟨w.heap.size, 3, none⟩ = some (.bool false) := (blk_cell HZ.out 3).trans rfl; have hf3 := blk_frozen HZ.out 3; have hz4 : World.cell? _ ⟨w.heap.size, 4, none⟩ = some (.bool false) := (blk_cell HZ.out 4).trans rfl; have hf4 := blk_frozen HZ.out 4; have hz5 : World.cell? _ ⟨w.heap.size, 5, none⟩ = some (.int .i64 0) := (blk_cell HZ.out 5).trans rfl; have hf5 := blk_frozen HZ.out 5
     go_wp2
     refine bodyPost_ret (results_ct (fn := Tryd.f24) rfl _ _ w.heap.size 50 #[.int .i64 0, .string ByteArray.empty, .bool false, .bool false, .bool false, .int .i64 0] (0, 0) _ rfl (by (with_reducible repeat (first | refine blk_drewN ?_ _ | refine blk_drew ?_ | refine blk_alloc ?_ _)); refine blk_put (cs := #[.int .i64 0, .string ByteArray.empty, .bool false, .bool false, .bool false, .int .i64 0]) ?_ 5 _ rfl; (with_reducible repeat (first | refine blk_drewN ?_ _ | refine blk_drew ?_ | refine blk_alloc ?_ _)); refine blk_put (cs := #[.int .i64 0, .string ByteArray.empty, .bool false, .bool false, .bool false, .int .i64 0]) ?_ 4 _ rfl; (with_reducible repeat (first | refine blk_drewN ?_ _ | refine blk_drew ?_ | refine blk_alloc ?_ _)); refine blk_put (cs := #[.int .i64 0, .string ByteArray.empty, .bool false, .bool false, .bool false, .int .i64 0]) ?_ 3 _ rfl; (with_reducible repeat (first | refine blk_drewN ?_ _ | refine blk_drew ?_ | refine blk_alloc ?_ _)); refine blk_put (cs := #[.int .i64 0, .string ByteArray.empty, .bool false, .bool false, .bool false, .int .i64 0]) ?_ 2 _ rfl; (with_reducible repeat (first | refine blk_drewN ?_ _ | refine blk_drew ?_ | refine blk_alloc ?_ _)); refine blk_put (cs := #[.int .i64 0, .string ⟨#[]⟩, .bool false, .bool false, .bool false, .int .i64 0]) ?_ 1 _ rfl; (with_reducible repeat (first | refine blk_drewN ?_ _ | refine blk_drew ?_ | refine blk_alloc ?_ _)); refine blk_put (cs := #[.int .i64 0, .string ⟨#[]⟩, .bool false, .bool false, .bool false, .int .i64 0]) ?_ 0 _ rfl; (with_reducible repeat (first | refine blk_drewN ?_ _ | refine blk_drew ?_ | refine blk_alloc ?_ _)); exact HZ.out) Tryd.underlying50 rfl (by kernel_rfl)) rfl ?_
     exact ⟨rfl, by repeat (first | (with_reducible first | exact HB.out | apply below_alloc | apply pw_below_drewN | apply below_drew1 | refine below_set ?_ (Nat.le_refl _)))⟩
end Go.Proofs.YtlaijeeeblcinaaDoor.A
