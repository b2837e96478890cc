/- target.Valid: the plain twin and the contract of its call (where the two tables lie). -/
import Derived.Test.YtlaijeeeblcinaaDoorAx1
import Derived.Test.YtlaijeeeblcinaaDoorTgtFind
set_option linter.all false
set_option linter.unusedVariables false
set_option maxRecDepth 100000
namespace Go.Proofs.YtlaijeeeblcinaaDoor.A
open Go.RowKit Go.Proofs.YtlaijeeeblcinaaDoorW.PrintWords Go.Proofs.YtlaijeeeblcinaaDoorW.PrintLast Go.Proofs.YtlaijeeeblcinaaDoorW.PrintMore
def regOk (u : Bool) (r : Int) : Bool := if r = 0 then true else if u = false then false else if r > 0 then decide (r < 10) else false
def target_Valid.f (a0 a1 a2 a3 a4 : Int) : Option Bool := (cupelref20_find.f a0).bind fun t => if t.2.2.2.2.2.2 = false then some false else if regOk t.2.2.1 a1 = false then some false else if regOk t.2.2.2.1 a2 = false then some false else if regOk t.2.2.2.2.1 a3 = false then some false else target_fits.f t.2.2.2.2.2.1 a4
set_option maxHeartbeats 8000000
theorem reg_calls (u : Bool) (r : Int) (w : World) : Calls Tryd.prog 25 #[.bool u, .int .i64 r] w fun e w' => e = .returned (.bool (regOk u r)) ∧ w' = w := by
 unfold regOk
 by_cases c : r = 0
 ·have c0 : (r == 0) = true := beq_iff_eq.mpr c
  rw [if_pos c]
  clear c
  go_enter Tryd.func25, Tryd.ntmps25
  go_wp2
  go_ret
  exact ⟨rfl, rfl⟩
 ·have c0 : (r == 0) = false := beq_eq_false_iff_ne.mpr c
  rw [if_neg c]
  cases u with
  | false =>
   go_enter Tryd.func25, Tryd.ntmps25
   go_wp2
   go_ret
   exact ⟨rfl, rfl⟩
  | true =>
   rw [if_neg (by decide)]
   by_cases c1 : r > 0
   ·rw [if_pos c1]
    have c2 : decide (0 < r) = true := decide_eq_true c1
    by_cases c3 : r < 10
    ·have c4 : decide (r < 10) = true := decide_eq_true c3
     go_enter Tryd.func25, Tryd.ntmps25
     go_wp2
     go_ret
     exact ⟨by first | rfl | simp [*], rfl⟩
    ·have c4 : decide (r < 10) = false := decide_eq_false c3
     go_enter Tryd.func25, Tryd.ntmps25
     go_wp2
     go_ret
     exact ⟨by first | rfl | simp [*], rfl⟩
   ·rw [if_neg c1]
    have c2 : decide (0 < r) = false := decide_eq_false c1
    go_enter Tryd.func25, Tryd.ntmps25
    go_wp2
    go_ret
    exact ⟨by first | rfl | simp [*], rfl⟩
theorem target_Valid.calls (a0 a1 a2 a3 a4 : Int) (r : Bool) (w : World) (hT : Tab w) (h : target_Valid.f a0 a1 a2 a3 a4 = some r) :
  Calls Tryd.prog 10 #[.agg #[.int .i64 a0, .int .i64 a1, .int .i64 a2, .int .i64 a3, .int .i64 a4]] w fun e w' => e = .returned (.bool r) ∧ Below w.heap.size w w' := by
 obtain ⟨t, ht, H⟩ := Option.bind_eq_some_iff.1 h
 obtain ⟨t0, t1, t2, t3, t4, t5, t6⟩ := t
 have HT := Aside0.mk hT
 have HF := Aside0.mk ht
 have HB := Aside0.mk (Below.refl w.heap.size w)
 clear h ht hT
 cases t6 with
 | false =>
  obtain rfl := Option.some.inj H
  go_enter Tryd.func10, Tryd.ntmps10
  go_wp2_with (go_at_call 24; (with_reducible refine (target_find.calls a0 t0 t1 t2 t3 t4 t5 false _ (Tab.below HT.out (by repeat (first | (with_reducible first | exact HB.out | apply below_alloc | apply pw_below_drewN | apply below_drew1)))) HF.out).mono ?_); rintro e w2 ⟨rfl, hb⟩; have HB2 := Aside0.mk (below_step (by repeat (first | (with_reducible first | exact HB.out | apply below_alloc | apply pw_below_drewN | apply below_drew1))) hb); have hg := blk_below (blk_new w (.cells #[.int .i64 a0, .int .i64 a1, .int .i64 a2, .int .i64 a3, .int .i64 a4] 26)) hb; skip; clear hg hb)
  go_ret
  exact ⟨by first | rfl | simp [*], by repeat (first | (with_reducible first | exact HB2.out | apply below_alloc | apply pw_below_drewN | apply below_drew1))⟩
 | true =>
  replace H : (if regOk t2 a1 = false then some false else if regOk t3 a2 = false then some false else if regOk t4 a3 = false then some false else target_fits.f t5 a4) = some r := H
  cases e1 : regOk t2 a1 with
  | false =>
   rw [if_pos e1] at H
   obtain rfl := Option.some.inj H
   go_enter Tryd.func10, Tryd.ntmps10
   go_wp2_with (first | (go_at_call 24; (with_reducible refine (target_find.calls a0 t0 t1 t2 t3 t4 t5 true _ (Tab.below HT.out (by repeat (first | (with_reducible first | exact HB.out | apply below_alloc | apply pw_below_drewN | apply below_drew1)))) HF.out).mono ?_); rintro e w2 ⟨rfl, hb⟩; have HB2 := Aside0.mk (below_step (by repeat (first | (with_reducible first | exact HB.out | apply below_alloc | apply pw_below_drewN | apply below_drew1))) hb); have hg := blk_below (blk_new w (.cells #[.int .i64 a0, .int .i64 a1, .int .i64 a2, .int .i64 a3, .int .i64 a4] 26)) hb; have hx0 : ∀ o, World.cell? (World.alloc w2 o) ⟨w.heap.size, 0, none⟩ = some (.int .i64 a0) := fun o => (blk_cell (blk_alloc hg o) 0).trans rfl; have hx1 : ∀ o, World.cell? (World.alloc w2 o) ⟨w.heap.size, 1, none⟩ = some (.int .i64 a1) := fun o => (blk_cell (blk_alloc hg o) 1).trans rfl; have hx2 : ∀ o, World.cell? (World.alloc w2 o) ⟨w.heap.size, 2, none⟩ = some (.int .i64 a2) := fun o => (blk_cell (blk_alloc hg o) 2).trans rfl; have hx3 : ∀ o, World.cell? (World.alloc w2 o) ⟨w.heap.size, 3, none⟩ = some (.int .i64 a3) := fun o => (blk_cell (blk_alloc hg o) 3).trans rfl; have hx4 : ∀ o, World.cell? (World.alloc w2 o) ⟨w.heap.size, 4, none⟩ = some (.int .i64 a4) := fun o => (blk_cell (blk_alloc hg o) 4).trans rfl; clear hg hb) | (go_at_call 25; (with_reducible refine (reg_calls t2 a1 _).mono ?_); rintro e w3 ⟨rfl, rfl⟩; simp only [e1]))
   go_ret
   exact ⟨by first | rfl | simp [*], by repeat (first | (with_reducible first | exact HB2.out | apply below_alloc | apply pw_below_drewN | apply below_drew1))⟩
  | true =>
   rw [if_neg (by rw [e1]; decide)] at H
   cases e2 : regOk t3 a2 with
   | false =>
    rw [if_pos e2] at H
    obtain rfl := Option.some.inj H
    go_enter Tryd.func10, Tryd.ntmps10
    go_wp2_with (first | (go_at_call 24; (with_reducible refine (target_find.calls a0 t0 t1 t2 t3 t4 t5 true _ (Tab.below HT.out (by repeat (first | (with_reducible first | exact HB.out | apply below_alloc | apply pw_below_drewN | apply below_drew1)))) HF.out).mono ?_); rintro e w2 ⟨rfl, hb⟩; have HB2 := Aside0.mk (below_step (by repeat (first | (with_reducible first | exact HB.out | apply below_alloc | apply pw_below_drewN | apply below_drew1))) hb); have hg := blk_below (blk_new w (.cells #[.int .i64 a0, .int .i64 a1, .int .i64 a2, .int .i64 a3, .int .i64 a4] 26)) hb; have hx0 : ∀ o, World.cell? (World.alloc w2 o) ⟨w.heap.size, 0, none⟩ = some (.int .i64 a0) := fun o => (blk_cell (blk_alloc hg o) 0).trans rfl; have hx1 : ∀ o, World.cell? (World.alloc w2 o) ⟨w.heap.size, 1, none⟩ = some (.int .i64 a1) := fun o => (blk_cell (blk_alloc hg o) 1).trans rfl; have hx2 : ∀ o, World.cell? (World.alloc w2 o) ⟨w.heap.size, 2, none⟩ = some (.int .i64 a2) := fun o => (blk_cell (blk_alloc hg o) 2).trans rfl; have hx3 : ∀ o, World.cell? (World.alloc w2 o) ⟨w.heap.size, 3, none⟩ = some (.int .i64 a3) := fun o => (blk_cell (blk_alloc hg o) 3).trans rfl; have hx4 : ∀ o, World.cell? (World.alloc w2 o) ⟨w.heap.size, 4, none⟩ = some (.int .i64 a4) := fun o => (blk_cell (blk_alloc hg o) 4).trans rfl; clear hg hb) | (go_at_call 25; (with_reducible refine (reg_calls t2 a1 _).mono ?_); rintro e w3 ⟨rfl, rfl⟩; simp only [e1]) | (go_at_call 25; (with_reducible refine (reg_calls t3 a2 _).mono ?_); rintro e w3 ⟨rfl, rfl⟩; simp only [e2]))
    go_ret
    exact ⟨by first | rfl | simp [*], by repeat (first | (with_reducible first | exact HB2.out | apply below_alloc | apply pw_below_drewN | apply below_drew1))⟩
   | true =>
    rw [if_neg (by rw [e2]; decide)] at H
    cases e3 : regOk t4 a3 with
    | false =>
     rw [if_pos e3] at H
     obtain rfl := Option.some.inj H
     go_enter Tryd.func10, Tryd.ntmps10
     go_wp2_with (first | (go_at_call 24; (with_reducible refine (target_find.calls a0 t0 t1 t2 t3 t4 t5 true _ (Tab.below HT.out (by repeat (first | (with_reducible first | exact HB.out | apply below_alloc | apply pw_below_drewN | apply below_drew1)))) HF.out).mono ?_); rintro e w2 ⟨rfl, hb⟩; have HB2 := Aside0.mk (below_step (by repeat (first | (with_reducible first | exact HB.out | apply below_alloc | apply pw_below_drewN | apply below_drew1))) hb); have hg := blk_below (blk_new w (.cells #[.int .i64 a0, .int .i64 a1, .int .i64 a2, .int .i64 a3, .int .i64 a4] 26)) hb; have hx0 : ∀ o, World.cell? (World.alloc w2 o) ⟨w.heap.size, 0, none⟩ = some (.int .i64 a0) := fun o => (blk_cell (blk_alloc hg o) 0).trans rfl; have hx1 : ∀ o, World.cell? (World.alloc w2 o) ⟨w.heap.size, 1, none⟩ = some (.int .i64 a1) := fun o => (blk_cell (blk_alloc hg o) 1).trans rfl; have hx2 : ∀ o, World.cell? (World.alloc w2 o) ⟨w.heap.size, 2, none⟩ = some (.int .i64 a2) := fun o => (blk_cell (blk_alloc hg o) 2).trans rfl; have hx3 : ∀ o, World.cell? (World.alloc w2 o) ⟨w.heap.size, 3, none⟩ = some (.int .i64 a3) := fun o => (blk_cell (blk_alloc hg o) 3).trans rfl; have hx4 : ∀ o, World.cell? (World.alloc w2 o) ⟨w.heap.size, 4, none⟩ = some (.int .i64 a4) := fun o => (blk_cell (blk_alloc hg o) 4).trans rfl; clear hg hb) | (go_at_call 25; (with_reducible refine (reg_calls t2 a1 _).mono ?_); rintro e w3 ⟨rfl, rfl⟩; simp only [e1]) | (go_at_call 25; (with_reducible refine (reg_calls t3 a2 _).mono ?_); rintro e w3 ⟨rfl, rfl⟩; simp only [e2]) | (go_at_call 25; (with_reducible refine (reg_calls t4 a3 _).mono ?_); rintro e w3 ⟨rfl, rfl⟩; simp only [e3]))
     go_ret
     exact ⟨by first | rfl | simp [*], by repeat (first | (with_reducible first | exact HB2.out | apply below_alloc | apply pw_below_drewN | apply below_drew1))⟩
    | true =>
     rw [if_neg (by rw [e3]; decide)] at H
     go_enter Tryd.func10, Tryd.ntmps10
     go_wp2_with (first | (go_at_call 24; (with_reducible refine (target_find.calls a0 t0 t1 t2 t3 t4 t5 true _ (Tab.below HT.out (by repeat (first | (with_reducible first | exact HB.out | apply below_alloc | apply pw_below_drewN | apply below_drew1)))) HF.out).mono ?_); rintro e w2 ⟨rfl, hb⟩; have HB2 := Aside0.mk (below_step (by repeat (first | (with_reducible first | exact HB.out | apply below_alloc | apply pw_below_drewN | apply below_drew1))) hb); have hg := blk_below (blk_new w (.cells #[.int .i64 a0, .int .i64 a1, .int .i64 a2, .int .i64 a3, .int .i64 a4] 26)) hb; have hx0 : ∀ o, World.cell? (World.alloc w2 o) ⟨w.heap.size, 0, none⟩ = some (.int .i64 a0) := fun o => (blk_cell (blk_alloc hg o) 0).trans rfl; have hx1 : ∀ o, World.cell? (World.alloc w2 o) ⟨w.heap.size, 1, none⟩ = some (.int .i64 a1) := fun o => (blk_cell (blk_alloc hg o) 1).trans rfl; have hx2 : ∀ o, World.cell? (World.alloc w2 o) ⟨w.heap.size, 2, none⟩ = some (.int .i64 a2) := fun o => (blk_cell (blk_alloc hg o) 2).trans rfl; have hx3 : ∀ o, World.cell? (World.alloc w2 o) ⟨w.heap.size, 3, none⟩ = some (.int .i64 a3) := fun o => (blk_cell (blk_alloc hg o) 3).trans rfl; have hx4 : ∀ o, World.cell? (World.alloc w2 o) ⟨w.heap.size, 4, none⟩ = some (.int .i64 a4) := fun o => (blk_cell (blk_alloc hg o) 4).trans rfl; clear hg hb) | (go_at_call 25; (with_reducible refine (reg_calls t2 a1 _).mono ?_); rintro e w3 ⟨rfl, rfl⟩; simp only [e1]) | (go_at_call 25; (with_reducible refine (reg_calls t3 a2 _).mono ?_); rintro e w3 ⟨rfl, rfl⟩; simp only [e2]) | (go_at_call 25; (with_reducible refine (reg_calls t4 a3 _).mono ?_); rintro e w3 ⟨rfl, rfl⟩; simp only [e3]) | (go_at_call 26; (with_reducible refine (target_fits.calls t5 a4 r _ H).mono ?_); rintro e w4 ⟨rfl, ⟨nd, rfl⟩⟩))
     skip
     go_ret
     exact ⟨by first | rfl | simp [*], by repeat (first | (with_reducible first | exact HB2.out | apply below_alloc | apply pw_below_drewN | apply below_drew1))⟩
end Go.Proofs.YtlaijeeeblcinaaDoor.A
