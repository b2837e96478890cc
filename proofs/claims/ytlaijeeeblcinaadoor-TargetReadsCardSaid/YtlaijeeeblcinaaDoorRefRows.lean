/- cupelref20.rows: the table as a list: what it answers, and the contract of its call. -/
import Derived.Test.YtlaijeeeblcinaaDoorAx0
import Derived.Test.YtlaijeeeblcinaaDoorRefTab
import Derived.Test.YtlaijeeeblcinaaDoorWAll
import Derived.Laws.Rows
import Derived.Laws.CopyOwn
import Derived.Deep.RegionLaw
import Derived.Deep.RegionWith
set_option linter.all false
set_option linter.unusedVariables false
set_option maxRecDepth 100000
namespace Go.Proofs.YtlaijeeeblcinaaDoor.A
open Go.RowKit Go.Proofs.YtlaijeeeblcinaaDoorW.PrintWords Go.Proofs.YtlaijeeeblcinaaDoorW.PrintLast Go.Proofs.YtlaijeeeblcinaaDoorW.PrintMore
def simpleS : List S56 := simpleRows.map fun r => ⟨r.1, r.2.1, r.2.2.1, r.2.2.2.1, r.2.2.2.2.1, r.2.2.2.2.2⟩
def opN (i : Nat) : ByteArray := opWords.getD i ByteArray.empty
def binS (i : Nat) : List S56 := [⟨16 + (i : Int), opN i, true, true, true, 0⟩, ⟨36 + (i : Int), opN i ++ ⟨#[105]⟩, true, true, false, 1⟩]
def binsS : Nat → List S56
 | 0 => []
 | n + 1 => binsS n ++ binS n
def cupelref20_rows.f : Option (List S56) := some (simpleS ++ binsS 14)
def sAt (i : Nat) : S56 := simpleS.getD i z56
theorem simple_cell (i : Nat) (h : i < 14) : simpleCells[i * 6]? = some (.int .i64 (sAt i).f0) ∧ simpleCells[i * 6 + 1]? = some (.string (sAt i).f1) ∧ simpleCells[i * 6 + 2]? = some (.bool (sAt i).f2) ∧ simpleCells[i * 6 + 3]? = some (.bool (sAt i).f3) ∧ simpleCells[i * 6 + 4]? = some (.bool (sAt i).f4) ∧ simpleCells[i * 6 + 5]? = some (.int .i64 (sAt i).f5) := by
 match i, h with
 | 0, _ => exact ⟨rfl, rfl, rfl, rfl, rfl, rfl⟩
 | 1, _ => exact ⟨rfl, rfl, rfl, rfl, rfl, rfl⟩
 | 2, _ => exact ⟨rfl, rfl, rfl, rfl, rfl, rfl⟩
 | 3, _ => exact ⟨rfl, rfl, rfl, rfl, rfl, rfl⟩
 | 4, _ => exact ⟨rfl, rfl, rfl, rfl, rfl, rfl⟩
 | 5, _ => exact ⟨rfl, rfl, rfl, rfl, rfl, rfl⟩
 | 6, _ => exact ⟨rfl, rfl, rfl, rfl, rfl, rfl⟩
 | 7, _ => exact ⟨rfl, rfl, rfl, rfl, rfl, rfl⟩
 | 8, _ => exact ⟨rfl, rfl, rfl, rfl, rfl, rfl⟩
 | 9, _ => exact ⟨rfl, rfl, rfl, rfl, rfl, rfl⟩
 | 10, _ => exact ⟨rfl, rfl, rfl, rfl, rfl, rfl⟩
 | 11, _ => exact ⟨rfl, rfl, rfl, rfl, rfl, rfl⟩
 | 12, _ => exact ⟨rfl, rfl, rfl, rfl, rfl, rfl⟩
 | 13, _ => exact ⟨rfl, rfl, rfl, rfl, rfl, rfl⟩
theorem op_cell (i : Nat) (h : i < 14) : operationsCells[i]? = some (.string (opN i)) ∧ (opN i).size ≤ 9 := by
 match i, h with
 | 0, _ => exact ⟨rfl, by decide⟩
 | 1, _ => exact ⟨rfl, by decide⟩
 | 2, _ => exact ⟨rfl, by decide⟩
 | 3, _ => exact ⟨rfl, by decide⟩
 | 4, _ => exact ⟨rfl, by decide⟩
 | 5, _ => exact ⟨rfl, by decide⟩
 | 6, _ => exact ⟨rfl, by decide⟩
 | 7, _ => exact ⟨rfl, by decide⟩
 | 8, _ => exact ⟨rfl, by decide⟩
 | 9, _ => exact ⟨rfl, by decide⟩
 | 10, _ => exact ⟨rfl, by decide⟩
 | 11, _ => exact ⟨rfl, by decide⟩
 | 12, _ => exact ⟨rfl, by decide⟩
 | 13, _ => exact ⟨rfl, by decide⟩
theorem simple_calls' (w : World) : Calls Tryd.prog 56 #[] w fun e w' => e = .returned (.agg simpleCells) ∧ Below w.heap.size w w' :=
 (simple_calls w).mono fun e w' ⟨he, hw⟩ => ⟨he, hw ▸ below_alloc (Below.refl _ _) _⟩
theorem operations_calls' (w : World) : Calls Tryd.prog 55 #[] w fun e w' => e = .returned (.agg operationsCells) ∧ Below w.heap.size w w' :=
 (operations_calls w).mono fun e w' ⟨he, hw⟩ => ⟨he, hw ▸ below_alloc (Below.refl _ _) _⟩
theorem operations_one : operationsCells.all (·.oneCell') = true := by kernel_rfl
theorem operations_size : operationsCells.size = 14 := by kernel_rfl
theorem simple_take (i : Nat) (h : i < 14) : simpleS.take (i + 1) = simpleS.take i ++ [sAt i] := by
 match i, h with
 | 0, _ => rfl
 | 1, _ => rfl
 | 2, _ => rfl
 | 3, _ => rfl
 | 4, _ => rfl
 | 5, _ => rfl
 | 6, _ => rfl
 | 7, _ => rfl
 | 8, _ => rfl
 | 9, _ => rfl
 | 10, _ => rfl
 | 11, _ => rfl
 | 12, _ => rfl
 | 13, _ => rfl
theorem info96 : (Tryd.prog.info? 56).map (fun i => (i.zero, i.size, i.bytes)) = some (some (.agg #[.int .i64 0, .string ⟨#[]⟩, .bool false, .bool false, .bool false, .int .i64 0]), 6, 40) := by kernel_rfl
theorem store_row (w : World) (g : Nat) (t : TypeId) (old new : Array Value) (hg : w.heap[g]? = some (.cells old t (0, 0))) (hl : old.size = new.size) (h1 : new.all (·.oneCell') = true) :
  (storeCells ⟨g, 0, none⟩ new.toList).run Tryd.prog w = .ok () (w.setRow g new) := by
 have h := run_storeCells_from (P := Tryd.prog) g t new.toList 0 old w hg (by simp [hl]) (fun v hv => by
  have := Array.all_eq_true_iff_forall_mem.1 h1 v (by simpa using hv)
  exact this)
 simpa using h
def z14 : Array Value := #[.string ⟨#[]⟩, .string ⟨#[]⟩, .string ⟨#[]⟩, .string ⟨#[]⟩, .string ⟨#[]⟩, .string ⟨#[]⟩, .string ⟨#[]⟩, .string ⟨#[]⟩, .string ⟨#[]⟩, .string ⟨#[]⟩, .string ⟨#[]⟩, .string ⟨#[]⟩, .string ⟨#[]⟩, .string ⟨#[]⟩]
theorem simple_stores (w : World) (SC : Array Value) (hz : SC.size = 84) (h1 : SC.all (·.oneCell') = true) (o : Obj) :
  (storeCells ⟨w.heap.size, 0, none⟩ SC.toList).run Tryd.prog ((w.alloc (.cells Tryd.zeroCells100 100)).alloc o) = .ok () (((w.alloc (.cells Tryd.zeroCells100 100)).alloc o).setRow w.heap.size SC) :=
 store_row _ _ 100 Tryd.zeroCells100 SC (blk_alloc (heap_alloc_last _ _) _) (by rw [hz, zero118_size]) h1
theorem ops_stores (w : World) (SC OC : Array Value) (hz : OC.size = 14) (h1 : OC.all (·.oneCell') = true) :
  (storeCells ⟨w.heap.size + 1, 0, none⟩ OC.toList).run Tryd.prog (((w.alloc (.cells Tryd.zeroCells100 100)).alloc (.cells z14 98)).setRow w.heap.size SC) = .ok () ((((w.alloc (.cells Tryd.zeroCells100 100)).alloc (.cells z14 98)).setRow w.heap.size SC).setRow (w.heap.size + 1) OC) :=
 store_row _ _ 98 z14 OC (by rw [setRow_other _ _ _ _ (by omega)]; have := heap_alloc_last (w.alloc (.cells Tryd.zeroCells100 100)) (.cells z14 98); simpa using this) (by rw [hz]; rfl) h1
theorem rows_worlds (w : World) (SC OC : Array Value) :
  ((((w.alloc (.cells Tryd.zeroCells100 100)).alloc (.cells z14 98)).setRow w.heap.size SC).setRow (w.heap.size + 1) OC).heap[w.heap.size]? = some (.cells SC 100 (0, 0)) ∧ ((((w.alloc (.cells Tryd.zeroCells100 100)).alloc (.cells z14 98)).setRow w.heap.size SC).setRow (w.heap.size + 1) OC).heap[w.heap.size + 1]? = some (.cells OC 98 (0, 0)) := by
 refine ⟨?_, ?_⟩
 ·rw [setRow_other _ _ _ _ (by omega)]
  exact setRow_heap _ _ _ _ _ _ (blk_alloc (heap_alloc_last _ _) _)
 ·refine setRow_heap _ _ z14 _ _ _ ?_
  rw [setRow_other _ _ _ _ (by omega)]
  have := heap_alloc_last (w.alloc (.cells Tryd.zeroCells100 100)) (.cells z14 98)
  simpa using this
theorem wrap_small (n : Int) (h0 : 0 ≤ n) (h1 : n ≤ 1000) : wrap64 n = n := by unfold wrap64; omega
theorem binsS_len (n : Nat) : (binsS n).length = 2 * n := by
 induction n with
 | zero => rfl
 | succ n ih => rw [binsS, List.length_append, ih]; show 2 * n + 2 = _; omega
theorem sums14 (i : Nat) (h : i < 14) : wrap64 (15 + (i : Int)) = 15 + (i : Int) ∧ wrap64 (15 + (i : Int) + 1) = 16 + (i : Int) ∧ wrap64 (35 + (i : Int)) = 35 + (i : Int) ∧ wrap64 (35 + (i : Int) + 1) = 36 + (i : Int) ∧ IntKind.i64.wrap (15 + (i : Int)) = 15 + (i : Int) ∧ IntKind.i64.wrap (15 + (i : Int) + 1) = 16 + (i : Int) ∧ IntKind.i64.wrap (35 + (i : Int)) = 35 + (i : Int) ∧ IntKind.i64.wrap (35 + (i : Int) + 1) = 36 + (i : Int) := by
 have a1 : wrap64 (15 + (i : Int)) = 15 + (i : Int) := wrap_small _ (by omega) (by omega)
 have a2 : wrap64 (15 + (i : Int) + 1) = 16 + (i : Int) := (wrap_small _ (by omega) (by omega)).trans (by clear a1; omega)
 have a3 : wrap64 (35 + (i : Int)) = 35 + (i : Int) := wrap_small _ (by clear a1 a2; omega) (by clear a1 a2; omega)
 have a4 : wrap64 (35 + (i : Int) + 1) = 36 + (i : Int) := (wrap_small _ (by clear a1 a2 a3; omega) (by clear a1 a2 a3; omega)).trans (by clear a1 a2 a3; omega)
 exact ⟨a1, a2, a3, a4, (i64_w _).trans a1, (i64_w _).trans a2, (i64_w _).trans a3, (i64_w _).trans a4⟩
theorem binS_reads (W W1 : World) (base : Nat) (i : Nat) (okp : Nat → Prop) (g : Nat) (hg : W.heap[g]? = some (.cells #[.int .i64 (16 + (i : Int)), .string (opN i), .bool true, .bool true, .bool true, .int .i64 0, .int .i64 (36 + (i : Int)), .string (opN i ++ ⟨#[105]⟩), .bool true, .bool true, .bool false, .int .i64 1] 56 (0, 0))) :
  ReadsRow (fun x cs => k56.M W1 base okp x cs) 6 W (some ⟨g, 0, none⟩) 2 (binS i) := by
 refine ⟨rfl, by omega, fun _ => ⟨_, rfl, fun j p hj => ?_⟩⟩
 match j, hj with
 | 0, hj =>
  obtain rfl := Option.some.inj hj
  refine ⟨_, rfl, k56_mkM _ _ _ _, fun q u hu => ?_⟩
  have e : (⟨g, 0, none⟩ : Addr).add (0 * 6 + q) = ⟨g, q, none⟩ := by unfold Addr.add; simp; try omega
  rw [e, blk_cell hg]
  match q, hu with
  | 0, hu => exact hu
  | 1, hu => exact hu
  | 2, hu => exact hu
  | 3, hu => exact hu
  | 4, hu => exact hu
  | 5, hu => exact hu
  | n + 6, hu => exact absurd hu (by simp)
 | 1, hj =>
  obtain rfl := Option.some.inj hj
  refine ⟨_, rfl, k56_mkM _ _ _ _, fun q u hu => ?_⟩
  have e : (⟨g, 0, none⟩ : Addr).add (1 * 6 + q) = ⟨g, 6 + q, none⟩ := by unfold Addr.add; simp; try omega
  rw [e, blk_cell hg]
  match q, hu with
  | 0, hu => exact hu
  | 1, hu => exact hu
  | 2, hu => exact hu
  | 3, hu => exact hu
  | 4, hu => exact hu
  | 5, hu => exact hu
  | n + 6, hu => exact absurd hu (by simp)
 | n + 2, hj => simp [binS] at hj
set_option maxHeartbeats 8000000
theorem cupelref20_rows.calls (r : List S56) (w : World) (h : cupelref20_rows.f = some r) :
  Calls Tryd.prog 45 #[] w fun e w' => ∃ v0_ : Value, e = .returned v0_ ∧ Kd.R k56 56 w' w.heap.size (fun _ => True) v0_ r ∧ Below w.heap.size w w' := by
 have hr := Aside0.mk h
 clear h
 have hs := Aside0.mk simple_calls'
 have ho := Aside0.mk operations_calls'
 have hs1 := Aside0.mk simple_cell
 have ho1 := Aside0.mk op_cell
 have hz1 := simpleCells_size
 have hz2 := operations_size
 have hq1 := simple_one
 have hq2 := operations_one
 have HB := Aside0.mk (Below.refl w.heap.size w)
 generalize simpleCells = SC at hs hs1 hz1 hq1
 generalize operationsCells = OC at ho ho1 hz2 hq2
 go_enter Tryd.func45, Tryd.ntmps45
 go_wp2_with (first | (go_at_call 56; refine (hs.out _).mono ?_; rintro e w1 ⟨rfl, hb⟩; have HB := Aside0.mk (below_step HB.out hb); clear hb) | (go_at_call 55; refine (ho.out _).mono ?_; rintro e w2 ⟨rfl, hb⟩; have HB := Aside0.mk (below_step HB.out hb); clear hb; have hst1 := simple_stores w2 SC hz1 hq1; have hst2 := ops_stores w2 SC OC hz2 hq2; simp only [z14] at hst2))
 obtain ⟨hg1, hg2⟩ := rows_worlds w2 SC OC
 have HB3 := Aside0.mk (below_setRow (below_setRow (below_alloc (below_alloc HB.out (.cells Tryd.zeroCells100 100)) (.cells z14 98)) (below_size HB.out) SC) (g := w2.heap.size + 1) (by have := below_size HB.out; omega) OC)
 have HG1 := Aside0.mk hg1
 have HG2 := Aside0.mk hg2
 have hlt := below_size HB.out
 obtain ⟨g, hg⟩ : ∃ g, g = w2.heap.size := ⟨_, rfl⟩
 simp only [← hg] at HG1 HG2 hlt HB3 ⊢
 have hgA := Aside0.mk hg
 clear hg hst1 hst2 hg1 hg2 HB hz1 hz2 hq1 hq2
 go_loopg [3, 4] 14 (fun kq v3 v4 w' => ∃ i : Nat, v4 = .int .i64 (i : Int) ∧ i + kq = 14 ∧ Aside0 (k56.R 56 w' w.heap.size (fun k => k ≠ g ∧ k ≠ g + 1) v3 (simpleS.take i)) ∧ Aside0 (w'.heap[g]? = some (.cells SC 100 (0, 0))) ∧ Aside0 (w'.heap[g + 1]? = some (.cells OC 98 (0, 0))) ∧ Aside0 (Below w.heap.size w w'))
 case atStart => exact ⟨0, rfl, rfl, ⟨Kd.R_nil _ _ _ _ _⟩, HG1, HG2, HB3⟩
 case round =>
  clear HG1 HG2 HB3
  obtain ⟨i, rfl, hi, HO, HG1, HG2, HB⟩ := hrel
  by_cases ci : i < 14
  ·have ci0 : decide ((i : Int) < 14) = true := decide_eq_true (by omega)
   obtain ⟨s0, s1, s2, s3, s4, s5⟩ := hs1.out i ci
   have hc0 := (blk_cell HG1.out (i * 6)).trans s0
   have hc1 := (blk_cell HG1.out (i * 6 + 1)).trans s1
   have hc2 := (blk_cell HG1.out (i * 6 + 2)).trans s2
   have hc3 := (blk_cell HG1.out (i * 6 + 3)).trans s3
   have hc4 := (blk_cell HG1.out (i * 6 + 4)).trans s4
   have hc5 := (blk_cell HG1.out (i * 6 + 5)).trans s5
   clear s0 s1 s2 s3 s4 s5
   have hgg := Nat.lt_of_lt_of_le (Nat.lt_succ_self (g + 1)) (blk_lt HG2.out)
   have hbs := below_size HB.out
   go_wp2_with ((with_reducible refine gate_builtin (b := .append) (xs := #[.tmp 12, .tmp 16]) rfl ?_); at_builtin; refine Kd.R_append k56 (w0 := w) w.heap.size rfl (.tmp 12) (.tmp 16) 81 56 (.agg #[.int .i64 0, .string ⟨#[]⟩, .bool false, .bool false, .bool false, .int .i64 0]) 40 rfl Tryd.underlying81 info96 rfl (by decide) (by omega) _ (simpleS.take i) (sAt i) [.int .i64 (sAt i).f0, .string (sAt i).f1, .bool (sAt i).f2, .bool (sAt i).f3, .bool (sAt i).f4, .int .i64 (sAt i).f5] (fun k => k ≠ g ∧ k ≠ g + 1) (fun _ => False) rfl rfl (k56_mkM _ _ _ _) (fun _ hk => hk.elim) (fun k hk => by omega) HO.out HB.out hbs (by simp only [List.length_take]; omega) ?_; intro v1 w3 ho3 hb3 hg3 hat3)
   have hne := HO.out.1
   have n1 : some g ≠ Value.ownBlock u3 := fun e => (hne g e.symm).1 rfl
   have n2 : some (g + 1) ≠ Value.ownBlock u3 := fun e => (hne (g + 1) e.symm).2 rfl
   go_roundg (13 - i)
   case measure => omega
   case rel => exact ⟨i + 1, rfl, by omega, ⟨by rw [simple_take i ci]; exact ho3⟩, ⟨blk_grown HG1.out hg3 n1⟩, ⟨blk_grown HG2.out hg3 n2⟩, ⟨hb3⟩⟩
  ·have ci0 : decide ((i : Int) < 14) = false := decide_eq_false (by omega)
   have eS : simpleS ++ binsS 0 = simpleS.take i := by
    rw [List.take_of_length_le (by show 14 ≤ i; omega)]
    simp [binsS]
   have HO0 := Aside0.mk (show k56.R 56 wr w.heap.size (fun k => k ≠ g ∧ k ≠ g + 1) u3 (simpleS ++ binsS 0) from eS ▸ HO.out)
   clear eS HO hi
   go_wp2
   clear ci ci0
   go_loopg [3, 5] 14 (fun kq v3 v5 w' => ∃ i : Nat, v5 = .int .i64 (i : Int) ∧ i + kq = 14 ∧ Aside0 (k56.R 56 w' w.heap.size (fun k => k ≠ g ∧ k ≠ g + 1) v3 (simpleS ++ binsS i)) ∧ Aside0 (w'.heap[g]? = some (.cells SC 100 (0, 0))) ∧ Aside0 (w'.heap[g + 1]? = some (.cells OC 98 (0, 0))) ∧ Aside0 (Below w.heap.size w w'))
   case atStart => exact ⟨0, rfl, rfl, HO0, HG1, HG2, HB⟩
   case round =>
    clear HG1 HG2 HB HO0
    obtain ⟨i, rfl, hi, HO, HG1, HG2, HB⟩ := hrel
    by_cases ci : i < 14
    ·have ci0 : decide ((i : Int) < 14) = true := decide_eq_true (by omega)
     obtain ⟨so, ss⟩ := ho1.out i ci
     have hc0 := (blk_cell HG2.out i).trans so
     go_wp2
     have hgg := Nat.lt_of_lt_of_le (Nat.lt_succ_self (g + 1)) (blk_lt HG2.out)
     have hbs := below_size HB.out
     have hs1 : (⟨#[105]⟩ : ByteArray).size = 1 := rfl
     have hlen : (simpleS ++ binsS i).length + 2 ≤ 100 := by rw [List.length_append, binsS_len, show simpleS.length = 14 from rfl]; omega
     have hs2 : ¬ ((opN i).size + (⟨#[105]⟩ : ByteArray).size > 9223372036854775807) := by omega
     have hs3 : ¬ (9223372036854775807 < (opN i).size + 1) := by omega
     have hs4 : ¬ (9223372036854775806 < (opN i).size) := by omega
     have hs5 : (opN i).size ≤ 9223372036854775806 := by omega
     have hi0 : (0 : Int) ≤ (i : Int) := by omega
     have hi1 : (i : Int) < 14 := by omega
     have hi2 : (i : Int).toNat = i := by omega
     obtain ⟨v1, v2, v3, v4, u1, u2, u3, u4⟩ := sums14 i ci
     have hi' := Aside0.mk hi
     clear hi so
     go_region_law (refine Kd.R_append_rows_step k56 (w0 := w) w.heap.size rfl (.tmp 22) (.tmp 38) 81 56 (.agg #[.int .i64 0, .string ⟨#[]⟩, .bool false, .bool false, .bool false, .int .i64 0]) 40 rfl Tryd.underlying81 info96 rfl (by decide) (by omega) _ (simpleS ++ binsS i) (binS i) _ 2 2 (fun k => k ≠ g ∧ k ≠ g + 1) (fun _ => False) rfl rfl (by (with_reducible repeat (first | apply Kd.R_alloc | apply Kd.R_drewN | apply Kd.R_drew)); exact HO.out) (binS_reads _ _ _ i _ _ (by (with_reducible repeat (first | refine blk_drewN ?_ _ | refine blk_drew ?_)); exact blk_new _ _)) (fun _ _ hx => hx) (fun _ h => h.elim) (fun k hk => by simp at hk; omega) (by repeat (first | (with_reducible first | exact HB.out | apply below_alloc | apply pw_below_drewN | apply below_drew1))) (by simp; omega) (by omega) ?_; intro v9 w9 ho9 hb9 hg9 hat9)
     all_goals
      clear v1 v2 v3 v4 u1 u2 u3 u4
      have hne := HO.out.1
      have n1 : some g ≠ Value.ownBlock _ := fun e => (hne g e.symm).1 rfl
      have n2 : some (g + 1) ≠ Value.ownBlock _ := fun e => (hne (g + 1) e.symm).2 rfl
      have e1 : simpleS ++ binsS (i + 1) = simpleS ++ binsS i ++ binS i := (List.append_assoc _ _ _).symm
      go_wp2
      go_roundg (13 - i)
      case measure => have := hi'.out; omega
      case rel => exact ⟨i + 1, rfl, by have := hi'.out; omega, ⟨e1 ▸ ho9⟩, ⟨blk_grown (by (with_reducible repeat (first | refine blk_drewN ?_ _ | refine blk_drew ?_ | refine blk_alloc ?_ _)); exact HG1.out) hg9 n1⟩, ⟨blk_grown (by (with_reducible repeat (first | refine blk_drewN ?_ _ | refine blk_drew ?_ | refine blk_alloc ?_ _)); exact HG2.out) hg9 n2⟩, ⟨hb9⟩⟩
    ·have ci0 : decide ((i : Int) < 14) = false := decide_eq_false (by omega)
     obtain rfl : i = 14 := by omega
     obtain rfl := Option.some.inj hr.out
     go_wp2
     go_ret
     exact ⟨_, rfl, Kd.R_mono HO.out (fun _ _ => trivial), HB.out⟩
end Go.Proofs.YtlaijeeeblcinaaDoor.A
