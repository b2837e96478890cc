/- target.Parse's deferred closure: the two contracts. -/
import Derived.Test.YtlaijeeeblcinaaDoorIr
import Derived.Recover
set_option linter.all false
set_option linter.unusedVariables false
set_option linter.unusedSimpArgs false
set_option maxRecDepth 100000
namespace Go.Proofs.YtlaijeeeblcinaaDoor.A
open Go.RowKit Go.Proofs.YtlaijeeeblcinaaDoorW.PrintWords Go.Proofs.YtlaijeeeblcinaaDoorW.PrintLast Go.Proofs.YtlaijeeeblcinaaDoorW.PrintMore
set_option maxHeartbeats 8000000
/-- the three results set to a failure -/
def badSet (w : World) (b2 b3 b4 : Nat) (p : Int) : World := ((((w.setCell ⟨b2, 0, none⟩ (.slice none 0 0)).setCell ⟨b2, 1, none⟩ (.slice none 0 0)).setCell ⟨b2, 2, none⟩ (.int .i64 0)).setCell ⟨b3, 0, none⟩ (.int .i64 p)).setCell ⟨b4, 0, none⟩ (.int .i64 6)
theorem catch_panicking (b2 b3 b4 : Nat) (v0 v1 : Value) (en a e0 p : Int) (older : List PanicEntry) (w : World) (h2 : w.heap[b2]? = some (.cells #[v0, v1, .int .i64 en] 35 (0, 0))) (h3 : w.heap[b3]? = some (.cells #[.int .i64 a] 3 (0, 0))) (h4 : w.heap[b4]? = some (.cells #[.int .i64 e0] 28 (0, 0)))
  (n23 : b2 ≠ b3) (n24 : b2 ≠ b4) (n34 : b3 ≠ b4) :
  CallsD Tryd.prog 34 #[.pointer (some ⟨b2, 0, none⟩), .pointer (some ⟨b3, 0, none⟩), .pointer (some ⟨b4, 0, none⟩)] (.panicking ({ v := .iface 65 (.int .i64 p), recovered := false } :: older)) w fun e u' w' =>
   e = .returned (.tuple #[]) ∧ u' = .panicking ({ v := .iface 65 (.int .i64 p), recovered := true } :: older) ∧ w' = badSet w b2 b3 b4 p := by
 have hta : ∀ W, (Instr.typeAssert (.iface 65 (.int .i64 p)) 20 65 true).run Tryd.prog W = .ok (.tuple #[.int .i64 p, .bool true]) W := fun W => by kernel_rfl
 refine callsD_of_wpS Tryd.func34 rfl fun c₀ cs hu => ?_
 apply wpS_seq
 apply wpS_region
 simp [wpOpsS, go_sem, recoverD, hu, Tryd.ntmps34, Exit.thenS]
 have c20 : w.cell? ⟨b2, 0, none⟩ = some v0 := (blk_cell h2 0).trans rfl
 have c21 : w.cell? ⟨b2, 1, none⟩ = some v1 := (blk_cell h2 1).trans rfl
 have c22 : w.cell? ⟨b2, 2, none⟩ = some (.int .i64 en) := (blk_cell h2 2).trans rfl
 have c3 : w.cell? ⟨b3, 0, none⟩ = some (.int .i64 a) := (blk_cell h3 0).trans rfl
 have c4 : w.cell? ⟨b4, 0, none⟩ = some (.int .i64 e0) := (blk_cell h4 0).trans rfl
 have f20 := blk_frozen h2 0
 have f21 := blk_frozen h2 1
 have f22 := blk_frozen h2 2
 have f3 := blk_frozen h3 0
 have f4 := blk_frozen h4 0
 clear h2 h3 h4
 simp only [show Array.replicate 16 undef = #[undef, undef, undef, undef, undef, undef, undef, undef, undef, undef, undef, undef, undef, undef, undef, undef] from rfl, List.append_toArray, List.cons_append, List.nil_append, List.setIfInBounds_toArray, List.set_cons_zero, List.set_cons_succ]
 refine wpS_of_wp ?_
 go_wp2
 simp [bodyPostS, results, Tryd.results34]
 rfl
theorem catch_idle (b2 b3 b4 : Nat) (w : World) :
  CallsD Tryd.prog 34 #[.pointer (some ⟨b2, 0, none⟩), .pointer (some ⟨b3, 0, none⟩), .pointer (some ⟨b4, 0, none⟩)] .returning w fun e u' w' => e = .returned (.tuple #[]) ∧ u' = .returning ∧ w' = w := by
 refine callsD_of_wpS Tryd.func34 rfl fun c₀ cs hu => ?_
 apply wpS_seq
 apply wpS_region
 simp [wpOpsS, go_sem, recoverD, hu, Tryd.ntmps34, Exit.thenS]
 simp only [show Array.replicate 16 undef = #[undef, undef, undef, undef, undef, undef, undef, undef, undef, undef, undef, undef, undef, undef, undef, undef] from rfl, List.append_toArray, List.cons_append, List.nil_append, List.setIfInBounds_toArray, List.set_cons_zero, List.set_cons_succ]
 refine wpS_of_wp ?_
 go_wp2
 cases c₀
 simp_all [bodyPostS, results, Tryd.results34]
end Go.Proofs.YtlaijeeeblcinaaDoor.A
