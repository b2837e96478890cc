/- Layer 23's rows: what a row's condition and the world's shape give a walk (the two tables lie in their blocks), and a world that meets the condition. -/
import Derived.Test.YtekhnkpjeofdpaaDoorLaid
import Derived.Test.YtekhnkpjeofdpaaDoorTie
import Derived.Test.YtekhnkpjeofdpaaDoorCards
import Derived.ChangeSame
import Derived.ChangeVars
import Derived.JoinedOf
import Derived.RowKit
import Derived.RowKitTokens
import Derived.LaidLaws
import Derived.Stop.Joined
import Derived.SevenTiedAt
set_option linter.unusedVariables false
set_option maxRecDepth 100000
namespace Go.Proofs.YtekhnkpjeofdpaaDoor.A
open Go.ChangeShapes Go.WideShapes Go.RowKit
theorem ownKnob23 : ownKnob Tryd.prog.godebug = none := by kernel_rfl
theorem g_table : Tryd.prog.globalNamed "cupel/target.table" = some 0 := by kernel_rfl
theorem g_binary : Tryd.prog.globalNamed "cupel/target.binary" = some 1 := by kernel_rfl
theorem t_table : (Tryd.prog.globals[0]?).map (·.type) = some 124 := by kernel_rfl
theorem t_binary : (Tryd.prog.globals[1]?).map (·.type) = some 116 := by kernel_rfl
theorem row0 : (((begin Tryd.prog (fun _ _ => 0) default).world.heap[0]?).bind Obj.row?).map (·.2) = some 124 := by kernel_rfl
theorem row1 : (((begin Tryd.prog (fun _ _ => 0) default).world.heap[1]?).bind Obj.row?).map (·.2) = some 116 := by kernel_rfl
theorem globals_two : 1 < Tryd.prog.globals.size := by
  have h : decide (1 < Tryd.prog.globals.size) = true := by kernel_rfl
  exact of_decide_eq_true h
theorem var_cells {W : World} {name : String} {g : Nat} {cs : Array Value} {c : Array Value} {t : TypeId} {fr : Nat × Nat} (hg : Tryd.prog.globalNamed name = some g) (hv : W.var? Tryd.prog name = some cs) (hb : W.heap[g]? = some (.cells c t fr)) : c = cs := by
  unfold World.var? at hv
  rw [hg] at hv
  simp only [Option.bind_some, hb] at hv
  exact Option.some.inj hv
/-- what the condition and the world's shape give a walk: the two tables lie in their blocks -/
theorem tab_of_laid {W W' : World} (hheap : W.heap = W'.heap) (hs : W.ShapedOpen Tryd.prog) (h : laidMetH Tryd.prog [("cupel/target.table", Rows.laid_cupel_target_table), ("cupel/target.binary", Rows.laid_cupel_target_binary)] W') : Tab W := by
  have h' : laidMet Tryd.prog [("cupel/target.table", Rows.laid_cupel_target_table), ("cupel/target.binary", Rows.laid_cupel_target_binary)] W' := h
  obtain ⟨ps, ⟨g0, t0, cs0, fuel0, p0, q0, hg0, ht0, hv0, hd0, ⟨g1, t1, cs1, fuel1, p1, q1, hg1, ht1, hv1, hd1, _, _⟩, _⟩, _⟩ := h'
  obtain rfl := Option.some.inj (g_table.symm.trans hg0)
  obtain rfl := Option.some.inj (g_binary.symm.trans hg1)
  obtain rfl := Option.some.inj (t_table.symm.trans ht0)
  obtain rfl := Option.some.inj (t_binary.symm.trans ht1)
  have e0 := trod_table hd0
  have e1 := trod_binary hd1
  obtain ⟨⟨z0, t0⟩, hr0, ht0'⟩ := Option.map_eq_some_iff.1 row0
  obtain ⟨⟨z1, t1⟩, hr1, ht1'⟩ := Option.map_eq_some_iff.1 row1
  simp only at ht0' ht1'
  subst ht0'
  subst ht1'
  obtain ⟨c0, hb0, _⟩ := hs.1 0 z0 124 (Nat.lt_trans Nat.zero_lt_one globals_two) hr0
  obtain ⟨c1, hb1, _⟩ := hs.1 1 z1 116 globals_two hr1
  have f0 := var_cells g_table hv0 (hheap ▸ hb0)
  have f1 := var_cells g_binary hv1 (hheap ▸ hb1)
  have k0 : c0 = tableCells := by rw [f0]; exact Array.toList_inj.1 e0
  have k1 : c1 = operationsCells := by rw [f1]; exact Array.toList_inj.1 e1
  subst k0
  subst k1
  exact ⟨⟨_, hb0⟩, _, hb1⟩
/-- A world that meets the condition: the settled one, the two tables laid. -/
noncomputable def laidWorld (os : Os) : World :=
  let w0 := World.holding Tryd.prog os ⟨#[], #[], []⟩
  { w0 with heap := (w0.heap.modify 0 fun
      | .cells _ t frozen => .cells tableCells t frozen
      | o => o).modify 1 fun
      | .cells _ t frozen => .cells operationsCells t frozen
      | o => o }
theorem laidWorld_met (os : Os) (args : Array Value) : laidMetH Tryd.prog [("cupel/target.table", Rows.laid_cupel_target_table), ("cupel/target.binary", Rows.laid_cupel_target_binary)] ((laidWorld os).forCall (fun _ _ => 0) ⟨#[], args, []⟩).memory :=
  show laidMet Tryd.prog _ _ from laidMet_of_run' 8 (by kernel_rfl) (by kernel_rfl)
end Go.Proofs.YtekhnkpjeofdpaaDoor.A
