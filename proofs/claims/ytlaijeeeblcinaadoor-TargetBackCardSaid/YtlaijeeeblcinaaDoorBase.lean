/- Layer 20's rows: what a row's condition and the world's shape give a walk (the laid variables lie in their blocks), and a world that meets the condition. -/
import Derived.Test.YtlaijeeeblcinaaDoorLaid
import Derived.Test.YtlaijeeeblcinaaDoorNx
import Derived.Test.YtlaijeeeblcinaaDoorTie
import Derived.Test.YtlaijeeeblcinaaDoorCards
import Derived.ChangeSame
import Derived.ChangeVars
import Derived.JoinedOf
import Derived.RowKit
import Derived.RowKitTokens
import Derived.LaidLaws
import Derived.Stop.Joined
import Derived.Stop.LaidErr
import Derived.SevenTiedAt
set_option linter.all false
set_option linter.unusedVariables false
set_option maxRecDepth 100000
namespace Go.Proofs.YtlaijeeeblcinaaDoor.A
open Go.ChangeShapes Go.WideShapes Go.RowKit
theorem ownKnob20 : ownKnob Tryd.prog.godebug = none := by kernel_rfl
theorem g_table : Tryd.prog.globalNamed "cupel/target.table" = some 0 := by kernel_rfl
theorem g_binary : Tryd.prog.globalNamed "cupel/target.binary" = some 1 := by kernel_rfl
theorem g_pow : Tryd.prog.globalNamed "internal/strconv.uint64pow10" = some 2 := by kernel_rfl
theorem g_syn : Tryd.prog.globalNamed "strconv.ErrSyntax" = some 4 := by kernel_rfl
theorem g_rng : Tryd.prog.globalNamed "strconv.ErrRange" = some 5 := by kernel_rfl
theorem t_table : (Tryd.prog.globals[0]?).map (·.type) = some 97 := by kernel_rfl
theorem t_binary : (Tryd.prog.globals[1]?).map (·.type) = some 98 := by kernel_rfl
theorem t_syn : (Tryd.prog.globals[4]?).map (·.type) = some 89 := by kernel_rfl
theorem t_rng : (Tryd.prog.globals[5]?).map (·.type) = some 89 := by kernel_rfl
theorem row0 : (((begin Tryd.prog (fun _ _ => 0) default).world.heap[0]?).bind Obj.row?).map (·.2) = some 97 := by kernel_rfl
theorem row1 : (((begin Tryd.prog (fun _ _ => 0) default).world.heap[1]?).bind Obj.row?).map (·.2) = some 98 := by kernel_rfl
theorem row4 : (((begin Tryd.prog (fun _ _ => 0) default).world.heap[4]?).bind Obj.row?).map (·.2) = some 89 := by kernel_rfl
theorem row5 : (((begin Tryd.prog (fun _ _ => 0) default).world.heap[5]?).bind Obj.row?).map (·.2) = some 89 := by kernel_rfl
theorem globals_n : Tryd.prog.globals.size = 8 := by kernel_rfl
/-- what a row lists -/
abbrev laidL {H : Type} : List (String × DataW H) := [("math/bits.deBruijn32tab", Rows.laid_math_bits_deBruijn32tab), ("math/bits.deBruijn64tab", Rows.laid_math_bits_deBruijn64tab), ("internal/strconv.uint64pow10", Rows.laid_internal_strconv_uint64pow10), ("strconv.ErrRange", Rows.laid_strconv_ErrRange), ("strconv.ErrSyntax", Rows.laid_strconv_ErrSyntax), ("cupel/target.table", Rows.laid_cupel_target_table), ("cupel/target.binary", Rows.laid_cupel_target_binary)]
theorem var_cells {W : World} {name : String} {g : Nat} {cs : Array Value} {c : Array Value} {t : TypeId} {fr : Nat × Nat} (hg : Tryd.prog.globalNamed name = some g) (hv : W.var? Tryd.prog name = some cs) (hb : W.heap[g]? = some (.cells c t fr)) : c = cs := by
 unfold World.var? at hv
 rw [hg] at hv
 simp only [Option.bind_some, hb] at hv
 exact Option.some.inj hv
theorem var_heap {W W' : World} (h : W.heap = W'.heap) (n : String) : W.var? Tryd.prog n = W'.var? Tryd.prog n := by unfold World.var?; rw [h]
theorem star_err : "*" ++ "errors.errorString" = "*errors.errorString" := by decide
theorem name_err (u : TypeId) (h : Tryd.prog.typeName? 3 u = some "*errors.errorString") : u = 154 :=
 typeName_ptr_named (nm := "errors.errorString") (by rw [star_err]; kernel_rfl) (by kernel_rfl) (by decide) u (by rw [star_err]; exact h)
/-- a listed error lies in its block -/
theorem err_of {W : World} {g : Nat} {name : String} {tp : TypeId} {a : Addr} (hg : Tryd.prog.globalNamed name = some g) (hv : W.var? Tryd.prog name = some #[.iface tp (.pointer (some a))]) (hr : (((begin Tryd.prog (fun _ _ => 0) default).world.heap[g]?).bind Obj.row?).map (·.2) = some 89) (hlt : g < Tryd.prog.globals.size) (hs : W.ShapedOpen Tryd.prog) : ∃ t p, W.cell? ⟨g, 0, none⟩ = some (.iface t p) := by
 obtain ⟨⟨z, t⟩, hr1, ht⟩ := Option.map_eq_some_iff.1 hr
 simp only at ht
 subst ht
 obtain ⟨c, hb, _⟩ := hs.1 g z 89 hlt hr1
 have f := var_cells hg hv hb
 subst f
 refine ⟨tp, .pointer (some a), ?_⟩
 simp only [World.cell?, hb]
 rfl
theorem row7 : (((begin Tryd.prog (fun _ _ => 0) default).world.heap[7]?).bind Obj.row?).map (·.2) = some 158 := by kernel_rfl
theorem powD {H : Type} : (Rows.laid_internal_strconv_uint64pow10 : DataW H) = Lib.tabData .u64 Lib.pow10Tab := by rfl
theorem env_of_laid {W W' : World} (hheap : W.heap = W'.heap) (hs : W.ShapedOpen Tryd.prog) (h : laidMetH Tryd.prog laidL W') : Env W := by
 have h' : laidMet Tryd.prog laidL W' := h
 have h2 := h'.tail.tail
 have h3 := h2.tail
 have h4 := h3.tail
 have h5 := h4.tail
 have hn : ∀ k, k < 8 → k < Tryd.prog.globals.size := fun k hk => by rw [globals_n]; exact hk
 rw [powD] at h2
 have hpow := Lib.tabIs_of_head g_pow (by kernel_rfl) Tryd.underlying142 Tryd.underlying48 (by kernel_rfl) (by kernel_rfl) h2
 obtain ⟨a1, s1, hv1, _⟩ := laid_sentinel h3 g_rng t_rng Tryd.underlying89 name_err Tryd.underlying154 Tryd.underlying156 rfl rfl Tryd.underlying9 (by kernel_rfl) (by kernel_rfl)
 obtain ⟨a2, s2, hv2, _⟩ := laid_sentinel h4 g_syn t_syn Tryd.underlying89 name_err Tryd.underlying154 Tryd.underlying156 rfl rfl Tryd.underlying9 (by kernel_rfl) (by kernel_rfl)
 rw [← var_heap hheap] at hv1 hv2
 have hpow' : Lib.TabIs Tryd.prog W "internal/strconv.uint64pow10" .u64 Lib.pow10Tab := by unfold Lib.TabIs at hpow ⊢; rw [var_heap hheap]; exact hpow
 have hbig : 8 ≤ W.heap.size := by
  obtain ⟨⟨z, t⟩, hr1, ht⟩ := Option.map_eq_some_iff.1 row7
  obtain ⟨c, hb, _⟩ := hs.1 7 z t (hn 7 (by omega)) hr1
  have := (Array.getElem?_eq_some_iff.1 hb).1
  omega
 refine ⟨?_, hpow', err_of g_syn hv2 row4 (hn 4 (by omega)) hs, err_of g_rng hv1 row5 (hn 5 (by omega)) hs, hbig⟩
 obtain ⟨ps, ⟨g0, t0, cs0, fuel0, p0, q0, hg0, ht0, hv0, hd0, ⟨g1, t1, cs1, fuel1, p1, q1, hg1, ht1, hv1, hd1, _, _⟩, _⟩, _⟩ := h5
 obtain rfl := Option.some.inj (g_table.symm.trans hg0)
 obtain rfl := Option.some.inj (g_binary.symm.trans hg1)
 obtain rfl := Option.some.inj (t_table.symm.trans ht0)
 obtain rfl := Option.some.inj (t_binary.symm.trans ht1)
 have e0 := trod_table hd0
 have e1 := trod_binary hd1
 obtain ⟨⟨z0, t0⟩, hr0, ht0'⟩ := Option.map_eq_some_iff.1 row0
 obtain ⟨⟨z1, t1⟩, hr1, ht1'⟩ := Option.map_eq_some_iff.1 row1
 simp only at ht0' ht1'
 subst ht0'
 subst ht1'
 obtain ⟨c0, hb0, _⟩ := hs.1 0 z0 97 (hn 0 (by omega)) hr0
 obtain ⟨c1, hb1, _⟩ := hs.1 1 z1 98 (hn 1 (by omega)) hr1
 have f0 := var_cells g_table hv0 (hheap ▸ hb0)
 have f1 := var_cells g_binary hv1 (hheap ▸ hb1)
 have k0 : c0 = tableCells := by rw [f0]; exact Array.toList_inj.1 e0
 have k1 : c1 = operationsCells := by rw [f1]; exact Array.toList_inj.1 e1
 subst k0
 subst k1
 exact ⟨⟨_, hb0⟩, _, hb1⟩
def cellsD : DataW Unit → Array Value
 | .agg l => (l.map fun d => match d with | .lit x => x.value | _ => undef).toArray
 | _ => #[]
/-- A world that meets the condition: the settled one, the variables laid. -/
noncomputable def laidWorld (os : Os) : World :=
 let w0 := World.holding Tryd.prog os ⟨#[], #[], []⟩
 let n := w0.heap.size
 let put (h : Array Obj) (g : Nat) (cs : Array Value) : Array Obj := h.modify g fun
   | .cells _ t frozen => .cells cs t frozen
   | o => o
 { w0 with heap := (put (put (put (put (put (put (put w0.heap 0 tableCells) 1 operationsCells) 2 (cellsD Rows.laid_internal_strconv_uint64pow10)) 4 #[.iface 154 (.pointer (some ⟨n + 1, 0, none⟩))]) 5 #[.iface 154 (.pointer (some ⟨n, 0, none⟩))]) 6 (cellsD Rows.laid_math_bits_deBruijn32tab)) 7 (cellsD Rows.laid_math_bits_deBruijn64tab)).push (.cells #[.string ⟨#[118, 97, 108, 117, 101, 32, 111, 117, 116, 32, 111, 102, 32, 114, 97, 110, 103, 101]⟩] 156 (0, 0)) |>.push (.cells #[.string ⟨#[105, 110, 118, 97, 108, 105, 100, 32, 115, 121, 110, 116, 97, 120]⟩] 156 (0, 0)) }
theorem laidWorld_met (os : Os) (args : Array Value) : laidMetH Tryd.prog laidL ((laidWorld os).forCall (fun _ _ => 0) ⟨#[], args, []⟩).memory :=
 show laidMet Tryd.prog _ _ from laidMet_of_run' 8 (by kernel_rfl) (by kernel_rfl)
end Go.Proofs.YtlaijeeeblcinaaDoor.A
