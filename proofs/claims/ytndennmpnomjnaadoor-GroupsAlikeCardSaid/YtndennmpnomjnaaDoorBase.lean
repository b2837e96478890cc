/- Layer 35's rows: what a row's condition and the world's shape give a walk (the laid variables lie in their blocks), and a world that meets the condition. -/
import Derived.Test.YtndennmpnomjnaaDoorBd
import Derived.Test.YtndennmpnomjnaaDoorTie
import Derived.Test.YtndennmpnomjnaaDoorCards
import Derived.ChangeArms
import Derived.ChangeSame
import Derived.ChangeVars
import Derived.JoinedOf
import Derived.RowKit
import Derived.RowKitTokens
import Derived.Lib.LaidTab
import Derived.LaidLaws
import Derived.Stop.Joined
import Derived.SevenTiedAt
import Derived.Stop.LaidErr
set_option linter.all false
set_option linter.unusedVariables false
set_option maxRecDepth 100000
namespace Go.Proofs.YtndennmpnomjnaaDoor.A
open Go.ChangeShapes Go.WideShapes Go.RowKit
theorem ownKnob20 : ownKnob Tryd.prog.godebug = none := by kernel_rfl
theorem g_pow : Tryd.prog.globalNamed "internal/strconv.uint64pow10" = some 1 := by kernel_rfl
theorem globals_n : Tryd.prog.globals.size = 6 := by kernel_rfl
/-- what a row lists -/
abbrev laidL : List (String × DataW Unit) := [("math/bits.deBruijn32tab", Rows.laid_math_bits_deBruijn32tab), ("math/bits.deBruijn64tab", Rows.laid_math_bits_deBruijn64tab), ("internal/strconv.uint64pow10", Rows.laid_internal_strconv_uint64pow10), ("unicode/utf8.acceptRanges", Rows.laid_unicode_utf8_acceptRanges), ("unicode/utf8.first", Rows.laid_unicode_utf8_first)]
theorem var_heap {W W' : World} (h : W.heap = W'.heap) (n : String) : W.var? Tryd.prog n = W'.var? Tryd.prog n := by unfold World.var?; rw [h]
theorem row5 : (((begin Tryd.prog (fun _ _ => 0) default).world.heap[5]?).bind Obj.row?).map (·.2) = some 125 := by kernel_rfl
theorem powD : (Rows.laid_internal_strconv_uint64pow10 : DataW Unit) = Lib.tabData .u64 Lib.pow10Tab := by rfl
theorem env_of_laid {W W' : World} (hheap : W.heap = W'.heap) (hs : W.ShapedOpen Tryd.prog) (h : laidMetH Tryd.prog laidL W') : Env W := by
 have h' : laidMet Tryd.prog laidL W' := h
 have h2 := h'.tail.tail
 rw [powD] at h2
 have hpow := Lib.tabIs_of_head g_pow (by kernel_rfl) Tryd.underlying112 Tryd.underlying87 (by kernel_rfl) (by kernel_rfl) h2
 refine ⟨Tryd.laysM143.s1_3 W hs, by unfold Lib.TabIs at hpow ⊢; rw [var_heap hheap]; exact hpow, ?_⟩
 obtain ⟨⟨z, t'⟩, hr1, ht⟩ := Option.map_eq_some_iff.1 row5
 obtain ⟨c, hb, _⟩ := hs.1 5 z t' (by rw [globals_n]; decide) hr1
 have := (Array.getElem?_eq_some_iff.1 hb).1
 omega
def flatD : DataW Unit → List Value
 | .lit x => [x.value]
 | .agg l => l.flatMap fun d => match d with
  | .lit x => [x.value]
  | .agg l2 => l2.map fun e => match e with | .lit x => x.value | _ => undef
  | _ => []
 | _ => []
def cellsD (d : DataW Unit) : Array Value := (flatD d).toArray
/-- A world that meets the condition: the settled one, the variables laid. -/
noncomputable def laidWorld (os : Os) : World :=
 let w0 := World.holding Tryd.prog os ⟨#[], #[], []⟩
 let put (h : Array Obj) (g : Nat) (cs : Array Value) : Array Obj := h.modify g fun
   | .cells _ t frozen => .cells cs t frozen
   | o => o
 { w0 with heap := put (put (put (put (put w0.heap 1 (cellsD Rows.laid_internal_strconv_uint64pow10)) 2 (cellsD Rows.laid_unicode_utf8_first)) 3 (cellsD Rows.laid_unicode_utf8_acceptRanges)) 4 (cellsD Rows.laid_math_bits_deBruijn32tab)) 5 (cellsD Rows.laid_math_bits_deBruijn64tab) }
theorem laidWorld_met (os : Os) (args : Array Value) : laidMetH Tryd.prog laidL ((laidWorld os).forCall (fun _ _ => 0) ⟨#[], args, []⟩).memory :=
 show laidMet Tryd.prog _ _ from laidMet_of_run' 8 (by kernel_rfl) (by kernel_rfl)
end Go.Proofs.YtndennmpnomjnaaDoor.A
