/- target's reader in memory: fail; what a call may turn. -/
import Derived.Test.YtlaijeeeblcinaaDoorTok
import Derived.Test.YtlaijeeeblcinaaDoorTgtTab
import Derived.WalkSmall
import Derived.Test.YtlaijeeeblcinaaDoorAx1
import Derived.Deep.RegionWith
set_option linter.all false
set_option linter.unusedVariables false
set_option maxRecDepth 100000
namespace Go.Proofs.YtlaijeeeblcinaaDoor.A
open Go.RowKit Go.Proofs.YtlaijeeeblcinaaDoorW.PrintWords Go.Proofs.YtlaijeeeblcinaaDoorW.PrintLast Go.Proofs.YtlaijeeeblcinaaDoorW.PrintMore
set_option maxHeartbeats 4000000
/-- what a call may turn: blocks of P, and new ones -/
structure Chg (P : Nat → Prop) (w w' : World) : Prop where
  os : w'.os = w.os
  tape : w'.tape = w.tape
  output : w'.output = w.output
  size : w.heap.size ≤ w'.heap.size
  block : ∀ k, k < w.heap.size → ¬ P k → w'.heap[k]? = w.heap[k]?
section
variable {P : Nat → Prop} {w w' w1 : World}
theorem Chg.refl (P : Nat → Prop) (w : World) : Chg P w w := ⟨rfl, rfl, rfl, Nat.le_refl _, fun _ _ _ => rfl⟩
theorem Chg.trans {P : Nat → Prop} {w w1 w' : World} (h : Chg P w w1) (k : Chg P w1 w') : Chg P w w' :=
  ⟨k.os.trans h.os, k.tape.trans h.tape, k.output.trans h.output, Nat.le_trans h.size k.size, fun i hi hn => (k.block i (Nat.lt_of_lt_of_le hi h.size) hn).trans (h.block i hi hn)⟩
theorem Chg.of_below (h : Below w.heap.size w w') : Chg P w w' := ⟨h.os, h.tape, h.output, h.size, fun k hk _ => h.block k hk⟩
theorem Chg.alloc (h : Chg P w w1) (o : Obj) : Chg P w (w1.alloc o) := h.trans (.of_below (below_alloc (Below.refl _ _) o))
theorem Chg.drew (h : Chg P w w1) : Chg P w w1.drew := h.trans (.of_below (below_drew1 (Below.refl _ _)))
theorem Chg.drewN (h : Chg P w w1) (n : Nat) : Chg P w (w1.drewN n) := h.trans (.of_below (pw_below_drewN (Below.refl _ _) n))
theorem Chg.setCell (h : Chg P w w1) {a : Addr} (hp : P a.block) (v : Value) : Chg P w (w1.setCell a v) :=
  h.trans ⟨rfl, rfl, rfl, by simp, fun k hk hn => Below.heap_setCell w1 a v k (fun e => hn (e ▸ hp))⟩
theorem Chg.grown (h : Chg P w w1) {row : Option Nat} (hg : w1.grownBy w' row) (hr : ∀ k, row = some k → P k) : Chg P w w' :=
  h.trans ⟨hg.os, hg.tape, hg.output, hg.size, fun k hk hn => hg.block k hk (fun e => hn (hr k e.symm))⟩
theorem Chg.below (h : Chg P w w') {B : Nat} (hB : B ≤ w.heap.size) (hn : ∀ k, k < B → ¬ P k) : Below B w w' := ⟨h.os, h.tape, h.output, h.size, fun k hk => h.block k (Nat.lt_of_lt_of_le hk hB) (hn k hk)⟩
theorem Chg.blk (h : Chg P w w') {g : Nat} {o : Obj} (hg : w.heap[g]? = some o) (hn : ¬ P g) : w'.heap[g]? = some o := (h.block g (blk_lt hg) hn).trans hg
theorem Chg.tab (h : Chg P w w') (hT : Tab w) (h0 : ¬ P 0) (h1 : ¬ P 1) : Tab w' := by
  obtain ⟨⟨a, ha⟩, b, hb⟩ := hT
  exact ⟨⟨a, h.blk ha h0⟩, b, h.blk hb h1⟩
end
/-- a reader's six cells -/
def rdc (s : ByteArray) (a e c : Int) (t : ByteArray) (v : Int) : Array Value := #[.string s, .int .i64 a, .int .i64 e, .int .u8 c, .string t, .int .i64 v]
/-- what fail hands up -/
abbrev failed (a : Int) : Ending := .panicked [{ v := .iface 65 (.int .i64 a), recovered := false }]
theorem fail_calls {w : World} {g : Nat} {s : ByteArray} {a e c : Int} {t : ByteArray} {v : Int} (h : w.heap[g]? = some (.cells (rdc s a e c t v) 71 (0, 0))) :
    Calls Tryd.prog 39 #[.pointer (some ⟨g, 0, none⟩)] w fun e' w' => e' = failed a ∧ w' = w := by
  have c1 : w.cell? ⟨g, 1, none⟩ = some (.int .i64 a) := (blk_cell h 1).trans rfl
  clear h
  go_enter Tryd.func39, Tryd.ntmps39
  go_wp2
  exact ⟨rfl, rfl, rfl⟩
end Go.Proofs.YtlaijeeeblcinaaDoor.A
