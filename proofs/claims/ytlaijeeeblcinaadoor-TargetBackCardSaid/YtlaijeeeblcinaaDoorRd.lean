/- The tokens of target's texts, in plain Lean: what stands between two tokens, where a word and where digits end, and which token begins at a place. -/
import Derived.Test.YtlaijeeeblcinaaDoorWAll
import Derived.Lib.ParseIntB
import Derived.Lib.ItoaNum
import Derived.Test.YtlaijeeeblcinaaDoorTgtTab
import Derived.WalkSmall
import Derived.Test.YtlaijeeeblcinaaDoorAx1
import Derived.Deep.RegionWith
set_option linter.all false
set_option linter.unusedVariables false
namespace Go.Proofs.YtlaijeeeblcinaaDoor.A
open Go.RowKit Go.Proofs.YtlaijeeeblcinaaDoorW.PrintWords
def isLow (b : Int) : Bool := decide (97 ≤ b) && decide (b ≤ 122)
def isDig (b : Int) : Bool := decide (48 ≤ b) && decide (b ≤ 57)
def isBlk (b : Int) : Bool := b == 32 || b == 9 || b == 13 || b == 10
/-- the first place from i on, of n, at which p does not hold of the byte -/
def runTo (p : Int → Bool) (s : ByteArray) : Nat → Nat → Nat
 | 0, i => i
 | n + 1, i => if p (bt s i) then runTo p s n (i + 1) else i
/-- .. in the whole text -/
def endOf_ (p : Int → Bool) (s : ByteArray) (i : Nat) : Nat := runTo p s (s.size - i) i
theorem endOf_ge (p : Int → Bool) (s : ByteArray) (i : Nat) : i ≤ endOf_ p s i := by
 have : ∀ n i, i ≤ runTo p s n i := by
  intro n
  induction n with
  | zero => intro i; exact Nat.le_refl _
  | succ n ih =>
   intro i
   unfold runTo
   split
   ·exact Nat.le_trans (Nat.le_succ _) (ih (i + 1))
   ·exact Nat.le_refl _
 exact this _ _
theorem endOf_le (p : Int → Bool) (s : ByteArray) (i : Nat) (h : i ≤ s.size) : endOf_ p s i ≤ s.size := by
 have : ∀ n i, runTo p s n i ≤ i + n := by
  intro n
  induction n with
  | zero => intro i; exact Nat.le_refl _
  | succ n ih =>
   intro i
   unfold runTo
   split
   ·have := ih (i + 1); omega
   ·omega
 have := this (s.size - i) i
 unfold endOf_; omega
theorem endOf_step {p : Int → Bool} {s : ByteArray} {i : Nat} (h : i < s.size) (hp : p (bt s i) = true) : endOf_ p s i = endOf_ p s (i + 1) := by
 unfold endOf_
 rw [show s.size - i = (s.size - (i + 1)) + 1 by omega]
 show (if p (bt s i) = true then _ else _) = _
 rw [if_pos hp]
theorem endOf_stop {p : Int → Bool} {s : ByteArray} {i : Nat} (hp : p (bt s i) = false) : endOf_ p s i = i := by
 unfold endOf_
 cases s.size - i with
 | zero => rfl
 | succ n =>
  show (if p (bt s i) = true then _ else _) = _
  rw [if_neg (by rw [hp]; decide)]
theorem endOf_end {p : Int → Bool} {s : ByteArray} {i : Nat} (h : s.size ≤ i) : endOf_ p s i = i := by
 unfold endOf_
 rw [show s.size - i = 0 by omega]
 rfl
def lineEnd (s : ByteArray) (i : Nat) : Nat := endOf_ (fun b => b != 10) s i
def wordEnd (s : ByteArray) (i : Nat) : Nat := endOf_ (fun b => isLow b || isDig b) s i
def digEnd (s : ByteArray) (i : Nat) : Nat := endOf_ isDig s i
/-- behind blanks and remarks -/
def skipN (s : ByteArray) : Nat → Nat → Nat
 | 0, i => i
 | n + 1, i => if i < s.size then (if isBlk (bt s i) then skipN s n (i + 1) else if bt s i == 35 then skipN s n (lineEnd s i) else i) else i
theorem line_gt {s : ByteArray} {i : Nat} (h : i < s.size) (hb : bt s i = 35) : i + 1 ≤ lineEnd s i := by
 unfold lineEnd
 rw [endOf_step h (by rw [hb]; rfl)]
 exact endOf_ge _ _ _
theorem skipN_enough (s : ByteArray) : ∀ (n m i : Nat), s.size - i ≤ n → s.size - i ≤ m → skipN s n i = skipN s m i := by
 intro n
 induction n with
 | zero =>
  intro m i h1 h2
  cases m with
  | zero => rfl
  | succ m =>
   show i = _
   unfold skipN
   rw [if_neg (by omega)]
 | succ n ih =>
  intro m i h1 h2
  cases m with
  | zero =>
   show skipN s (n + 1) i = i
   unfold skipN
   rw [if_neg (by omega)]
  | succ m =>
   unfold skipN
   by_cases c : i < s.size
   ·rw [if_pos c, if_pos c]
    by_cases c1 : isBlk (bt s i) = true
    ·rw [if_pos c1, if_pos c1]; exact ih _ _ (by omega) (by omega)
    ·rw [if_neg c1, if_neg c1]
     by_cases c2 : (bt s i == 35) = true
     ·rw [if_pos c2, if_pos c2]
      have := line_gt c (beq_iff_eq.1 c2)
      exact ih _ _ (by omega) (by omega)
     ·rw [if_neg c2, if_neg c2]
   ·rw [if_neg c, if_neg c]
def skipP (s : ByteArray) (i : Nat) : Nat := skipN s (s.size - i) i
theorem skip_end {s : ByteArray} {i : Nat} (h : s.size ≤ i) : skipP s i = i := by
 unfold skipP
 rw [show s.size - i = 0 by omega]
 rfl
theorem skip_blank {s : ByteArray} {i : Nat} (h : i < s.size) (hb : isBlk (bt s i) = true) : skipP s i = skipP s (i + 1) := by
 unfold skipP
 rw [show s.size - i = (s.size - (i + 1)) + 1 by omega]
 show (if i < s.size then (if isBlk (bt s i) = true then skipN s (s.size - (i + 1)) (i + 1) else _) else _) = _
 rw [if_pos h, if_pos hb]
theorem skip_hash {s : ByteArray} {i : Nat} (h : i < s.size) (hb : bt s i = 35) : skipP s i = skipP s (lineEnd s i) := by
 unfold skipP
 have h1 := line_gt h hb
 have hn : isBlk (bt s i) = false := by rw [hb]; rfl
 rw [show s.size - i = (s.size - (i + 1)) + 1 by omega]
 show (if i < s.size then (if isBlk (bt s i) = true then _ else if (bt s i == 35) = true then skipN s (s.size - (i + 1)) (lineEnd s i) else _) else _) = _
 rw [if_pos h, if_neg (by rw [hn]; decide), if_pos (by rw [hb]; rfl)]
 exact skipN_enough s _ _ _ (by omega) (by omega)
theorem skip_stop {s : ByteArray} {i : Nat} (hb : isBlk (bt s i) = false) (hc : bt s i ≠ 35) : skipP s i = i := by
 unfold skipP
 cases s.size - i with
 | zero => rfl
 | succ n =>
  show (if i < s.size then (if isBlk (bt s i) = true then _ else if (bt s i == 35) = true then _ else i) else i) = i
  by_cases c : i < s.size
  ·rw [if_pos c, if_neg (by rw [hb]; decide), if_neg (by simpa using hc)]
  ·rw [if_neg c]
theorem skip_le (s : ByteArray) (i : Nat) (h : i ≤ s.size) : skipP s i ≤ s.size := by
 have : ∀ n i, i ≤ s.size → skipN s n i ≤ s.size := by
  intro n
  induction n with
  | zero => intro i h; exact h
  | succ n ih =>
   intro i h
   unfold skipN
   split
   ·split
    ·exact ih _ (by omega)
    ·split
     ·exact ih _ (endOf_le _ _ _ h)
     ·exact h
   ·exact h
 exact this _ _ h
/-- a number in its canonical form -/
def numP (t : List UInt8) : Option Int :=
 match Lib.parseIntB 64 t with
 | .ok v => if Lib.itoa v = t then some v else none
 | _ => none
/-- a token: its place, the place behind it, its sort, its text, its value -/
structure Tok where
 at_ : Nat
 end_ : Nat
 sort : Int
 text : ByteArray
 val : Int
/-- the token at or behind a place; none: no token begins there -/
def tokP (s : ByteArray) (i : Nat) : Option Tok :=
 let a := skipP s i
 let b := bt s a
 if a = s.size then some ⟨a, a, 0, ByteArray.empty, 0⟩
 else if isLow b then some ⟨a, wordEnd s (a + 1), 97, s.extract a (wordEnd s (a + 1)), 0⟩
 else if isDig b || b == 45 then
  match numP (s.extract a (digEnd s (a + 1))).data.toList with
  | some v => some ⟨a, digEnd s (a + 1), 48, s.extract a (digEnd s (a + 1)), v⟩
  | none => none
 else if b == 44 || b == 59 || b == 40 || b == 41 then some ⟨a, a + 1, b, s.extract a (a + 1), 0⟩
 else none
end Go.Proofs.YtlaijeeeblcinaaDoor.A
set_option linter.all false
set_option linter.unusedVariables false
set_option maxRecDepth 100000
namespace Go.Proofs.YtlaijeeeblcinaaDoor.A
open Go.RowKit Go.Proofs.YtlaijeeeblcinaaDoorW.PrintWords Go.Proofs.YtlaijeeeblcinaaDoorW.PrintLast Go.Proofs.YtlaijeeeblcinaaDoorW.PrintMore
set_option maxHeartbeats 4000000
/-- what a call may turn: blocks of P, and new ones -/
structure Chg (P : Nat → Prop) (w w' : World) : Prop where
 os : w'.os = w.os
 tape : w'.tape = w.tape
 output : w'.output = w.output
 size : w.heap.size ≤ w'.heap.size
 block : ∀ k, k < w.heap.size → ¬ P k → w'.heap[k]? = w.heap[k]?
section
variable {P : Nat → Prop} {w w' w1 : World}
theorem Chg.refl (P : Nat → Prop) (w : World) : Chg P w w := ⟨rfl, rfl, rfl, Nat.le_refl _, fun _ _ _ => rfl⟩
theorem Chg.trans {P : Nat → Prop} {w w1 w' : World} (h : Chg P w w1) (k : Chg P w1 w') : Chg P w w' :=
 ⟨k.os.trans h.os, k.tape.trans h.tape, k.output.trans h.output, Nat.le_trans h.size k.size, fun i hi hn => (k.block i (Nat.lt_of_lt_of_le hi h.size) hn).trans (h.block i hi hn)⟩
theorem Chg.of_below (h : Below w.heap.size w w') : Chg P w w' := ⟨h.os, h.tape, h.output, h.size, fun k hk _ => h.block k hk⟩
theorem Chg.alloc (h : Chg P w w1) (o : Obj) : Chg P w (w1.alloc o) := h.trans (.of_below (below_alloc (Below.refl _ _) o))
theorem Chg.drew (h : Chg P w w1) : Chg P w w1.drew := h.trans (.of_below (below_drew1 (Below.refl _ _)))
theorem Chg.drewN (h : Chg P w w1) (n : Nat) : Chg P w (w1.drewN n) := h.trans (.of_below (pw_below_drewN (Below.refl _ _) n))
theorem Chg.setCell (h : Chg P w w1) {a : Addr} (hp : P a.block) (v : Value) : Chg P w (w1.setCell a v) :=
 h.trans ⟨rfl, rfl, rfl, by simp, fun k hk hn => Below.heap_setCell w1 a v k (fun e => hn (e ▸ hp))⟩
theorem Chg.grown (h : Chg P w w1) {row : Option Nat} (hg : w1.grownBy w' row) (hr : ∀ k, row = some k → P k) : Chg P w w' :=
 h.trans ⟨hg.os, hg.tape, hg.output, hg.size, fun k hk hn => hg.block k hk (fun e => hn (hr k e.symm))⟩
theorem Chg.below (h : Chg P w w') {B : Nat} (hB : B ≤ w.heap.size) (hn : ∀ k, k < B → ¬ P k) : Below B w w' := ⟨h.os, h.tape, h.output, h.size, fun k hk => h.block k (Nat.lt_of_lt_of_le hk hB) (hn k hk)⟩
theorem Chg.blk (h : Chg P w w') {g : Nat} {o : Obj} (hg : w.heap[g]? = some o) (hn : ¬ P g) : w'.heap[g]? = some o := (h.block g (blk_lt hg) hn).trans hg
theorem Chg.tab (h : Chg P w w') (hT : Tab w) (h0 : ¬ P 0) (h1 : ¬ P 1) : Tab w' := by
 obtain ⟨⟨a, ha⟩, b, hb⟩ := hT
 exact ⟨⟨a, h.blk ha h0⟩, b, h.blk hb h1⟩
end
/-- a reader's six cells -/
def rdc (s : ByteArray) (a e c : Int) (t : ByteArray) (v : Int) : Array Value := #[.string s, .int .i64 a, .int .i64 e, .int .u8 c, .string t, .int .i64 v]
/-- what fail hands up -/
abbrev failed (a : Int) : Ending := .panicked [{ v := .iface 65 (.int .i64 a), recovered := false }]
theorem fail_calls {w : World} {g : Nat} {s : ByteArray} {a e c : Int} {t : ByteArray} {v : Int} (h : w.heap[g]? = some (.cells (rdc s a e c t v) 71 (0, 0))) :
  Calls Tryd.prog 39 #[.pointer (some ⟨g, 0, none⟩)] w fun e' w' => e' = failed a ∧ w' = w := by
 have c1 : w.cell? ⟨g, 1, none⟩ = some (.int .i64 a) := (blk_cell h 1).trans rfl
 clear h
 go_enter Tryd.func39, Tryd.ntmps39
 go_wp2
 exact ⟨rfl, rfl, rfl⟩
end Go.Proofs.YtlaijeeeblcinaaDoor.A
