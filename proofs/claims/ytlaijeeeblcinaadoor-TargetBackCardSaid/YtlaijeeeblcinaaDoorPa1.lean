/- target.Parse: in plain Lean; the door; the three results in memory. -/
import Derived.Test.YtlaijeeeblcinaaDoorCa
import Derived.Test.YtlaijeeeblcinaaDoorTgtCheck
import Derived.Test.YtlaijeeeblcinaaDoorWAll
set_option linter.all false
set_option linter.unusedVariables false
set_option linter.unusedSimpArgs false
set_option maxRecDepth 100000
namespace Go.Proofs.YtlaijeeeblcinaaDoor.A
open Go.RowKit Go.Proofs.YtlaijeeeblcinaaDoorW.PrintWords Go.Proofs.YtlaijeeeblcinaaDoorW.PrintLast Go.Proofs.YtlaijeeeblcinaaDoorW.PrintMore
set_option maxHeartbeats 8000000
def dataW : ByteArray := ⟨#[100, 97, 116, 97]⟩
def entryW : ByteArray := ⟨#[101, 110, 116, 114, 121]⟩
/-- the words of an image's memory -/
def dataF (s : ByteArray) : Nat → List Int → Tok → Option (Except Int (List Int × Tok))
 | 0, _, _ => none
 | k + 1, l, t =>
  if t.sort = 97 ∧ t.text.toList = dataW.toList then
   match nextP s t with
   | .error p => some (.error p)
   | .ok a => match numberP s 2 a with
    | .error p => some (.error p)
    | .ok b => if l.length < 1000000 then match wantP s ⟨#[59]⟩ b.2 with
     | .error p => some (.error p)
     | .ok c => dataF s k (l ++ [b.1]) c
     else none
  else some (.ok (l, t))
/-- the instructions -/
def codeF (s : ByteArray) : Nat → List Int → Tok → Option (Except Int (List Int))
 | 0, _, _ => none
 | k + 1, l, t =>
  if t.sort = 0 then some (.ok l)
  else if t.sort ≠ 97 ∨ (namedP t.text).2 = false then some (.error t.at_)
  else match nextP s t with
   | .error p => some (.error p)
   | .ok a => match instrP s (namedP t.text).1 a with
    | .error p => some (.error p)
    | .ok b => (target_words.f l b.1.1 b.1.2.1 b.1.2.2.1 b.1.2.2.2.1 b.1.2.2.2.2).bind fun l' => codeF s k l' b.2
def tok0 : Tok := ⟨0, 0, 0, ByteArray.empty, 0⟩
abbrev PRes := List Int × List Int × Int × Int × Int
def headP (s : ByteArray) : Except Int (Int × Tok) :=
 (nextP s tok0).bind fun a => (wantP s entryW a).bind fun b => (numberP s 3 b).bind fun c => (wantP s ⟨#[59]⟩ c.2).bind fun d => .ok (c.1, d)
def bad (p : Int) : PRes := ([], [], 0, p, 6)
def parseP (k : Nat) (s : ByteArray) : Option PRes :=
 if s.size > 600000 then some ([], [], 0, 0, 3)
 else match headP s with
  | .error p => some (bad p)
  | .ok h => (dataF s k [] h.2).bind fun
   | .error p => some (bad p)
   | .ok d => (codeF s k [] d.2).bind fun
    | .error p => some (bad p)
    | .ok c => (target_Check.f k c d.1 h.1).bind fun e => some (if e = 0 then (c, d.1, h.1, 0, 0) else ([], [], 0, 0, e))
/-- what a call of Parse leaves -/
def PPost (w : World) (r : PRes) (e : Ending) (w' : World) : Prop :=
 ∃ v0 v1 : Value, e = .returned (.tuple #[.agg #[v0, v1, .int .i64 r.2.2.1], .int .i64 r.2.2.2.1, .int .i64 r.2.2.2.2]) ∧ Kd.R (Kd.int .u64) 48 w' w.heap.size (fun _ => True) v0 r.1 ∧ Kd.R (Kd.int .i64) 2 w' w.heap.size (fun _ => True) v1 r.2.1 ∧ Below w.heap.size w w'
theorem f19_results : Tryd.f19.results = #[.cell 2 35, .cell 3 3, .cell 4 28] := rfl
theorem results_f19 (tmps : Array Value) (w : World) (b2 b3 b4 : Nat) (v0 v1 : Value) (en a e : Int)
  (p2 : tmps.getD 2 undef = .pointer (some ⟨b2, 0, none⟩)) (p3 : tmps.getD 3 undef = .pointer (some ⟨b3, 0, none⟩)) (p4 : tmps.getD 4 undef = .pointer (some ⟨b4, 0, none⟩))
  (h2 : w.heap[b2]? = some (.cells #[v0, v1, .int .i64 en] 35 (0, 0))) (h3 : w.heap[b3]? = some (.cells #[.int .i64 a] 3 (0, 0))) (h4 : w.heap[b4]? = some (.cells #[.int .i64 e] 28 (0, 0))) :
  (results Tryd.f19 tmps).run Tryd.prog w = .ok (.tuple #[.agg #[v0, v1, .int .i64 en], .int .i64 a, .int .i64 e]) w := by
 have q2 : tmps[2]?.getD undef = .pointer (some ⟨b2, 0, none⟩) := by simpa using p2
 have q3 : tmps[3]?.getD undef = .pointer (some ⟨b3, 0, none⟩) := by simpa using p3
 have q4 : tmps[4]?.getD undef = .pointer (some ⟨b4, 0, none⟩) := by simpa using p4
 have c3 : w.cell? ⟨b3, 0, none⟩ = some (.int .i64 a) := (blk_cell h3 0).trans rfl
 have c4 : w.cell? ⟨b4, 0, none⟩ = some (.int .i64 e) := (blk_cell h4 0).trans rfl
 have c20 : w.cell? ⟨b2, 0, none⟩ = some v0 := (blk_cell h2 0).trans rfl
 have c21 : w.cell? ⟨b2, 1, none⟩ = some v1 := (blk_cell h2 1).trans rfl
 have c22 : w.cell? ⟨b2, 2, none⟩ = some (.int .i64 en) := (blk_cell h2 2).trans rfl
 simp [results, f19_results, q2, q3, q4, asAddr, go_sem, c3, c4, c20, c21, c22]
theorem badSet_blks {w : World} {b2 b3 b4 : Nat} {v0 v1 : Value} {en a e0 : Int} (p : Int) (h2 : w.heap[b2]? = some (.cells #[v0, v1, .int .i64 en] 35 (0, 0))) (h3 : w.heap[b3]? = some (.cells #[.int .i64 a] 3 (0, 0))) (h4 : w.heap[b4]? = some (.cells #[.int .i64 e0] 28 (0, 0)))
  (n23 : b2 ≠ b3) (n24 : b2 ≠ b4) (n34 : b3 ≠ b4) :
  (badSet w b2 b3 b4 p).heap[b2]? = some (.cells #[.slice none 0 0, .slice none 0 0, .int .i64 0] 35 (0, 0)) ∧ (badSet w b2 b3 b4 p).heap[b3]? = some (.cells #[.int .i64 p] 3 (0, 0)) ∧ (badSet w b2 b3 b4 p).heap[b4]? = some (.cells #[.int .i64 6] 28 (0, 0)) := by
 unfold badSet
 refine ⟨?_, ?_, ?_⟩
 ·exact blk_far (blk_far ((blk_set (blk_set (blk_set h2 0 _) 1 _) 2 _).trans rfl) (p := ⟨b3, 0, none⟩) n23 _) (p := ⟨b4, 0, none⟩) n24 _
 ·exact blk_far ((blk_set (blk_far (blk_far (blk_far h3 (p := ⟨b2, 0, none⟩) (Ne.symm n23) _) (p := ⟨b2, 1, none⟩) (Ne.symm n23) _) (p := ⟨b2, 2, none⟩) (Ne.symm n23) _) 0 _).trans rfl) (p := ⟨b4, 0, none⟩) n34 _
 ·exact (blk_set (blk_far (blk_far (blk_far (blk_far h4 (p := ⟨b2, 0, none⟩) (Ne.symm n24) _) (p := ⟨b2, 1, none⟩) (Ne.symm n24) _) (p := ⟨b2, 2, none⟩) (Ne.symm n24) _) (p := ⟨b3, 0, none⟩) (Ne.symm n34) _) 0 _).trans rfl
theorem badSet_below {w w1 : World} {b2 b3 b4 : Nat} (h : Below w.heap.size w w1) (h2 : w.heap.size ≤ b2) (h3 : w.heap.size ≤ b3) (h4 : w.heap.size ≤ b4) (p : Int) : Below w.heap.size w (badSet w1 b2 b3 b4 p) :=
 below_set (below_set (below_set (below_set (below_set h h2) h2) h2) h3) h4
/-- the three variables of the call -/
structure Vars (w0 w : World) (v0 v1 : Value) (en : Int) : Prop where
 b2 : w.heap[w0.heap.size]? = some (.cells #[v0, v1, .int .i64 en] 35 (0, 0))
 b3 : w.heap[w0.heap.size + 1]? = some (.cells #[.int .i64 0] 3 (0, 0))
 b4 : w.heap[w0.heap.size + 2]? = some (.cells #[.int .i64 0] 28 (0, 0))
/-- the door, behind a failure -/
theorem door_bad {w0 w : World} {v0 v1 : Value} {en : Int} {p : Int} {T : Array Value} (hv : Vars w0 w v0 v1 en) (hb : Below w0.heap.size w0 w)
  (p2 : T.getD 2 undef = .pointer (some ⟨w0.heap.size, 0, none⟩)) (p3 : T.getD 3 undef = .pointer (some ⟨w0.heap.size + 1, 0, none⟩)) (p4 : T.getD 4 undef = .pointer (some ⟨w0.heap.size + 2, 0, none⟩)) {r : PRes} (hr : r = bad p) :
  Leaves Tryd.prog Tryd.f19 T (PPost w0 r) [{ target := Target.fn (Fn.func 34) #[.pointer (some ⟨w0.heap.size, 0, none⟩), .pointer (some ⟨w0.heap.size + 1, 0, none⟩), .pointer (some ⟨w0.heap.size + 2, 0, none⟩)], args := #[] }] (.panicking [{ v := .iface 65 (.int .i64 p), recovered := false }]) w := by
 subst hr
 refine leaves_cons (f := 34) (args := #[.pointer (some ⟨w0.heap.size, 0, none⟩), .pointer (some ⟨w0.heap.size + 1, 0, none⟩), .pointer (some ⟨w0.heap.size + 2, 0, none⟩)]) (by simp) (by simp [go_sem]) ?_
 refine (catch_panicking w0.heap.size (w0.heap.size + 1) (w0.heap.size + 2) v0 v1 en 0 0 p [] w hv.b2 hv.b3 hv.b4 (by omega) (by omega) (by omega)).mono ?_
 rintro e u' w'' ⟨rfl, rfl, rfl⟩
 obtain ⟨g2, g3, g4⟩ := badSet_blks p hv.b2 hv.b3 hv.b4 (by omega) (by omega) (by omega)
 have hres := results_f19 T _ _ _ _ _ _ _ _ _ p2 p3 p4 g2 g3 g4
 have hs : settle (.panicking [{ v := .iface 65 (.int .i64 p), recovered := true }]) = .returning := by rfl
 show Leaves Tryd.prog Tryd.f19 T (PPost w0 (bad p)) [] (settle (.panicking [{ v := .iface 65 (.int .i64 p), recovered := true }])) _
 rw [hs]
 exact ⟨_, hres, _, _, rfl, Kd.R_nil _ _ _ _ _, Kd.R_nil _ _ _ _ _, badSet_below hb (Nat.le_refl _) (by omega) (by omega) p⟩
/-- .. behind a return -/
theorem door_ok {w0 w : World} {v0 v1 : Value} {en a e : Int} {T : Array Value} (h2 : w.heap[w0.heap.size]? = some (.cells #[v0, v1, .int .i64 en] 35 (0, 0))) (h3 : w.heap[w0.heap.size + 1]? = some (.cells #[.int .i64 a] 3 (0, 0))) (h4 : w.heap[w0.heap.size + 2]? = some (.cells #[.int .i64 e] 28 (0, 0)))
  (p2 : T.getD 2 undef = .pointer (some ⟨w0.heap.size, 0, none⟩)) (p3 : T.getD 3 undef = .pointer (some ⟨w0.heap.size + 1, 0, none⟩)) (p4 : T.getD 4 undef = .pointer (some ⟨w0.heap.size + 2, 0, none⟩)) {r : PRes} {c d : List Int} (hr : r = (c, d, en, a, e))
  (hc : Kd.R (Kd.int .u64) 48 w w0.heap.size (fun _ => True) v0 c) (hd : Kd.R (Kd.int .i64) 2 w w0.heap.size (fun _ => True) v1 d) (hb : Below w0.heap.size w0 w) :
  Leaves Tryd.prog Tryd.f19 T (PPost w0 r) [{ target := Target.fn (Fn.func 34) #[.pointer (some ⟨w0.heap.size, 0, none⟩), .pointer (some ⟨w0.heap.size + 1, 0, none⟩), .pointer (some ⟨w0.heap.size + 2, 0, none⟩)], args := #[] }] .returning w := by
 subst hr
 refine leaves_cons (f := 34) (args := #[.pointer (some ⟨w0.heap.size, 0, none⟩), .pointer (some ⟨w0.heap.size + 1, 0, none⟩), .pointer (some ⟨w0.heap.size + 2, 0, none⟩)]) (by simp) (by simp [go_sem]) ?_
 refine (catch_idle _ _ _ w).mono ?_
 rintro e u' w'' ⟨rfl, rfl, rfl⟩
 have hres := results_f19 T _ _ _ _ _ _ _ _ _ p2 p3 p4 h2 h3 h4
 exact ⟨_, hres, _, _, rfl, hc, hd, hb⟩
theorem leaves_tmps {P : Program} {fn : Func} {t1 t2 : Array Value} {R : Ending → World → Prop} (h : ∀ w, (results fn t1).run P w = (results fn t2).run P w) : ∀ (ds : List Deferred) (u : FrameMode) (w : World), Leaves P fn t1 R ds u w → Leaves P fn t2 R ds u w := by
 intro ds
 induction ds with
 | nil =>
  intro u w hl
  cases u with
  | run => exact hl
  | returning => obtain ⟨v, hr, hR⟩ := hl; exact ⟨v, (h w).symm.trans hr, hR⟩
  | panicking c => exact hl
 | cons d ds ih =>
  intro u w hl
  obtain ⟨hu, fv, cap, f, args, h1, h2, h3⟩ := hl
  refine ⟨hu, fv, cap, f, args, h1, h2, h3.mono ?_⟩
  intro e u' w' hq
  cases e with
  | returned v => exact ih _ _ hq
  | panicked c => exact ih _ _ hq
  | outgrown => exact hq
/-- a slot that is no result's does not matter at a panic -/
theorem panic_put {R : Ending → World → Prop} {d : Nat} (hd : d ≠ 2 ∧ d ≠ 3 ∧ d ≠ 4) {v : Value} {c : List PanicEntry} {a : Act} {w : World} (h : bodyPostD Tryd.prog Tryd.f19 R (.panic c) (a.put (some d) v) w) : bodyPostD Tryd.prog Tryd.f19 R (.panic c) a w := by
 refine leaves_tmps ?_ _ _ _ h
 intro w
 obtain ⟨h2, h3, h4⟩ := hd
 have g : ∀ i : Nat, d ≠ i → (a.tmps.setIfInBounds d v)[i]?.getD undef = a.tmps[i]?.getD undef := by
  intro i hi
  rw [Array.getElem?_setIfInBounds_ne hi]
 show (results Tryd.f19 (a.tmps.setIfInBounds d v)).run Tryd.prog w = _
 simp only [results, f19_results, List.mapM_cons, List.mapM_nil, g 2 h2, g 3 h3, g 4 h4, Array.getD_eq_getD_getElem?]
 simp [g 2 h2, g 3 h3, g 4 h4]
end Go.Proofs.YtlaijeeeblcinaaDoor.A
set_option linter.all false
set_option linter.unusedVariables false
set_option linter.unusedSimpArgs false
set_option maxRecDepth 100000
namespace Go.Proofs.YtlaijeeeblcinaaDoor.A
open Go.RowKit Go.Proofs.YtlaijeeeblcinaaDoorW.PrintWords Go.Proofs.YtlaijeeeblcinaaDoorW.PrintLast Go.Proofs.YtlaijeeeblcinaaDoorW.PrintMore
set_option maxHeartbeats 8000000
abbrev RU (w : World) (B : Nat) (v : Value) (c : List Int) : Prop := Kd.R (Kd.int .u64) 48 w B (fun _ => True) v c
abbrev RI (w : World) (B : Nat) (v : Value) (c : List Int) : Prop := Kd.R (Kd.int .i64) 2 w B (fun _ => True) v c
/-- the call's variables, its reader, its two rows -/
structure PS (w0 w : World) (s : ByteArray) (t : Tok) (v0 v1 : Value) (en : Int) (c d : List Int) : Prop where
 vars : Vars w0 w v0 v1 en
 rd : RdAt w (w0.heap.size + 3) s t
 below : Below w0.heap.size w0 w
 own0 : RU w w0.heap.size v0 c
 own1 : RI w w0.heap.size v1 d
 big : 8 ≤ w0.heap.size
 env0 : Env w0
section
variable {w0 w w' : World} {s : ByteArray} {t k : Tok} {v0 v1 : Value} {en : Int} {c d : List Int}
theorem Below.chg' {B g : Nat} (h : Below B w0 w) (hc : Chg (· = g) w w') (hg : B ≤ g) (hB : B ≤ w.heap.size) : Below B w0 w' :=
 h.trans (hc.below (B := B) hB (fun k hk e => by omega))
theorem PS.size (h : PS w0 w s t v0 v1 en c d) : w0.heap.size + 3 < w.heap.size := blk_lt h.rd.blk
theorem R_chg {e g : Nat} {k0 : IntKind} {B : Nat} {v : Value} {xs : List Int} {cells : Array Value} (h : Kd.R (Kd.int k0) e w B (fun _ => True) v xs) (hb : w.heap[g]? = some (.cells cells 71 (0, 0))) (he : e ≠ 71) (hc : Chg (· = g) w w') : Kd.R (Kd.int k0) e w' B (fun _ => True) v xs :=
 Kd.R_mono (Kd.R_step (Kd.R_types h hb (by intro q hq; simp only [List.mem_cons] at hq; rcases hq with rfl | hq; (· exact he); (· exact absurd hq (by simp [Kd.int, Kd.scalar])))) (fun k ho hlt => hc.block k hlt (fun e => ho.2 e))) (fun _ hk => hk.1)
theorem PS.chg (h : PS w0 w s t v0 v1 en c d) (hr : RdAt w' (w0.heap.size + 3) s k) (hc : Chg (· = w0.heap.size + 3) w w') : PS w0 w' s k v0 v1 en c d :=
 ⟨⟨hc.blk h.vars.b2 (by omega), hc.blk h.vars.b3 (by omega), hc.blk h.vars.b4 (by omega)⟩, hr, Below.chg' h.below hc (by omega) (by have := h.size; omega), R_chg h.own0 h.rd.blk (by decide) hc, R_chg h.own1 h.rd.blk (by decide) hc, h.big, h.env0⟩
theorem PS.alloc (h : PS w0 w s t v0 v1 en c d) (o : Obj) : PS w0 (w.alloc o) s t v0 v1 en c d :=
 ⟨⟨blk_alloc h.vars.b2 o, blk_alloc h.vars.b3 o, blk_alloc h.vars.b4 o⟩, h.rd.alloc o, below_alloc h.below o, Kd.R_alloc h.own0 o, Kd.R_alloc h.own1 o, h.big, h.env0⟩
theorem PS.drew (h : PS w0 w s t v0 v1 en c d) : PS w0 w.drew s t v0 v1 en c d :=
 ⟨⟨h.vars.b2, h.vars.b3, h.vars.b4⟩, h.rd.drew, below_drew1 h.below, Kd.R_drew h.own0, Kd.R_drew h.own1, h.big, h.env0⟩
theorem PS.bel (h : PS w0 w s t v0 v1 en c d) (hb : Below w.heap.size w w') : PS w0 w' s t v0 v1 en c d :=
 ⟨⟨blk_below h.vars.b2 hb, blk_below h.vars.b3 hb, blk_below h.vars.b4 hb⟩, h.rd.chg (Chg.of_below hb) (blk_below h.rd.blk hb) h.rd.le, below_step h.below hb, Kd.R_below h.own0 hb, Kd.R_below h.own1 hb, h.big, h.env0⟩
theorem PS.setEn (h : PS w0 w s t v0 v1 en c d) (v : Int) : PS w0 (w.setCell ⟨w0.heap.size, 2, none⟩ (.int .i64 v)) s t v0 v1 v c d :=
 ⟨⟨(blk_set h.vars.b2 2 _).trans rfl, blk_far h.vars.b3 (p := ⟨w0.heap.size, 2, none⟩) (by show w0.heap.size + 1 ≠ w0.heap.size; omega) _, blk_far h.vars.b4 (p := ⟨w0.heap.size, 2, none⟩) (by show w0.heap.size + 2 ≠ w0.heap.size; omega) _⟩, h.rd.set (by omega) h.big 2 _, below_set h.below (Nat.le_refl _), Kd.R_set h.own0 h.vars.b2 (by decide) 2 _, Kd.R_set h.own1 h.vars.b2 (by decide) 2 _, h.big, h.env0⟩
theorem Vars.of {W : World} (h : Vars w0 w v0 v1 en) {P : Nat → Prop} (hk : ∀ k, k < w.heap.size → ¬ P k → W.heap[k]? = w.heap[k]?) (hP : ∀ g t cells, w.heap[g]? = some (.cells cells t (0, 0)) → t ≠ 48 → t ≠ 2 → ¬ P g) : Vars w0 W v0 v1 en :=
 ⟨(hk _ (blk_lt h.b2) (hP _ _ _ h.b2 (by decide) (by decide))).trans h.b2, (hk _ (blk_lt h.b3) (hP _ _ _ h.b3 (by decide) (by decide))).trans h.b3, (hk _ (blk_lt h.b4) (hP _ _ _ h.b4 (by decide) (by decide))).trans h.b4⟩
theorem RdAt.of {W : World} {g : Nat} (h : RdAt w g s t) {P : Nat → Prop} (hk : ∀ k, k < w.heap.size → ¬ P k → W.heap[k]? = w.heap[k]?) (hP : ∀ g t cells, w.heap[g]? = some (.cells cells t (0, 0)) → t ≠ 48 → t ≠ 2 → ¬ P g) (hE : Env W) : RdAt W g s t :=
 ⟨(hk _ (blk_lt h.blk) (hP _ _ _ h.blk (by decide) (by decide))).trans h.blk, h.le, h.size, hE, h.big⟩
theorem own_typed' {e : Nat} {k0 : IntKind} {B : Nat} {v : Value} {xs : List Int} (h : Kd.R (Kd.int k0) e w B (fun _ => True) v xs) {g t : Nat} {cells : Array Value} (hb : w.heap[g]? = some (.cells cells t (0, 0))) (ht : t ≠ e) : ¬ v.ownBlock = some g := fun e_ => Kd.R_ne h hb (Ne.symm ht) e_.symm
/-- the data's row has grown, and is stored -/
theorem PS.data {W : World} {x : Value} {d' : List Int} (h : PS w0 w s t (.slice none 0 0) v1 en [] d) (hR : RI W w0.heap.size x d') (hb : Below w0.heap.size w0 W) (hg : w.grownBy W v1.ownBlock) : PS w0 (W.setCell ⟨w0.heap.size, 1, none⟩ x) s t (.slice none 0 0) x en [] d' := by
 have hk : ∀ k, k < w.heap.size → ¬ v1.ownBlock = some k → W.heap[k]? = w.heap[k]? := fun k hk hn => hg.block k hk (fun e => hn e.symm)
 have hP : ∀ g t cells, w.heap[g]? = some (.cells cells t (0, 0)) → t ≠ 48 → t ≠ 2 → ¬ v1.ownBlock = some g := fun g t cells hb _ h2 => own_typed' h.own1 hb h2
 have hE : Env W := h.env0.below hb h.big
 have hv := h.vars.of hk hP
 have hr := h.rd.of hk hP hE
 exact ⟨⟨(blk_set hv.b2 1 _).trans rfl, blk_far hv.b3 (p := ⟨w0.heap.size, 1, none⟩) (by show w0.heap.size + 1 ≠ w0.heap.size; omega) _, blk_far hv.b4 (p := ⟨w0.heap.size, 1, none⟩) (by show w0.heap.size + 2 ≠ w0.heap.size; omega) _⟩, hr.set (by omega) h.big 1 _, below_set hb (Nat.le_refl _), Kd.R_nil _ _ _ _ _, Kd.R_set hR hv.b2 (by decide) 1 _, h.big, h.env0⟩
/-- the code's row has grown, and is stored -/
theorem PS.code {W : World} {x : Value} {c' : List Int} (h : PS w0 w s t v0 v1 en c d) (hR : RU W w0.heap.size x c') (hb : Below w0.heap.size w0 W) (hk : Kept w W (fun k => some k = v0.ownBlock)) : PS w0 (W.setCell ⟨w0.heap.size, 0, none⟩ x) s t x v1 en c' d := by
 have hk' : ∀ k, k < w.heap.size → ¬ some k = v0.ownBlock → W.heap[k]? = w.heap[k]? := fun k hk2 hn => hk.2 k hk2 hn
 have hP : ∀ g t cells, w.heap[g]? = some (.cells cells t (0, 0)) → t ≠ 48 → t ≠ 2 → ¬ some g = v0.ownBlock := fun g t cells hb h1 _ e => own_typed' h.own0 hb h1 e.symm
 have hE : Env W := h.env0.below hb h.big
 have hv := h.vars.of hk' hP
 have hr := h.rd.of hk' hP hE
 have h1 : RI W w0.heap.size v1 d := Kd.R_mono (Kd.R_step (Kd.R_tight rfl h.own1) (fun k ho hlt => hk.2 k hlt (fun e => by
  obtain ⟨cells, hc⟩ := Kd.R_typed h.own1 k ho.symm
  exact own_typed' h.own0 hc (by decide) e.symm))) (fun _ _ => trivial)
 exact ⟨⟨(blk_set hv.b2 0 _).trans rfl, blk_far hv.b3 (p := ⟨w0.heap.size, 0, none⟩) (by show w0.heap.size + 1 ≠ w0.heap.size; omega) _, blk_far hv.b4 (p := ⟨w0.heap.size, 0, none⟩) (by show w0.heap.size + 2 ≠ w0.heap.size; omega) _⟩, hr.set (by omega) h.big 0 _, below_set hb (Nat.le_refl _), Kd.R_set hR hv.b2 (by decide) 0 _, Kd.R_set h1 hv.b2 (by decide) 0 _, h.big, h.env0⟩
end
end Go.Proofs.YtlaijeeeblcinaaDoor.A
